/- What the laws of worlds need beside: copies, needs, the numbers of a list; the draws of FnLogs and FnQuorums. -/
import Derived.Test.YtakcaanpnmkccaaR4
import Derived.Test.YtakcaanpnmkccaaK7
import Derived.Test.YtakcaanpnmkccaaE11
namespace Go.Av
open Go.Proofs
set_option maxRecDepth 100000
set_option maxHeartbeats 2000000
set_option linter.unusedVariables false
set_option linter.unusedSimpArgs false


/-! ### laws.lwBig -/
def pr6 (code : List Int) : Prop := True
noncomputable def rs6 (code : List Int) : V := .bool (decide (1048576 < code.length))
noncomputable def sp6 : FSpec := fun args bin => match args, bin with
  | [a0], [] => some (VLe a0 (encL encY 1 (((decL decY) a0))) ∧ pr6 ((decL decY) a0), rs6 ((decL decY) a0), [])
  | _, _ => none
noncomputable def D6 : Nat → Option (Bool × FSpec) := lk []
theorem da6 : SoundAll Try.prog D6 := soundAll_nil
noncomputable def cx6 (code : List Int) : Cx := ⟨tt, D6, Try.f6.ntmps, [0, 2], [], [], fun _ => none, [], noM, []⟩
theorem bd6 (code : List Int) (hpre : pr6 code) : bodyP (cx6 code) Try.f6 0 [encL encY 1 (code)] (fun rr => VLe rr (rs6 code)) := by
  have key :
      (VLe (V.bool (decide ((↑(List.length code) : Int) > (1048576 : Int))))
   (V.bool (decide (1048576 < List.length code)))) := by
    refine vle_bool ?_
    rw [Bool.eq_iff_iff]
    simp
    try omega
  exact Eq.mp (by kernel_rfl) key
theorem so6 : Sound Try.prog 6 sp6 := by
  refine sound_of_body hmix (pol := 0) Try.func6 rfl (by kernel_rfl) fun args bin ob r bout hDe hob => ?_
  unfold sp6 at hDe
  split at hDe
  · rename_i a0
    cases hDe
    exact ⟨rfl, rfl, Nat.le_of_ble_eq_true (by kernel_rfl), cx6 ((decL decY) a0), Eq.mp (by kernel_rfl) htt, Eq.mp (by kernel_rfl) da6, Eq.mp (by kernel_rfl) (noM_sound (P := Try.prog)), by kernel_rfl, [encL encY 1 (((decL decY) a0))], args_of_vles (⟨hob.1, trivial⟩), Eq.mp (by kernel_rfl) (bd6 ((decL decY) a0) (hob.2))⟩
  · cases hDe

/-! ### laws.lwNums -/
def pr13 (xs : List Int) (ys : List Int) : Prop := xs.length ≤ maxLen
noncomputable def rs13 (xs : List Int) (ys : List Int) : V := .bool (decide (xs = ys))
noncomputable def sp13 : FSpec := fun args bin => match args, bin with
  | [a0, a1], [] => some (VLe a0 (encL encI 1 (((decL decI) a0))) ∧ VLe a1 (encL encI 1 (((decL decI) a1))) ∧ pr13 ((decL decI) a0) ((decL decI) a1), rs13 ((decL decI) a0) ((decL decI) a1), [])
  | _, _ => none
noncomputable def in13_4 (xs : List Int) (ys : List Int) : LoopInv :=
  ⟨Nat, fun i => ⟨[(0, encL encI 1 xs), (1, encL encI 1 ys), (5, .int .i64 i)], []⟩,
    fun i => i ≤ xs.length ∧ xs.length = ys.length ∧ ∀ j, j < i → xs.getD j default = ys.getD j default, fun i => xs.length - i⟩
noncomputable def iv13 (xs : List Int) (ys : List Int) : Nat → Option LoopInv := fun rg_ => match rg_ with
  | 4 => some (in13_4 xs ys)
  | _ => none
noncomputable def D13 : Nat → Option (Bool × FSpec) := lk []
theorem da13 : SoundAll Try.prog D13 := soundAll_nil
noncomputable def cx13 (xs : List Int) (ys : List Int) : Cx := ⟨tt, D13, Try.f13.ntmps, [0, 1, 4, 5, 10, 14, 25], [(4, ⟨[(0, none), (1, none), (5, none)], []⟩)], [], iv13 xs ys, [], noM, []⟩
theorem bd13 (xs : List Int) (ys : List Int) (hpre : pr13 xs ys) : bodyP (cx13 xs ys) Try.f13 0 [encL encI 1 (xs), encL encI 1 (ys)] (fun rr => VLe rr (rs13 xs ys)) := by
  have key :
      (((((↑(List.length xs) : Int) != (↑(List.length ys) : Int)) = true) →
   (VLe (V.bool false) (V.bool (decide (xs = ys))))) ∧
   ((((↑(List.length xs) : Int) != (↑(List.length ys) : Int)) = false) →
   ((∃ x : Nat, ((SLe
   (AS.mk
   [(0, encL encI 1 xs), (1, encL encI 1 ys), (5, V.int IntKind.i64 (0 : Int))]
   [])
   (AS.mk
   [(0, encL encI 1 xs), (1, encL encI 1 ys),
   (5, V.int IntKind.i64 (↑x : Int))]
   [])) ∧
   ((x ≤ List.length xs) ∧
   ((List.length xs = List.length ys) ∧
   (∀ j : Nat,
   ((j < x) →
   (List.getD xs j default = List.getD ys j default))))))) ∧
   (∀ x : Nat,
   (((x ≤ List.length xs) ∧
   ((List.length xs = List.length ys) ∧
   (∀ j : Nat,
   ((j < x) →
   (List.getD xs j default = List.getD ys j default))))) →
   (((decide ((↑x : Int) < (↑(List.length xs) : Int)) = true) →
   ((((0 : Int) ≤ (↑x : Int)) ∧
   ((↑x : Int) < (↑(List.length xs) : Int))) ∧
   ((((0 : Int) ≤ (↑x : Int)) ∧
   ((↑x : Int) < (↑(List.length ys) : Int))) ∧
   ((((List.getD xs (Int.toNat (↑x : Int)) default != List.getD ys (Int.toNat (↑x : Int)) default) = true) →
   (VLe (V.bool false) (V.bool (decide (xs = ys))))) ∧
   (((List.getD xs (Int.toNat (↑x : Int)) default != List.getD ys (Int.toNat (↑x : Int)) default) = false) →
   ((inK IntKind.i64 ((↑x : Int) + (1 : Int))) ∧
   (∃ y : Nat, ((SLe
   (AS.mk
   [(0, encL encI 1 xs), (1, encL encI 1 ys),
   (5, V.int IntKind.i64 ((↑x : Int) + (1 : Int)))]
   [])
   (AS.mk
   [(0, encL encI 1 xs), (1, encL encI 1 ys),
   (5, V.int IntKind.i64 (↑y : Int))]
   [])) ∧
   (((y ≤ List.length xs) ∧
   ((List.length xs = List.length ys) ∧
   (∀ j : Nat,
   ((j < y) →
   (List.getD xs j default = List.getD ys j default))))) ∧
   (List.length xs - y < List.length xs - x)))))))))) ∧
   ((decide ((↑x : Int) < (↑(List.length xs) : Int)) = false) →
   (VLe (V.bool true) (V.bool (decide (xs = ys))))))))))) := by
    unfold pr13 maxLen at hpre
    refine ⟨fun h => ?_, fun h => ?_⟩
    · refine vle_bool ?_
      have hne : xs ≠ ys := fun e => by subst e; simp at h
      simp [hne]
    · have hlen : xs.length = ys.length := by simp at h; omega
      refine ⟨⟨0, SLe.refl _, by omega, hlen, fun j hj => absurd hj (Nat.not_lt_zero j)⟩, ?_⟩
      rintro i ⟨hi, _, hj⟩
      refine ⟨fun h => ?_, fun h => ?_⟩
      · have hlt : i < xs.length := by simpa using h
        simp only [Int.toNat_natCast]
        refine ⟨⟨by omega, by omega⟩, ⟨by omega, by omega⟩, fun h2 => ?_, fun h2 => ⟨inK64 (by omega), i + 1, SLe.refl _, ⟨by omega, hlen, fun j h3 => ?_⟩, by omega⟩⟩
        · refine vle_bool ?_
          have hne : xs ≠ ys := fun e => by subst e; simp at h2
          simp [hne]
        · rcases Nat.lt_or_ge j i with h4 | h4
          · exact hj j h4
          · have : j = i := by omega
            subst this
            simpa using h2
      · refine vle_bool ?_
        have hge : i = xs.length := by simp at h; omega
        have heq : xs = ys := by
          refine List.ext_getElem hlen fun k h1 h2 => ?_
          have := hj k (by omega)
          simpa [h1, h2] using this
        simp [heq]
  exact Eq.mp (by kernel_rfl) key
theorem so13 : Sound Try.prog 13 sp13 := by
  refine sound_of_body hmix (pol := 0) Try.func13 rfl (by kernel_rfl) fun args bin ob r bout hDe hob => ?_
  unfold sp13 at hDe
  split at hDe
  · rename_i a0 a1
    cases hDe
    exact ⟨rfl, rfl, Nat.le_of_ble_eq_true (by kernel_rfl), cx13 ((decL decI) a0) ((decL decI) a1), Eq.mp (by kernel_rfl) htt, Eq.mp (by kernel_rfl) da13, Eq.mp (by kernel_rfl) (noM_sound (P := Try.prog)), by kernel_rfl, [encL encI 1 (((decL decI) a0)), encL encI 1 (((decL decI) a1))], args_of_vles (⟨hob.1, hob.2.1, trivial⟩), Eq.mp (by kernel_rfl) (bd13 ((decL decI) a0) ((decL decI) a1) (hob.2.2))⟩
  · cases hDe

/-! ### laws.lwHas -/
def pr12 (l : List Int) (v : Int) : Prop := l.length ≤ maxLen
noncomputable def rs12 (l : List Int) (v : Int) : V := .bool (decide (v ∈ l))
noncomputable def sp12 : FSpec := fun args bin => match args, bin with
  | [a0, .int .i64 a1], [] => some (VLe a0 (encL encI 1 (((decL decI) a0))) ∧ pr12 ((decL decI) a0) a1, rs12 ((decL decI) a0) a1, [])
  | _, _ => none
noncomputable def in12_2 (l : List Int) (v : Int) : LoopInv :=
  ⟨Nat, fun i => ⟨[(0, encL encI 1 l), (1, .int .i64 v), (5, .int .i64 i)], []⟩,
    fun i => i ≤ l.length ∧ ∀ j, j < i → l.getD j default ≠ v, fun i => l.length - i⟩
noncomputable def iv12 (l : List Int) (v : Int) : Nat → Option LoopInv := fun rg_ => match rg_ with
  | 2 => some (in12_2 l v)
  | _ => none
noncomputable def D12 : Nat → Option (Bool × FSpec) := lk []
theorem da12 : SoundAll Try.prog D12 := soundAll_nil
noncomputable def cx12 (l : List Int) (v : Int) : Cx := ⟨tt, D12, Try.f12.ntmps, [0, 1, 4, 5, 9, 17], [(2, ⟨[(0, none), (1, none), (5, none)], []⟩)], [], iv12 l v, [], noM, []⟩
theorem bd12 (l : List Int) (v : Int) (hpre : pr12 l v) : bodyP (cx12 l v) Try.f12 0 [encL encI 1 (l), .int .i64 (v)] (fun rr => VLe rr (rs12 l v)) := by
  have key :
      ((∃ x : Nat, ((SLe
   (AS.mk
   [(0, encL encI 1 l), (1, V.int IntKind.i64 v), (5, V.int IntKind.i64 (0 : Int))] [])
   (AS.mk
   [(0, encL encI 1 l), (1, V.int IntKind.i64 v), (5, V.int IntKind.i64 (↑x : Int))]
   [])) ∧
   ((x ≤ List.length l) ∧
   (∀ j : Nat,
   ((j < x) →
   (List.getD l j default ≠ v)))))) ∧
   (∀ x : Nat,
   (((x ≤ List.length l) ∧
   (∀ j : Nat,
   ((j < x) →
   (List.getD l j default ≠ v)))) →
   (((decide ((↑x : Int) < (↑(List.length l) : Int)) = true) →
   ((((0 : Int) ≤ (↑x : Int)) ∧
   ((↑x : Int) < (↑(List.length l) : Int))) ∧
   ((((List.getD l (Int.toNat (↑x : Int)) default == v) = true) →
   (VLe (V.bool true) (V.bool (decide (v ∈ l))))) ∧
   (((List.getD l (Int.toNat (↑x : Int)) default == v) = false) →
   ((inK IntKind.i64 ((↑x : Int) + (1 : Int))) ∧
   (∃ y : Nat, ((SLe
   (AS.mk
   [(0, encL encI 1 l), (1, V.int IntKind.i64 v),
   (5, V.int IntKind.i64 ((↑x : Int) + (1 : Int)))]
   [])
   (AS.mk
   [(0, encL encI 1 l), (1, V.int IntKind.i64 v), (5, V.int IntKind.i64 (↑y : Int))]
   [])) ∧
   (((y ≤ List.length l) ∧
   (∀ j : Nat,
   ((j < y) →
   (List.getD l j default ≠ v)))) ∧
   (List.length l - y < List.length l - x))))))))) ∧
   ((decide ((↑x : Int) < (↑(List.length l) : Int)) = false) →
   (VLe (V.bool false) (V.bool (decide (v ∈ l))))))))) := by
    unfold pr12 maxLen at hpre
    refine ⟨⟨0, SLe.refl _, by omega, fun j hj => absurd hj (Nat.not_lt_zero j)⟩, ?_⟩
    rintro i ⟨hi, hj⟩
    refine ⟨fun h => ?_, fun h => ?_⟩
    · have hlt : i < l.length := by simpa using h
      simp only [Int.toNat_natCast]
      refine ⟨by omega, fun h2 => vle_bool ?_, fun h2 => ⟨inK64 (by omega), i + 1, SLe.refl _, ⟨by omega, fun j h3 => ?_⟩, by omega⟩⟩
      · have hm : l.getD i default ∈ l := by simp [hlt]
        have e : l.getD i default = v := by simpa using h2
        rw [e] at hm
        simp [hm]
      · rcases Nat.lt_or_ge j i with h4 | h4
        · exact hj j h4
        · have : j = i := by omega
          subst this
          simpa using h2
    · refine vle_bool ?_
      have hge : i = l.length := by simp at h; omega
      have hn : ¬ v ∈ l := by
        intro hm
        obtain ⟨j, h1, h2⟩ := List.getElem_of_mem hm
        exact hj j (by omega) (by simp [h1, h2])
      simp [hn]
  exact Eq.mp (by kernel_rfl) key
theorem so12 : Sound Try.prog 12 sp12 := by
  refine sound_of_body hmix (pol := 0) Try.func12 rfl (by kernel_rfl) fun args bin ob r bout hDe hob => ?_
  unfold sp12 at hDe
  split at hDe
  · rename_i a0 a1
    cases hDe
    exact ⟨rfl, rfl, Nat.le_of_ble_eq_true (by kernel_rfl), cx12 ((decL decI) a0) a1, Eq.mp (by kernel_rfl) htt, Eq.mp (by kernel_rfl) da12, Eq.mp (by kernel_rfl) (noM_sound (P := Try.prog)), by kernel_rfl, [encL encI 1 (((decL decI) a0)), .int .i64 (a1)], args_of_vles (⟨hob.1, VLe.refl _, trivial⟩), Eq.mp (by kernel_rfl) (bd12 ((decL decI) a0) a1 (hob.2))⟩
  · cases hDe

def needOfF (f : Int) : IntResult := if okF f then ⟨0, 2 * f + 1⟩ else ⟨3, 0⟩
noncomputable def primaryOfF (f view : Int) : IntResult := if okF f ∧ inR view 0 20 then ⟨0, primaryF f view⟩ else ⟨3, 0⟩
noncomputable def drawF (xs : List Int) (a : Int) : Int := pickF xs a [1, 1, 1, 1, 2, 0, 1, 1, 3]
noncomputable def votesArg (xs : List Int) : Int × List Msg × Msg :=
  if 0 < (worldD xs 0).1.length then
    if nextF xs (worldD xs 0).2 4 = 0 then (drawF xs ((worldD xs 0).2 + 1), (worldD xs 0).1, (bentM xs ((worldD xs 0).2 + 2)).1)
    else (drawF xs ((worldD xs 0).2 + 1), (worldD xs 0).1, (worldD xs 0).1.getD (nextF xs ((worldD xs 0).2 + 2) (worldD xs 0).1.length).toNat default)
  else (drawF xs (worldD xs 0).2, (worldD xs 0).1, (bentM xs ((worldD xs 0).2 + 1)).1)

/-! ### impl.NeedOf -/
def pr10 (f : Int) : Prop := True
noncomputable def rs10 (f : Int) : V := encIntResult 0 (needOfF f)
noncomputable def sp10 : FSpec := fun args bin => match args, bin with
  | [.int .i64 a0], [] => some (pr10 a0, rs10 a0, [])
  | _, _ => none
noncomputable def D10 : Nat → Option (Bool × FSpec) := lk [(36, (false, sp36))]
theorem da10 : SoundAll Try.prog D10 := soundAll_cons so36 (soundAll_nil)
noncomputable def cx10 (f : Int) : Cx := ⟨tt, D10, Try.f10.ntmps, [0, 2, 5], [], [], fun _ => none, [], noM, []⟩
theorem bd10 (f : Int) (hpre : pr10 f) : bodyP (cx10 f) Try.f10 0 [.int .i64 (f)] (fun rr => VLe rr (rs10 f)) := by
  have key :
      ((pr36 f) ∧
   ((((!decide (okF f)) = true) →
   (VLe (V.agg [V.int IntKind.i64 (3 : Int), V.int IntKind.i64 (0 : Int)]) (encIntResult 1 (needOfF f)))) ∧
   (((!decide (okF f)) = false) →
   ((inK IntKind.i64 ((2 : Int) * f)) ∧
   ((inK IntKind.i64 ((2 : Int) * f + (1 : Int))) ∧
   (VLe (V.agg [V.int IntKind.i64 (0 : Int), V.int IntKind.i64 ((2 : Int) * f + (1 : Int))])
   (encIntResult 1 (needOfF f)))))))) := by
    unfold needOfF
    refine ⟨trivial, fun h => ?_, fun h => ?_⟩
    · have hf : ¬ okF f := by simpa using h
      rw [if_neg hf]
      exact VLe.refl _
    · have hf : okF f := by simpa using h
      rw [if_pos hf]
      unfold okF at hf
      exact ⟨inK64 (by omega), inK64 (by omega), VLe.refl _⟩
  exact Eq.mp (by kernel_rfl) key
theorem so10 : Sound Try.prog 10 sp10 := by
  refine sound_of_body hmix (pol := 0) Try.func10 rfl (by kernel_rfl) fun args bin ob r bout hDe hob => ?_
  unfold sp10 at hDe
  split at hDe
  · rename_i a0
    cases hDe
    exact ⟨rfl, rfl, Nat.le_of_ble_eq_true (by kernel_rfl), cx10 a0, Eq.mp (by kernel_rfl) htt, Eq.mp (by kernel_rfl) da10, Eq.mp (by kernel_rfl) (noM_sound (P := Try.prog)), by kernel_rfl, [.int .i64 (a0)], args_of_vles (⟨VLe.refl _, trivial⟩), Eq.mp (by kernel_rfl) (bd10 a0 (hob))⟩
  · cases hDe

/-! ### impl.PrimaryOf -/
def pr14 (f : Int) (view : Int) : Prop := True
noncomputable def rs14 (f : Int) (view : Int) : V := encIntResult 0 (primaryOfF f view)
noncomputable def sp14 : FSpec := fun args bin => match args, bin with
  | [.int .i64 a0, .int .i64 a1], [] => some (pr14 a0 a1, rs14 a0 a1, [])
  | _, _ => none
noncomputable def D14 : Nat → Option (Bool × FSpec) := lk [(36, (false, sp36)), (38, (false, sp38)), (39, (false, sp39))]
theorem da14 : SoundAll Try.prog D14 := soundAll_cons so36 (soundAll_cons so38 (soundAll_cons so39 (soundAll_nil)))
noncomputable def cx14 (f : Int) (view : Int) : Cx := ⟨tt, D14, Try.f14.ntmps, [0, 1, 4, 12], [], [], fun _ => none, [], noM, []⟩
theorem bd14 (f : Int) (view : Int) (hpre : pr14 f view) : bodyP (cx14 f view) Try.f14 0 [.int .i64 (f), .int .i64 (view)] (fun rr => VLe rr (rs14 f view)) := by
  have key :
      ((pr36 f) ∧
   ((tq (!!decide (okF f))) ∧
   ((((!!decide (okF f)) = true) →
   (pr38 view)) ∧
   ((tq (!!decide (okF f))) ∧
   (((true = true) →
   (((!decide (okF f)) = false) →
   ((!!decide (okF f)) = true))) ∧
   (∀ b : Bool,
   ((b = bif !decide (okF f) then true else !decide (inR view (0 : Int) (20 : Int))) →
   (((b = true) →
   (VLe (V.agg [V.int IntKind.i64 (3 : Int), V.int IntKind.i64 (0 : Int)]) (encIntResult 1 (primaryOfF f view)))) ∧
   ((b = false) →
   ((pr39 f view) ∧
   (VLe (V.agg [V.int IntKind.i64 (0 : Int), V.int IntKind.i64 (primaryF f view)])
   (encIntResult 1 (primaryOfF f view))))))))))))) := by
    unfold primaryOfF
    repeat (first | (refine And.intro (fun h _ => h) ?_) | (refine And.intro (fun _ h => h) ?_) | (refine And.intro ?aa ?_; case aa => (exact trivial)) | (refine And.intro ?aa ?_; case aa => (exact fun _ => trivial)) | (refine And.intro ?aa ?_; case aa => (intros; simp_all [pr36, pr38, pr39]; done)) | (refine And.intro ?aa ?_; case aa => (intros; exact inK64 (by omega))) | (refine And.intro ?aa ?_; case aa => (intros; simp only [decide_eq_true_eq] at *; omega)) | (intro q hq))
    have e : q = decide (¬ (okF f ∧ inR view 0 20)) := by
      rw [hq, Bool.eq_iff_iff]
      by_cases a : okF f <;> simp [a]
    refine ⟨fun h => ?_, fun h => ?_⟩
    · rw [e] at h
      rw [if_neg (of_decide_eq_true h)]
      exact VLe.refl _
    · rw [e] at h
      have h1 := Classical.byContradiction fun g => of_decide_eq_false h g
      rw [if_pos h1]
      exact ⟨h1, VLe.refl _⟩
  exact Eq.mp (by kernel_rfl) key
theorem so14 : Sound Try.prog 14 sp14 := by
  refine sound_of_body hmix (pol := 0) Try.func14 rfl (by kernel_rfl) fun args bin ob r bout hDe hob => ?_
  unfold sp14 at hDe
  split at hDe
  · rename_i a0 a1
    cases hDe
    exact ⟨rfl, rfl, Nat.le_of_ble_eq_true (by kernel_rfl), cx14 a0 a1, Eq.mp (by kernel_rfl) htt, Eq.mp (by kernel_rfl) da14, Eq.mp (by kernel_rfl) (noM_sound (P := Try.prog)), by kernel_rfl, [.int .i64 (a0), .int .i64 (a1)], args_of_vles (⟨VLe.refl _, VLe.refl _, trivial⟩), Eq.mp (by kernel_rfl) (bd14 a0 a1 (hob))⟩
  · cases hDe

/-! ### spec.PrimaryOf -/
def pr15 (f : Int) (view : Int) : Prop := True
noncomputable def rs15 (f : Int) (view : Int) : V := encIntResult 0 (primaryOfF f view)
noncomputable def sp15 : FSpec := fun args bin => match args, bin with
  | [.int .i64 a0, .int .i64 a1], [] => some (pr15 a0 a1, rs15 a0 a1, [])
  | _, _ => none
noncomputable def D15 : Nat → Option (Bool × FSpec) := lk [(40, (false, sp40)), (41, (false, sp41)), (42, (false, sp42))]
theorem da15 : SoundAll Try.prog D15 := soundAll_cons so40 (soundAll_cons so41 (soundAll_cons so42 (soundAll_nil)))
noncomputable def cx15 (f : Int) (view : Int) : Cx := ⟨tt, D15, Try.f15.ntmps, [0, 1, 4, 12], [], [], fun _ => none, [], noM, []⟩
theorem bd15 (f : Int) (view : Int) (hpre : pr15 f view) : bodyP (cx15 f view) Try.f15 0 [.int .i64 (f), .int .i64 (view)] (fun rr => VLe rr (rs15 f view)) := by
  have key :
      ((pr40 f) ∧
   ((tq (!!decide (okF f))) ∧
   ((((!!decide (okF f)) = true) →
   (pr41 view (0 : Int) (20 : Int))) ∧
   ((tq (!!decide (okF f))) ∧
   (((true = true) →
   (((!decide (okF f)) = false) →
   ((!!decide (okF f)) = true))) ∧
   (∀ b : Bool,
   ((b = bif !decide (okF f) then true else !decide (inR view (0 : Int) (20 : Int))) →
   (((b = true) →
   (VLe (V.agg [V.int IntKind.i64 (3 : Int), V.int IntKind.i64 (0 : Int)]) (encIntResult 1 (primaryOfF f view)))) ∧
   ((b = false) →
   ((pr42 f view) ∧
   (VLe (V.agg [V.int IntKind.i64 (0 : Int), V.int IntKind.i64 (primaryF f view)])
   (encIntResult 1 (primaryOfF f view))))))))))))) := by
    unfold primaryOfF
    repeat (first | (refine And.intro (fun h _ => h) ?_) | (refine And.intro (fun _ h => h) ?_) | (refine And.intro ?aa ?_; case aa => (exact trivial)) | (refine And.intro ?aa ?_; case aa => (exact fun _ => trivial)) | (refine And.intro ?aa ?_; case aa => (intros; simp_all [pr40, pr41, pr42]; done)) | (refine And.intro ?aa ?_; case aa => (intros; exact inK64 (by omega))) | (refine And.intro ?aa ?_; case aa => (intros; simp only [decide_eq_true_eq] at *; omega)) | (intro q hq))
    have e : q = decide (¬ (okF f ∧ inR view 0 20)) := by
      rw [hq, Bool.eq_iff_iff]
      by_cases a : okF f <;> simp [a]
    refine ⟨fun h => ?_, fun h => ?_⟩
    · rw [e] at h
      rw [if_neg (of_decide_eq_true h)]
      exact VLe.refl _
    · rw [e] at h
      have h1 := Classical.byContradiction fun g => of_decide_eq_false h g
      rw [if_pos h1]
      exact ⟨h1, VLe.refl _⟩
  exact Eq.mp (by kernel_rfl) key
theorem so15 : Sound Try.prog 15 sp15 := by
  refine sound_of_body hmix (pol := 0) Try.func15 rfl (by kernel_rfl) fun args bin ob r bout hDe hob => ?_
  unfold sp15 at hDe
  split at hDe
  · rename_i a0 a1
    cases hDe
    exact ⟨rfl, rfl, Nat.le_of_ble_eq_true (by kernel_rfl), cx15 a0 a1, Eq.mp (by kernel_rfl) htt, Eq.mp (by kernel_rfl) da15, Eq.mp (by kernel_rfl) (noM_sound (P := Try.prog)), by kernel_rfl, [.int .i64 (a0), .int .i64 (a1)], args_of_vles (⟨VLe.refl _, VLe.refl _, trivial⟩), Eq.mp (by kernel_rfl) (bd15 a0 a1 (hob))⟩
  · cases hDe

/-! ### spec.l8CopyOne -/
def pr27 (m : Msg) : Prop := m.certs.length ≤ 1000 ∧ m.refs.length ≤ 1000
noncomputable def ro27 (m : Msg) : Msg := m
noncomputable def rb27 (m : Msg) : List Blk := [(.arr 3 ((ro27 m).certs).length (gL (encCert 1) ((ro27 m).certs)) tagS), (.arr 1 ((ro27 m).refs).length (gL encI ((ro27 m).refs)) tagS)]
noncomputable def rs27 (m : Msg) : V := .agg [.int .i64 ((ro27 m).kind), .int .i64 ((ro27 m).view), .int .i64 ((ro27 m).sender), .int .i64 ((ro27 m).slot), .int .i64 ((ro27 m).value), .osl 0 ((ro27 m).certs).length, .osl 1 ((ro27 m).refs).length]
noncomputable def sp27 : FSpec := fun args bin => match args, bin with
  | [a0], [] => some (VLe a0 (encMsg 1 ((decMsg a0))) ∧ pr27 (decMsg a0), rs27 (decMsg a0), rb27 (decMsg a0))
  | _, _ => none
noncomputable def D27 : Nat → Option (Bool × FSpec) := lk []
theorem da27 : SoundAll Try.prog D27 := soundAll_nil
noncomputable def cx27 (m : Msg) : Cx := ⟨tt, D27, Try.f27.ntmps, [0, 1, 2], [], [], fun _ => none, [], noM, []⟩
theorem bd27 (m : Msg) (hpre : pr27 m) : bodyO (cx27 m) Try.f27 [(5, 3), (6, 1)] [encMsg 1 (m)] [] (fun rr bs => VLe rr (rs27 m) ∧ BinLe bs (rb27 m)) := by
  have key :
      ((0 = 0) ∧
   ((0 + List.length (Msg.certs m) ≤ 1073741824) ∧
   ((sizedL 3 (List.length (Msg.certs m)) (gL (encCert 1) (Msg.certs m))) ∧
   ((∀ i : Nat,
   ((i < List.length (Msg.certs m)) →
   (flatV (encCert 1 (List.getD (Msg.certs m) i default)) = true))) ∧
   ((0 = 0) ∧
   ((0 + List.length (Msg.refs m) ≤ 1073741824) ∧
   ((sizedL 1 (List.length (Msg.refs m)) (gL encI (Msg.refs m))) ∧
   ((∀ i : Nat,
   ((i < List.length (Msg.refs m)) →
   (flatV (V.int IntKind.i64 (List.getD (Msg.refs m) i default)) = true))) ∧
   ((VLe
   (V.agg
   [V.int IntKind.i64 (Msg.kind m), V.int IntKind.i64 (Msg.view m), V.int IntKind.i64 (Msg.sender m),
   V.int IntKind.i64 (Msg.slot m), V.int IntKind.i64 (Msg.value m),
   V.osl 0 (0 + List.length (Msg.certs m)), V.osl 1 (0 + List.length (Msg.refs m))])
   (V.agg
   [V.int IntKind.i64 (Msg.kind (ro27 m)), V.int IntKind.i64 (Msg.view (ro27 m)),
   V.int IntKind.i64 (Msg.sender (ro27 m)), V.int IntKind.i64 (Msg.slot (ro27 m)),
   V.int IntKind.i64 (Msg.value (ro27 m)), V.osl 0 (List.length (Msg.certs (ro27 m))),
   V.osl 1 (List.length (Msg.refs (ro27 m)))])) ∧
   ((BLe
   (Blk.arr 3 (0 + List.length (Msg.certs m))
   (appg 0 (rowg []) (gL (encCert 1) (Msg.certs m))) 100)
   (Blk.arr 3 (List.length (Msg.certs (ro27 m))) (gL (encCert 1) (Msg.certs (ro27 m))) 100)) ∧
   ((BLe
   (Blk.arr 1 (0 + List.length (Msg.refs m)) (appg 0 (rowg []) (gL encI (Msg.refs m)))
   100)
   (Blk.arr 1 (List.length (Msg.refs (ro27 m))) (gL encI (Msg.refs (ro27 m))) 100)) ∧
   (True)))))))))))) := by
    obtain ⟨h1, h2⟩ := hpre
    unfold ro27
    have cp : ∀ {α : Type} [Inhabited α] (enc : α → V) (sz : Nat) (l : List α), BLe (.arr sz (0 + l.length) (appg 0 (rowg []) (gL enc l)) 100) (.arr sz l.length (gL enc l) 100) := fun enc sz l => by
      rw [Nat.zero_add]
      exact ble_arr (fun i hi => by simp only [appg, Nat.not_lt_zero, if_false, Nat.sub_zero]; exact ELe.refl _) (Or.inl rfl)
    refine ⟨rfl, by omega, fun i hi => ⟨rfl, rfl⟩, fun i hi => rfl, rfl, by omega, fun i hi => ⟨rfl, rfl⟩, fun i hi => rfl, ?_, cp _ _ _, cp _ _ _, trivial⟩
    rw [Nat.zero_add, Nat.zero_add]
    exact VLe.refl _
  exact Eq.mp (by kernel_rfl) key
theorem so27 : Sound Try.prog 27 sp27 := by
  refine sound_of_bodyO hmix (tpl := [(5, 3), (6, 1)]) Try.func27 rfl (by kernel_rfl) fun args bin ob r bout hDe hob => ?_
  unfold sp27 at hDe
  split at hDe
  · rename_i a0
    cases hDe
    exact ⟨Nat.le_of_ble_eq_true (by kernel_rfl), cx27 (decMsg a0), Eq.mp (by kernel_rfl) htt, Eq.mp (by kernel_rfl) da27, Eq.mp (by kernel_rfl) (noM_sound (P := Try.prog)), by kernel_rfl, [encMsg 1 ((decMsg a0))], [], args_of_vles (⟨hob.1, trivial⟩), trivial, Eq.mp (by kernel_rfl) (bd27 (decMsg a0) (hob.2))⟩
  · cases hDe

/-! ### spec.DrawLogOf -/
def pr16 (code : List Int) : Prop := okX code 0
noncomputable def ro16 (code : List Int) : Int × List Msg := (drawF code 0, (worldD code 1).1)
noncomputable def rb16 (code : List Int) : List Blk := [(.arr 7 ((ro16 code).2).length (gL (encMsg 1) ((ro16 code).2)) 2)]
noncomputable def rs16 (code : List Int) : V := .tup [.int .i64 ((ro16 code).1), .osl 0 ((ro16 code).2).length]
noncomputable def sp16 : FSpec := fun args bin => match args, bin with
  | [a0], [] => some (VLe a0 (encL encY 1 (((decL decY) a0))) ∧ pr16 ((decL decY) a0), rs16 ((decL decY) a0), rb16 ((decL decY) a0))
  | _, _ => none
noncomputable def D16 : Nat → Option (Bool × FSpec) := lk [(23, (true, sp23)), (26, (true, sp26)), (24, (true, sp24))]
theorem da16 : SoundAll Try.prog D16 := soundAll_cons so23 (soundAll_cons so26 (soundAll_cons so24 (soundAll_nil)))
noncomputable def cx16 (code : List Int) : Cx := ⟨tt, D16, Try.f16.ntmps, [0, 2, 3, 4], [], [], fun _ => none, [], noM, []⟩
theorem bd16 (code : List Int) (hpre : pr16 code) : bodyO (cx16 code) Try.f16 [(1, 7)] [encL encY 1 (code)] [] (fun rr bs => VLe rr (rs16 code) ∧ BinLe bs (rb16 code)) := by
  have key :
      (((VLe (encL encY 1 code) (encL encY 1 (decL decY (encL encY 1 code)))) ∧
   (pr23 (decL decY (encL encY 1 code)))) ∧
   ((((0 = 0) ∧
   ((0 = 0) ∧
   (0 = 0))) ∧
   ((VLe (encL encY 1 (decL decY (encL encY 1 code)))
   (encL encY 1 (decL decY (encL encY 1 (decL decY (encL encY 1 code)))))) ∧
   (pr26 (decL decY (encL encY 1 (decL decY (encL encY 1 code)))) (0 : Int)))) ∧
   ((((0 = 0) ∧
   ((0 = 0) ∧
   (0 = 0))) ∧
   ((VLe (encL encY 1 (decL decY (encL encY 1 (decL decY (encL encY 1 code)))))
   (encL encY 1
   (decL decY (encL encY 1 (decL decY (encL encY 1 (decL decY (encL encY 1 code)))))))) ∧
   (pr24 (decL decY (encL encY 1 (decL decY (encL encY 1 (decL decY (encL encY 1 code))))))
   (ra26 (decL decY (encL encY 1 (decL decY (encL encY 1 code)))) (0 : Int))))) ∧
   ((VLe
   (V.tup
   [V.int IntKind.i64
   (pickF (decL decY (encL encY 1 (decL decY (encL encY 1 code)))) (0 : Int)
   [(1 : Int), (1 : Int), (1 : Int), (1 : Int), (2 : Int), (0 : Int), (1 : Int), (1 : Int), (3 : Int)]),
   V.osl 0
   (List.length
   (ro24
   (decL decY (encL encY 1 (decL decY (encL encY 1 (decL decY (encL encY 1 code))))))
   (ra26 (decL decY (encL encY 1 (decL decY (encL encY 1 code)))) (0 : Int))))])
   (V.tup
   [V.int IntKind.i64 (Prod.fst (drawF code (0 : Int), Prod.fst (worldD code (1 : Int)))),
   V.osl 0 (List.length (Prod.snd (drawF code (0 : Int), Prod.fst (worldD code (1 : Int)))))])) ∧
   ((BLe
   (Blk.arr 7
   (List.length
   (ro24 (decL decY (encL encY 1 (decL decY (encL encY 1 (decL decY (encL encY 1 code))))))
   (ra26 (decL decY (encL encY 1 (decL decY (encL encY 1 code)))) (0 : Int))))
   (gL (encMsg 1)
   (ro24 (decL decY (encL encY 1 (decL decY (encL encY 1 (decL decY (encL encY 1 code))))))
   (ra26 (decL decY (encL encY 1 (decL decY (encL encY 1 code)))) (0 : Int))))
   2)
   (Blk.arr 7 (List.length (Prod.snd (drawF code (0 : Int), Prod.fst (worldD code (1 : Int)))))
   (gL (encMsg 1) (Prod.snd (drawF code (0 : Int), Prod.fst (worldD code (1 : Int))))) 2)) ∧
   (True)))))) := by
    have h0 : okX code 0 := hpre
    simp only [decL_bytes, ra26]
    exact ⟨⟨VLe.refl _, trivial⟩, srcO h0, srcO ⟨h0.to (by omega) (by omega), by omega⟩, VLe.refl _, BLe.refl _, trivial⟩
  exact Eq.mp (by kernel_rfl) key
theorem so16 : Sound Try.prog 16 sp16 := by
  refine sound_of_bodyO hmix (tpl := [(1, 7)]) Try.func16 rfl (by kernel_rfl) fun args bin ob r bout hDe hob => ?_
  unfold sp16 at hDe
  split at hDe
  · rename_i a0
    cases hDe
    exact ⟨Nat.le_of_ble_eq_true (by kernel_rfl), cx16 ((decL decY) a0), Eq.mp (by kernel_rfl) htt, Eq.mp (by kernel_rfl) da16, Eq.mp (by kernel_rfl) (noM_sound (P := Try.prog)), by kernel_rfl, [encL encY 1 (((decL decY) a0))], [], args_of_vles (⟨hob.1, trivial⟩), trivial, Eq.mp (by kernel_rfl) (bd16 ((decL decY) a0) (hob.2))⟩
  · cases hDe

/-! ### spec.DrawVotesFor -/
def pr7 (code : List Int) : Prop := okX code 0
noncomputable def ro7 (code : List Int) : Int × List Msg × Msg := votesArg code
noncomputable def rb7 (code : List Int) : List Blk := [(.arr 7 ((ro7 code).2.1).length (gL (encMsg 1) ((ro7 code).2.1)) 2), (.arr 3 (((ro7 code).2.2).certs).length (gL (encCert 1) (((ro7 code).2.2).certs)) tagS), (.arr 1 (((ro7 code).2.2).refs).length (gL encI (((ro7 code).2.2).refs)) tagS)]
noncomputable def rs7 (code : List Int) : V := .tup [.int .i64 ((ro7 code).1), .osl 0 ((ro7 code).2.1).length, .agg [.int .i64 (((ro7 code).2.2).kind), .int .i64 (((ro7 code).2.2).view), .int .i64 (((ro7 code).2.2).sender), .int .i64 (((ro7 code).2.2).slot), .int .i64 (((ro7 code).2.2).value), .osl 1 (((ro7 code).2.2).certs).length, .osl 2 (((ro7 code).2.2).refs).length]]
noncomputable def sp7 : FSpec := fun args bin => match args, bin with
  | [a0], [] => some (VLe a0 (encL encY 1 (((decL decY) a0))) ∧ pr7 ((decL decY) a0), rs7 ((decL decY) a0), rb7 ((decL decY) a0))
  | _, _ => none
noncomputable def D7 : Nat → Option (Bool × FSpec) := lk [(23, (true, sp23)), (24, (true, sp24)), (25, (true, sp25)), (26, (true, sp26)), (28, (true, sp28)), (27, (true, sp27)), (29, (true, sp29))]
theorem da7 : SoundAll Try.prog D7 := soundAll_cons so23 (soundAll_cons so24 (soundAll_cons so25 (soundAll_cons so26 (soundAll_cons so28 (soundAll_cons so27 (soundAll_cons so29 (soundAll_nil)))))))
noncomputable def cx7 (code : List Int) : Cx := ⟨tt, D7, Try.f7.ntmps, [0, 2, 3, 4, 5, 6, 18], [], [], fun _ => none, [], noM, []⟩
theorem bd7 (code : List Int) (hpre : pr7 code) : bodyO (cx7 code) Try.f7 [(1, 7), (7, 3), (8, 1)] [encL encY 1 (code)] [] (fun rr bs => VLe rr (rs7 code) ∧ BinLe bs (rb7 code)) := by
  have key :
      (((VLe (encL encY 1 code) (encL encY 1 (decL decY (encL encY 1 code)))) ∧
   (pr23 (decL decY (encL encY 1 code)))) ∧
   ((((0 = 0) ∧
   ((0 = 0) ∧
   (0 = 0))) ∧
   ((VLe (encL encY 1 (decL decY (encL encY 1 code)))
   (encL encY 1 (decL decY (encL encY 1 (decL decY (encL encY 1 code)))))) ∧
   (pr24 (decL decY (encL encY 1 (decL decY (encL encY 1 code)))) (0 : Int)))) ∧
   ((tq (decide
   ((↑(List.length (ro24 (decL decY (encL encY 1 (decL decY (encL encY 1 code)))) (0 : Int))) : Int) >
   (0 : Int)))) ∧
   (((decide
   ((↑(List.length (ro24 (decL decY (encL encY 1 (decL decY (encL encY 1 code)))) (0 : Int))) : Int) >
   (0 : Int)) =
   true) →
   (((0 = 0) ∧
   ((0 = 0) ∧
   (0 = 0))) ∧
   ((VLe (encL encY 1 (decL decY (encL encY 1 (decL decY (encL encY 1 code)))))
   (encL encY 1
   (decL decY (encL encY 1 (decL decY (encL encY 1 (decL decY (encL encY 1 code)))))))) ∧
   (pr25 (decL decY (encL encY 1 (decL decY (encL encY 1 (decL decY (encL encY 1 code))))))
   (ra24 (decL decY (encL encY 1 (decL decY (encL encY 1 code)))) (0 : Int)) (4 : Int))))) ∧
   (((decide
   ((↑(List.length (ro24 (decL decY (encL encY 1 (decL decY (encL encY 1 code)))) (0 : Int))) : Int) >
   (0 : Int)) =
   false) →
   (encL encY 0 (decL decY (encL encY 1 (decL decY (encL encY 1 code)))) =
   encL encY 0
   (decL decY (encL encY 1 (decL decY (encL encY 1 (decL decY (encL encY 1 code)))))))) ∧
   ((tq (decide
   ((↑(List.length (ro24 (decL decY (encL encY 1 (decL decY (encL encY 1 code)))) (0 : Int))) : Int) >
   (0 : Int)))) ∧
   (((true = true) →
   ((decide
   ((↑(List.length (ro24 (decL decY (encL encY 1 (decL decY (encL encY 1 code)))) (0 : Int))) : Int) >
   (0 : Int)) =
   true) →
   (decide
   ((↑(List.length (ro24 (decL decY (encL encY 1 (decL decY (encL encY 1 code)))) (0 : Int))) : Int) >
   (0 : Int)) =
   true))) ∧
   (∀ b : Bool,
   ((b =
   bif
   decide
   ((↑(List.length (ro24 (decL decY (encL encY 1 (decL decY (encL encY 1 code)))) (0 : Int))) :
   Int) >
   (0 : Int)) then
   !decide
   (nextF
   (decL decY (encL encY 1 (decL decY (encL encY 1 (decL decY (encL encY 1 code))))))
   (ra24 (decL decY (encL encY 1 (decL decY (encL encY 1 code)))) (0 : Int)) (4 : Int) =
   (0 : Int))
   else false) →
   (((b = true) →
   ((((0 = 0) ∧
   ((0 = 0) ∧
   (0 = 0))) ∧
   ((VLe
   (encL encY 1
   (decL decY (encL encY 1 (decL decY (encL encY 1 (decL decY (encL encY 1 code)))))))
   (encL encY 1
   (decL decY
   (encL encY 1
   (decL decY (encL encY 1 (decL decY (encL encY 1 (decL decY (encL encY 1 code)))))))))) ∧
   (pr26
   (decL decY
   (encL encY 1
   (decL decY (encL encY 1 (decL decY (encL encY 1 (decL decY (encL encY 1 code))))))))
   (bif
   decide
   ((↑(List.length (ro24 (decL decY (encL encY 1 (decL decY (encL encY 1 code)))) (0 : Int))) :
   Int) >
   (0 : Int)) then
   ra25 (decL decY (encL encY 1 (decL decY (encL encY 1 (decL decY (encL encY 1 code))))))
   (ra24 (decL decY (encL encY 1 (decL decY (encL encY 1 code)))) (0 : Int)) (4 : Int)
   else ra24 (decL decY (encL encY 1 (decL decY (encL encY 1 code)))) (0 : Int))))) ∧
   ((((0 = 0) ∧
   ((0 = 0) ∧
   (0 = 0))) ∧
   ((VLe
   (encL encY 1
   (decL decY
   (encL encY 1
   (decL decY (encL encY 1 (decL decY (encL encY 1 (decL decY (encL encY 1 code)))))))))
   (encL encY 1
   (decL decY
   (encL encY 1
   (decL decY
   (encL encY 1
   (decL decY
   (encL encY 1 (decL decY (encL encY 1 (decL decY (encL encY 1 code)))))))))))) ∧
   (pr28
   (decL decY
   (encL encY 1
   (decL decY
   (encL encY 1
   (decL decY (encL encY 1 (decL decY (encL encY 1 (decL decY (encL encY 1 code))))))))))
   (ra26
   (decL decY
   (encL encY 1
   (decL decY (encL encY 1 (decL decY (encL encY 1 (decL decY (encL encY 1 code))))))))
   (bif
   decide
   ((↑(List.length (ro24 (decL decY (encL encY 1 (decL decY (encL encY 1 code)))) (0 : Int))) :
   Int) >
   (0 : Int)) then
   ra25 (decL decY (encL encY 1 (decL decY (encL encY 1 (decL decY (encL encY 1 code))))))
   (ra24 (decL decY (encL encY 1 (decL decY (encL encY 1 code)))) (0 : Int)) (4 : Int)
   else ra24 (decL decY (encL encY 1 (decL decY (encL encY 1 code)))) (0 : Int)))
   (↑(List.length (ro24 (decL decY (encL encY 1 (decL decY (encL encY 1 code)))) (0 : Int))) : Int)))) ∧
   ((((0 : Int) ≤
   nextF
   (decL decY
   (encL encY 1
   (decL decY
   (encL encY 1
   (decL decY
   (encL encY 1 (decL decY (encL encY 1 (decL decY (encL encY 1 code))))))))))
   (ra26
   (decL decY
   (encL encY 1
   (decL decY (encL encY 1 (decL decY (encL encY 1 (decL decY (encL encY 1 code))))))))
   (bif
   decide
   ((↑(List.length (ro24 (decL decY (encL encY 1 (decL decY (encL encY 1 code)))) (0 : Int))) :
   Int) >
   (0 : Int)) then
   ra25 (decL decY (encL encY 1 (decL decY (encL encY 1 (decL decY (encL encY 1 code))))))
   (ra24 (decL decY (encL encY 1 (decL decY (encL encY 1 code)))) (0 : Int)) (4 : Int)
   else ra24 (decL decY (encL encY 1 (decL decY (encL encY 1 code)))) (0 : Int)))
   (↑(List.length (ro24 (decL decY (encL encY 1 (decL decY (encL encY 1 code)))) (0 : Int))) : Int)) ∧
   (nextF
   (decL decY
   (encL encY 1
   (decL decY
   (encL encY 1
   (decL decY
   (encL encY 1 (decL decY (encL encY 1 (decL decY (encL encY 1 code))))))))))
   (ra26
   (decL decY
   (encL encY 1
   (decL decY (encL encY 1 (decL decY (encL encY 1 (decL decY (encL encY 1 code))))))))
   (bif
   decide
   ((↑(List.length (ro24 (decL decY (encL encY 1 (decL decY (encL encY 1 code)))) (0 : Int))) :
   Int) >
   (0 : Int)) then
   ra25 (decL decY (encL encY 1 (decL decY (encL encY 1 (decL decY (encL encY 1 code))))))
   (ra24 (decL decY (encL encY 1 (decL decY (encL encY 1 code)))) (0 : Int)) (4 : Int)
   else ra24 (decL decY (encL encY 1 (decL decY (encL encY 1 code)))) (0 : Int)))
   (↑(List.length (ro24 (decL decY (encL encY 1 (decL decY (encL encY 1 code)))) (0 : Int))) : Int) <
   (↑(List.length (ro24 (decL decY (encL encY 1 (decL decY (encL encY 1 code)))) (0 : Int))) : Int))) ∧
   ((Int.toNat
   (nextF
   (decL decY
   (encL encY 1
   (decL decY
   (encL encY 1
   (decL decY
   (encL encY 1 (decL decY (encL encY 1 (decL decY (encL encY 1 code))))))))))
   (ra26
   (decL decY
   (encL encY 1
   (decL decY (encL encY 1 (decL decY (encL encY 1 (decL decY (encL encY 1 code))))))))
   (bif
   decide
   ((↑(List.length
   (ro24 (decL decY (encL encY 1 (decL decY (encL encY 1 code)))) (0 : Int))) :
   Int) >
   (0 : Int)) then
   ra25
   (decL decY (encL encY 1 (decL decY (encL encY 1 (decL decY (encL encY 1 code))))))
   (ra24 (decL decY (encL encY 1 (decL decY (encL encY 1 code)))) (0 : Int)) (4 : Int)
   else ra24 (decL decY (encL encY 1 (decL decY (encL encY 1 code)))) (0 : Int)))
   (↑(List.length (ro24 (decL decY (encL encY 1 (decL decY (encL encY 1 code)))) (0 : Int))) :
   Int)) <
   List.length (ro24 (decL decY (encL encY 1 (decL decY (encL encY 1 code)))) (0 : Int))) ∧
   (((VLe
   (encMsg 1
   (List.getD (ro24 (decL decY (encL encY 1 (decL decY (encL encY 1 code)))) (0 : Int))
   (Int.toNat
   (nextF
   (decL decY
   (encL encY 1
   (decL decY
   (encL encY 1
   (decL decY
   (encL encY 1 (decL decY (encL encY 1 (decL decY (encL encY 1 code))))))))))
   (ra26
   (decL decY
   (encL encY 1
   (decL decY
   (encL encY 1 (decL decY (encL encY 1 (decL decY (encL encY 1 code))))))))
   (bif
   decide
   ((↑(List.length
   (ro24 (decL decY (encL encY 1 (decL decY (encL encY 1 code)))) (0 : Int))) :
   Int) >
   (0 : Int)) then
   ra25
   (decL decY
   (encL encY 1 (decL decY (encL encY 1 (decL decY (encL encY 1 code))))))
   (ra24 (decL decY (encL encY 1 (decL decY (encL encY 1 code)))) (0 : Int)) (4 : Int)
   else ra24 (decL decY (encL encY 1 (decL decY (encL encY 1 code)))) (0 : Int)))
   (↑(List.length (ro24 (decL decY (encL encY 1 (decL decY (encL encY 1 code)))) (0 : Int))) :
   Int)))
   default))
   (encMsg 1
   (decMsg
   (encMsg 1
   (List.getD (ro24 (decL decY (encL encY 1 (decL decY (encL encY 1 code)))) (0 : Int))
   (Int.toNat
   (nextF
   (decL decY
   (encL encY 1
   (decL decY
   (encL encY 1
   (decL decY
   (encL encY 1
   (decL decY (encL encY 1 (decL decY (encL encY 1 code))))))))))
   (ra26
   (decL decY
   (encL encY 1
   (decL decY
   (encL encY 1 (decL decY (encL encY 1 (decL decY (encL encY 1 code))))))))
   (bif
   decide
   ((↑(List.length
   (ro24 (decL decY (encL encY 1 (decL decY (encL encY 1 code))))
   (0 : Int))) :
   Int) >
   (0 : Int)) then
   ra25
   (decL decY
   (encL encY 1 (decL decY (encL encY 1 (decL decY (encL encY 1 code))))))
   (ra24 (decL decY (encL encY 1 (decL decY (encL encY 1 code)))) (0 : Int)) (4 : Int)
   else ra24 (decL decY (encL encY 1 (decL decY (encL encY 1 code)))) (0 : Int)))
   (↑(List.length
   (ro24 (decL decY (encL encY 1 (decL decY (encL encY 1 code)))) (0 : Int))) :
   Int)))
   default))))) ∧
   (pr27
   (decMsg
   (encMsg 1
   (List.getD (ro24 (decL decY (encL encY 1 (decL decY (encL encY 1 code)))) (0 : Int))
   (Int.toNat
   (nextF
   (decL decY
   (encL encY 1
   (decL decY
   (encL encY 1
   (decL decY
   (encL encY 1
   (decL decY (encL encY 1 (decL decY (encL encY 1 code))))))))))
   (ra26
   (decL decY
   (encL encY 1
   (decL decY
   (encL encY 1 (decL decY (encL encY 1 (decL decY (encL encY 1 code))))))))
   (bif
   decide
   ((↑(List.length
   (ro24 (decL decY (encL encY 1 (decL decY (encL encY 1 code)))) (0 : Int))) :
   Int) >
   (0 : Int)) then
   ra25
   (decL decY
   (encL encY 1 (decL decY (encL encY 1 (decL decY (encL encY 1 code))))))
   (ra24 (decL decY (encL encY 1 (decL decY (encL encY 1 code)))) (0 : Int)) (4 : Int)
   else ra24 (decL decY (encL encY 1 (decL decY (encL encY 1 code)))) (0 : Int)))
   (↑(List.length (ro24 (decL decY (encL encY 1 (decL decY (encL encY 1 code)))) (0 : Int))) :
   Int)))
   default))))) ∧
   ((VLe
   (V.tup
   [V.int IntKind.i64
   (pickF
   (decL decY
   (encL encY 1
   (decL decY
   (encL encY 1 (decL decY (encL encY 1 (decL decY (encL encY 1 code))))))))
   (bif
   decide
   ((↑(List.length
   (ro24 (decL decY (encL encY 1 (decL decY (encL encY 1 code)))) (0 : Int))) :
   Int) >
   (0 : Int)) then
   ra25
   (decL decY (encL encY 1 (decL decY (encL encY 1 (decL decY (encL encY 1 code))))))
   (ra24 (decL decY (encL encY 1 (decL decY (encL encY 1 code)))) (0 : Int)) (4 : Int)
   else ra24 (decL decY (encL encY 1 (decL decY (encL encY 1 code)))) (0 : Int))
   [(1 : Int), (1 : Int), (1 : Int), (1 : Int), (2 : Int), (0 : Int), (1 : Int), (1 : Int), (3 : Int)]),
   V.osl 0
   (List.length (ro24 (decL decY (encL encY 1 (decL decY (encL encY 1 code)))) (0 : Int))),
   V.agg
   [V.int IntKind.i64
   (Msg.kind
   (ro27
   (decMsg
   (encMsg 1
   (List.getD (ro24 (decL decY (encL encY 1 (decL decY (encL encY 1 code)))) (0 : Int))
   (Int.toNat
   (nextF
   (decL decY
   (encL encY 1
   (decL decY
   (encL encY 1
   (decL decY
   (encL encY 1
   (decL decY (encL encY 1 (decL decY (encL encY 1 code))))))))))
   (ra26
   (decL decY
   (encL encY 1
   (decL decY
   (encL encY 1
   (decL decY (encL encY 1 (decL decY (encL encY 1 code))))))))
   (bif
   decide
   ((↑(List.length
   (ro24 (decL decY (encL encY 1 (decL decY (encL encY 1 code))))
   (0 : Int))) :
   Int) >
   (0 : Int)) then
   ra25
   (decL decY
   (encL encY 1
   (decL decY (encL encY 1 (decL decY (encL encY 1 code))))))
   (ra24 (decL decY (encL encY 1 (decL decY (encL encY 1 code))))
   (0 : Int))
   (4 : Int)
   else
   ra24 (decL decY (encL encY 1 (decL decY (encL encY 1 code)))) (0 : Int)))
   (↑(List.length
   (ro24 (decL decY (encL encY 1 (decL decY (encL encY 1 code))))
   (0 : Int))) :
   Int)))
   default))))),
   V.int IntKind.i64
   (Msg.view
   (ro27
   (decMsg
   (encMsg 1
   (List.getD (ro24 (decL decY (encL encY 1 (decL decY (encL encY 1 code)))) (0 : Int))
   (Int.toNat
   (nextF
   (decL decY
   (encL encY 1
   (decL decY
   (encL encY 1
   (decL decY
   (encL encY 1
   (decL decY (encL encY 1 (decL decY (encL encY 1 code))))))))))
   (ra26
   (decL decY
   (encL encY 1
   (decL decY
   (encL encY 1
   (decL decY (encL encY 1 (decL decY (encL encY 1 code))))))))
   (bif
   decide
   ((↑(List.length
   (ro24 (decL decY (encL encY 1 (decL decY (encL encY 1 code))))
   (0 : Int))) :
   Int) >
   (0 : Int)) then
   ra25
   (decL decY
   (encL encY 1
   (decL decY (encL encY 1 (decL decY (encL encY 1 code))))))
   (ra24 (decL decY (encL encY 1 (decL decY (encL encY 1 code))))
   (0 : Int))
   (4 : Int)
   else
   ra24 (decL decY (encL encY 1 (decL decY (encL encY 1 code)))) (0 : Int)))
   (↑(List.length
   (ro24 (decL decY (encL encY 1 (decL decY (encL encY 1 code))))
   (0 : Int))) :
   Int)))
   default))))),
   V.int IntKind.i64
   (Msg.sender
   (ro27
   (decMsg
   (encMsg 1
   (List.getD (ro24 (decL decY (encL encY 1 (decL decY (encL encY 1 code)))) (0 : Int))
   (Int.toNat
   (nextF
   (decL decY
   (encL encY 1
   (decL decY
   (encL encY 1
   (decL decY
   (encL encY 1
   (decL decY (encL encY 1 (decL decY (encL encY 1 code))))))))))
   (ra26
   (decL decY
   (encL encY 1
   (decL decY
   (encL encY 1
   (decL decY (encL encY 1 (decL decY (encL encY 1 code))))))))
   (bif
   decide
   ((↑(List.length
   (ro24 (decL decY (encL encY 1 (decL decY (encL encY 1 code))))
   (0 : Int))) :
   Int) >
   (0 : Int)) then
   ra25
   (decL decY
   (encL encY 1
   (decL decY (encL encY 1 (decL decY (encL encY 1 code))))))
   (ra24 (decL decY (encL encY 1 (decL decY (encL encY 1 code))))
   (0 : Int))
   (4 : Int)
   else
   ra24 (decL decY (encL encY 1 (decL decY (encL encY 1 code)))) (0 : Int)))
   (↑(List.length
   (ro24 (decL decY (encL encY 1 (decL decY (encL encY 1 code))))
   (0 : Int))) :
   Int)))
   default))))),
   V.int IntKind.i64
   (Msg.slot
   (ro27
   (decMsg
   (encMsg 1
   (List.getD (ro24 (decL decY (encL encY 1 (decL decY (encL encY 1 code)))) (0 : Int))
   (Int.toNat
   (nextF
   (decL decY
   (encL encY 1
   (decL decY
   (encL encY 1
   (decL decY
   (encL encY 1
   (decL decY (encL encY 1 (decL decY (encL encY 1 code))))))))))
   (ra26
   (decL decY
   (encL encY 1
   (decL decY
   (encL encY 1
   (decL decY (encL encY 1 (decL decY (encL encY 1 code))))))))
   (bif
   decide
   ((↑(List.length
   (ro24 (decL decY (encL encY 1 (decL decY (encL encY 1 code))))
   (0 : Int))) :
   Int) >
   (0 : Int)) then
   ra25
   (decL decY
   (encL encY 1
   (decL decY (encL encY 1 (decL decY (encL encY 1 code))))))
   (ra24 (decL decY (encL encY 1 (decL decY (encL encY 1 code))))
   (0 : Int))
   (4 : Int)
   else
   ra24 (decL decY (encL encY 1 (decL decY (encL encY 1 code)))) (0 : Int)))
   (↑(List.length
   (ro24 (decL decY (encL encY 1 (decL decY (encL encY 1 code))))
   (0 : Int))) :
   Int)))
   default))))),
   V.int IntKind.i64
   (Msg.value
   (ro27
   (decMsg
   (encMsg 1
   (List.getD (ro24 (decL decY (encL encY 1 (decL decY (encL encY 1 code)))) (0 : Int))
   (Int.toNat
   (nextF
   (decL decY
   (encL encY 1
   (decL decY
   (encL encY 1
   (decL decY
   (encL encY 1
   (decL decY (encL encY 1 (decL decY (encL encY 1 code))))))))))
   (ra26
   (decL decY
   (encL encY 1
   (decL decY
   (encL encY 1
   (decL decY (encL encY 1 (decL decY (encL encY 1 code))))))))
   (bif
   decide
   ((↑(List.length
   (ro24 (decL decY (encL encY 1 (decL decY (encL encY 1 code))))
   (0 : Int))) :
   Int) >
   (0 : Int)) then
   ra25
   (decL decY
   (encL encY 1
   (decL decY (encL encY 1 (decL decY (encL encY 1 code))))))
   (ra24 (decL decY (encL encY 1 (decL decY (encL encY 1 code))))
   (0 : Int))
   (4 : Int)
   else
   ra24 (decL decY (encL encY 1 (decL decY (encL encY 1 code)))) (0 : Int)))
   (↑(List.length
   (ro24 (decL decY (encL encY 1 (decL decY (encL encY 1 code))))
   (0 : Int))) :
   Int)))
   default))))),
   V.osl 1
   (List.length
   (Msg.certs
   (ro27
   (decMsg
   (encMsg 1
   (List.getD
   (ro24 (decL decY (encL encY 1 (decL decY (encL encY 1 code)))) (0 : Int))
   (Int.toNat
   (nextF
   (decL decY
   (encL encY 1
   (decL decY
   (encL encY 1
   (decL decY
   (encL encY 1
   (decL decY (encL encY 1 (decL decY (encL encY 1 code))))))))))
   (ra26
   (decL decY
   (encL encY 1
   (decL decY
   (encL encY 1
   (decL decY (encL encY 1 (decL decY (encL encY 1 code))))))))
   (bif
   decide
   ((↑(List.length
   (ro24
   (decL decY (encL encY 1 (decL decY (encL encY 1 code))))
   (0 : Int))) :
   Int) >
   (0 : Int)) then
   ra25
   (decL decY
   (encL encY 1
   (decL decY (encL encY 1 (decL decY (encL encY 1 code))))))
   (ra24 (decL decY (encL encY 1 (decL decY (encL encY 1 code))))
   (0 : Int))
   (4 : Int)
   else
   ra24 (decL decY (encL encY 1 (decL decY (encL encY 1 code))))
   (0 : Int)))
   (↑(List.length
   (ro24 (decL decY (encL encY 1 (decL decY (encL encY 1 code))))
   (0 : Int))) :
   Int)))
   default)))))),
   V.osl 2
   (List.length
   (Msg.refs
   (ro27
   (decMsg
   (encMsg 1
   (List.getD
   (ro24 (decL decY (encL encY 1 (decL decY (encL encY 1 code)))) (0 : Int))
   (Int.toNat
   (nextF
   (decL decY
   (encL encY 1
   (decL decY
   (encL encY 1
   (decL decY
   (encL encY 1
   (decL decY (encL encY 1 (decL decY (encL encY 1 code))))))))))
   (ra26
   (decL decY
   (encL encY 1
   (decL decY
   (encL encY 1
   (decL decY (encL encY 1 (decL decY (encL encY 1 code))))))))
   (bif
   decide
   ((↑(List.length
   (ro24
   (decL decY (encL encY 1 (decL decY (encL encY 1 code))))
   (0 : Int))) :
   Int) >
   (0 : Int)) then
   ra25
   (decL decY
   (encL encY 1
   (decL decY (encL encY 1 (decL decY (encL encY 1 code))))))
   (ra24 (decL decY (encL encY 1 (decL decY (encL encY 1 code))))
   (0 : Int))
   (4 : Int)
   else
   ra24 (decL decY (encL encY 1 (decL decY (encL encY 1 code))))
   (0 : Int)))
   (↑(List.length
   (ro24 (decL decY (encL encY 1 (decL decY (encL encY 1 code))))
   (0 : Int))) :
   Int)))
   default))))))]])
   (V.tup
   [V.int IntKind.i64 (Prod.fst (ro7 code)), V.osl 0 (List.length (Prod.fst (Prod.snd (ro7 code)))),
   V.agg
   [V.int IntKind.i64 (Msg.kind (Prod.snd (Prod.snd (ro7 code)))),
   V.int IntKind.i64 (Msg.view (Prod.snd (Prod.snd (ro7 code)))),
   V.int IntKind.i64 (Msg.sender (Prod.snd (Prod.snd (ro7 code)))),
   V.int IntKind.i64 (Msg.slot (Prod.snd (Prod.snd (ro7 code)))),
   V.int IntKind.i64 (Msg.value (Prod.snd (Prod.snd (ro7 code)))),
   V.osl 1 (List.length (Msg.certs (Prod.snd (Prod.snd (ro7 code))))),
   V.osl 2 (List.length (Msg.refs (Prod.snd (Prod.snd (ro7 code)))))]])) ∧
   ((BLe
   (Blk.arr 7
   (List.length (ro24 (decL decY (encL encY 1 (decL decY (encL encY 1 code)))) (0 : Int)))
   (gL (encMsg 1) (ro24 (decL decY (encL encY 1 (decL decY (encL encY 1 code)))) (0 : Int)))
   2)
   (Blk.arr 7 (List.length (Prod.fst (Prod.snd (ro7 code))))
   (gL (encMsg 1) (Prod.fst (Prod.snd (ro7 code)))) 2)) ∧
   ((BLe
   (Blk.arr 3
   (List.length
   (Msg.certs
   (ro27
   (decMsg
   (encMsg 1
   (List.getD (ro24 (decL decY (encL encY 1 (decL decY (encL encY 1 code)))) (0 : Int))
   (Int.toNat
   (nextF
   (decL decY
   (encL encY 1
   (decL decY
   (encL encY 1
   (decL decY
   (encL encY 1
   (decL decY (encL encY 1 (decL decY (encL encY 1 code))))))))))
   (ra26
   (decL decY
   (encL encY 1
   (decL decY
   (encL encY 1
   (decL decY (encL encY 1 (decL decY (encL encY 1 code))))))))
   (bif
   decide
   ((↑(List.length
   (ro24 (decL decY (encL encY 1 (decL decY (encL encY 1 code))))
   (0 : Int))) :
   Int) >
   (0 : Int)) then
   ra25
   (decL decY
   (encL encY 1
   (decL decY (encL encY 1 (decL decY (encL encY 1 code))))))
   (ra24 (decL decY (encL encY 1 (decL decY (encL encY 1 code)))) (0 : Int))
   (4 : Int)
   else ra24 (decL decY (encL encY 1 (decL decY (encL encY 1 code)))) (0 : Int)))
   (↑(List.length
   (ro24 (decL decY (encL encY 1 (decL decY (encL encY 1 code)))) (0 : Int))) :
   Int)))
   default))))))
   (gL (encCert 1)
   (Msg.certs
   (ro27
   (decMsg
   (encMsg 1
   (List.getD (ro24 (decL decY (encL encY 1 (decL decY (encL encY 1 code)))) (0 : Int))
   (Int.toNat
   (nextF
   (decL decY
   (encL encY 1
   (decL decY
   (encL encY 1
   (decL decY
   (encL encY 1
   (decL decY (encL encY 1 (decL decY (encL encY 1 code))))))))))
   (ra26
   (decL decY
   (encL encY 1
   (decL decY
   (encL encY 1
   (decL decY (encL encY 1 (decL decY (encL encY 1 code))))))))
   (bif
   decide
   ((↑(List.length
   (ro24 (decL decY (encL encY 1 (decL decY (encL encY 1 code))))
   (0 : Int))) :
   Int) >
   (0 : Int)) then
   ra25
   (decL decY
   (encL encY 1
   (decL decY (encL encY 1 (decL decY (encL encY 1 code))))))
   (ra24 (decL decY (encL encY 1 (decL decY (encL encY 1 code)))) (0 : Int))
   (4 : Int)
   else ra24 (decL decY (encL encY 1 (decL decY (encL encY 1 code)))) (0 : Int)))
   (↑(List.length
   (ro24 (decL decY (encL encY 1 (decL decY (encL encY 1 code)))) (0 : Int))) :
   Int)))
   default))))))
   100)
   (Blk.arr 3 (List.length (Msg.certs (Prod.snd (Prod.snd (ro7 code)))))
   (gL (encCert 1) (Msg.certs (Prod.snd (Prod.snd (ro7 code))))) 100)) ∧
   ((BLe
   (Blk.arr 1
   (List.length
   (Msg.refs
   (ro27
   (decMsg
   (encMsg 1
   (List.getD (ro24 (decL decY (encL encY 1 (decL decY (encL encY 1 code)))) (0 : Int))
   (Int.toNat
   (nextF
   (decL decY
   (encL encY 1
   (decL decY
   (encL encY 1
   (decL decY
   (encL encY 1
   (decL decY (encL encY 1 (decL decY (encL encY 1 code))))))))))
   (ra26
   (decL decY
   (encL encY 1
   (decL decY
   (encL encY 1
   (decL decY (encL encY 1 (decL decY (encL encY 1 code))))))))
   (bif
   decide
   ((↑(List.length
   (ro24 (decL decY (encL encY 1 (decL decY (encL encY 1 code))))
   (0 : Int))) :
   Int) >
   (0 : Int)) then
   ra25
   (decL decY
   (encL encY 1
   (decL decY (encL encY 1 (decL decY (encL encY 1 code))))))
   (ra24 (decL decY (encL encY 1 (decL decY (encL encY 1 code)))) (0 : Int))
   (4 : Int)
   else ra24 (decL decY (encL encY 1 (decL decY (encL encY 1 code)))) (0 : Int)))
   (↑(List.length
   (ro24 (decL decY (encL encY 1 (decL decY (encL encY 1 code)))) (0 : Int))) :
   Int)))
   default))))))
   (gL encI
   (Msg.refs
   (ro27
   (decMsg
   (encMsg 1
   (List.getD (ro24 (decL decY (encL encY 1 (decL decY (encL encY 1 code)))) (0 : Int))
   (Int.toNat
   (nextF
   (decL decY
   (encL encY 1
   (decL decY
   (encL encY 1
   (decL decY
   (encL encY 1
   (decL decY (encL encY 1 (decL decY (encL encY 1 code))))))))))
   (ra26
   (decL decY
   (encL encY 1
   (decL decY
   (encL encY 1
   (decL decY (encL encY 1 (decL decY (encL encY 1 code))))))))
   (bif
   decide
   ((↑(List.length
   (ro24 (decL decY (encL encY 1 (decL decY (encL encY 1 code))))
   (0 : Int))) :
   Int) >
   (0 : Int)) then
   ra25
   (decL decY
   (encL encY 1
   (decL decY (encL encY 1 (decL decY (encL encY 1 code))))))
   (ra24 (decL decY (encL encY 1 (decL decY (encL encY 1 code)))) (0 : Int))
   (4 : Int)
   else ra24 (decL decY (encL encY 1 (decL decY (encL encY 1 code)))) (0 : Int)))
   (↑(List.length
   (ro24 (decL decY (encL encY 1 (decL decY (encL encY 1 code)))) (0 : Int))) :
   Int)))
   default))))))
   100)
   (Blk.arr 1 (List.length (Msg.refs (Prod.snd (Prod.snd (ro7 code)))))
   (gL encI (Msg.refs (Prod.snd (Prod.snd (ro7 code))))) 100)) ∧
   (True))))))))))) ∧
   ((b = false) →
   ((((0 = 0) ∧
   ((0 = 0) ∧
   (0 = 0))) ∧
   ((VLe
   (encL encY 1
   (decL decY (encL encY 1 (decL decY (encL encY 1 (decL decY (encL encY 1 code)))))))
   (encL encY 1
   (decL decY
   (encL encY 1
   (decL decY (encL encY 1 (decL decY (encL encY 1 (decL decY (encL encY 1 code)))))))))) ∧
   (pr26
   (decL decY
   (encL encY 1
   (decL decY (encL encY 1 (decL decY (encL encY 1 (decL decY (encL encY 1 code))))))))
   (bif
   decide
   ((↑(List.length (ro24 (decL decY (encL encY 1 (decL decY (encL encY 1 code)))) (0 : Int))) :
   Int) >
   (0 : Int)) then
   ra25 (decL decY (encL encY 1 (decL decY (encL encY 1 (decL decY (encL encY 1 code))))))
   (ra24 (decL decY (encL encY 1 (decL decY (encL encY 1 code)))) (0 : Int)) (4 : Int)
   else ra24 (decL decY (encL encY 1 (decL decY (encL encY 1 code)))) (0 : Int))))) ∧
   ((((0 = 0) ∧
   ((0 = 0) ∧
   (0 = 0))) ∧
   ((VLe
   (encL encY 1
   (decL decY
   (encL encY 1
   (decL decY (encL encY 1 (decL decY (encL encY 1 (decL decY (encL encY 1 code)))))))))
   (encL encY 1
   (decL decY
   (encL encY 1
   (decL decY
   (encL encY 1
   (decL decY
   (encL encY 1 (decL decY (encL encY 1 (decL decY (encL encY 1 code)))))))))))) ∧
   (pr29
   (decL decY
   (encL encY 1
   (decL decY
   (encL encY 1
   (decL decY (encL encY 1 (decL decY (encL encY 1 (decL decY (encL encY 1 code))))))))))
   (ra26
   (decL decY
   (encL encY 1
   (decL decY (encL encY 1 (decL decY (encL encY 1 (decL decY (encL encY 1 code))))))))
   (bif
   decide
   ((↑(List.length (ro24 (decL decY (encL encY 1 (decL decY (encL encY 1 code)))) (0 : Int))) :
   Int) >
   (0 : Int)) then
   ra25 (decL decY (encL encY 1 (decL decY (encL encY 1 (decL decY (encL encY 1 code))))))
   (ra24 (decL decY (encL encY 1 (decL decY (encL encY 1 code)))) (0 : Int)) (4 : Int)
   else ra24 (decL decY (encL encY 1 (decL decY (encL encY 1 code)))) (0 : Int)))))) ∧
   ((VLe
   (V.tup
   [V.int IntKind.i64
   (pickF
   (decL decY
   (encL encY 1
   (decL decY
   (encL encY 1 (decL decY (encL encY 1 (decL decY (encL encY 1 code))))))))
   (bif
   decide
   ((↑(List.length
   (ro24 (decL decY (encL encY 1 (decL decY (encL encY 1 code)))) (0 : Int))) :
   Int) >
   (0 : Int)) then
   ra25
   (decL decY (encL encY 1 (decL decY (encL encY 1 (decL decY (encL encY 1 code))))))
   (ra24 (decL decY (encL encY 1 (decL decY (encL encY 1 code)))) (0 : Int)) (4 : Int)
   else ra24 (decL decY (encL encY 1 (decL decY (encL encY 1 code)))) (0 : Int))
   [(1 : Int), (1 : Int), (1 : Int), (1 : Int), (2 : Int), (0 : Int), (1 : Int), (1 : Int), (3 : Int)]),
   V.osl 0
   (List.length (ro24 (decL decY (encL encY 1 (decL decY (encL encY 1 code)))) (0 : Int))),
   V.agg
   [V.int IntKind.i64
   (Msg.kind
   (ro29
   (decL decY
   (encL encY 1
   (decL decY
   (encL encY 1
   (decL decY
   (encL encY 1
   (decL decY (encL encY 1 (decL decY (encL encY 1 code))))))))))
   (ra26
   (decL decY
   (encL encY 1
   (decL decY
   (encL encY 1
   (decL decY (encL encY 1 (decL decY (encL encY 1 code))))))))
   (bif
   decide
   ((↑(List.length
   (ro24 (decL decY (encL encY 1 (decL decY (encL encY 1 code))))
   (0 : Int))) :
   Int) >
   (0 : Int)) then
   ra25
   (decL decY
   (encL encY 1 (decL decY (encL encY 1 (decL decY (encL encY 1 code))))))
   (ra24 (decL decY (encL encY 1 (decL decY (encL encY 1 code)))) (0 : Int))
   (4 : Int)
   else ra24 (decL decY (encL encY 1 (decL decY (encL encY 1 code)))) (0 : Int))))),
   V.int IntKind.i64
   (Msg.view
   (ro29
   (decL decY
   (encL encY 1
   (decL decY
   (encL encY 1
   (decL decY
   (encL encY 1
   (decL decY (encL encY 1 (decL decY (encL encY 1 code))))))))))
   (ra26
   (decL decY
   (encL encY 1
   (decL decY
   (encL encY 1
   (decL decY (encL encY 1 (decL decY (encL encY 1 code))))))))
   (bif
   decide
   ((↑(List.length
   (ro24 (decL decY (encL encY 1 (decL decY (encL encY 1 code))))
   (0 : Int))) :
   Int) >
   (0 : Int)) then
   ra25
   (decL decY
   (encL encY 1 (decL decY (encL encY 1 (decL decY (encL encY 1 code))))))
   (ra24 (decL decY (encL encY 1 (decL decY (encL encY 1 code)))) (0 : Int))
   (4 : Int)
   else ra24 (decL decY (encL encY 1 (decL decY (encL encY 1 code)))) (0 : Int))))),
   V.int IntKind.i64
   (Msg.sender
   (ro29
   (decL decY
   (encL encY 1
   (decL decY
   (encL encY 1
   (decL decY
   (encL encY 1
   (decL decY (encL encY 1 (decL decY (encL encY 1 code))))))))))
   (ra26
   (decL decY
   (encL encY 1
   (decL decY
   (encL encY 1
   (decL decY (encL encY 1 (decL decY (encL encY 1 code))))))))
   (bif
   decide
   ((↑(List.length
   (ro24 (decL decY (encL encY 1 (decL decY (encL encY 1 code))))
   (0 : Int))) :
   Int) >
   (0 : Int)) then
   ra25
   (decL decY
   (encL encY 1 (decL decY (encL encY 1 (decL decY (encL encY 1 code))))))
   (ra24 (decL decY (encL encY 1 (decL decY (encL encY 1 code)))) (0 : Int))
   (4 : Int)
   else ra24 (decL decY (encL encY 1 (decL decY (encL encY 1 code)))) (0 : Int))))),
   V.int IntKind.i64
   (Msg.slot
   (ro29
   (decL decY
   (encL encY 1
   (decL decY
   (encL encY 1
   (decL decY
   (encL encY 1
   (decL decY (encL encY 1 (decL decY (encL encY 1 code))))))))))
   (ra26
   (decL decY
   (encL encY 1
   (decL decY
   (encL encY 1
   (decL decY (encL encY 1 (decL decY (encL encY 1 code))))))))
   (bif
   decide
   ((↑(List.length
   (ro24 (decL decY (encL encY 1 (decL decY (encL encY 1 code))))
   (0 : Int))) :
   Int) >
   (0 : Int)) then
   ra25
   (decL decY
   (encL encY 1 (decL decY (encL encY 1 (decL decY (encL encY 1 code))))))
   (ra24 (decL decY (encL encY 1 (decL decY (encL encY 1 code)))) (0 : Int))
   (4 : Int)
   else ra24 (decL decY (encL encY 1 (decL decY (encL encY 1 code)))) (0 : Int))))),
   V.int IntKind.i64
   (Msg.value
   (ro29
   (decL decY
   (encL encY 1
   (decL decY
   (encL encY 1
   (decL decY
   (encL encY 1
   (decL decY (encL encY 1 (decL decY (encL encY 1 code))))))))))
   (ra26
   (decL decY
   (encL encY 1
   (decL decY
   (encL encY 1
   (decL decY (encL encY 1 (decL decY (encL encY 1 code))))))))
   (bif
   decide
   ((↑(List.length
   (ro24 (decL decY (encL encY 1 (decL decY (encL encY 1 code))))
   (0 : Int))) :
   Int) >
   (0 : Int)) then
   ra25
   (decL decY
   (encL encY 1 (decL decY (encL encY 1 (decL decY (encL encY 1 code))))))
   (ra24 (decL decY (encL encY 1 (decL decY (encL encY 1 code)))) (0 : Int))
   (4 : Int)
   else ra24 (decL decY (encL encY 1 (decL decY (encL encY 1 code)))) (0 : Int))))),
   V.osl 1
   (List.length
   (Msg.certs
   (ro29
   (decL decY
   (encL encY 1
   (decL decY
   (encL encY 1
   (decL decY
   (encL encY 1
   (decL decY (encL encY 1 (decL decY (encL encY 1 code))))))))))
   (ra26
   (decL decY
   (encL encY 1
   (decL decY
   (encL encY 1
   (decL decY (encL encY 1 (decL decY (encL encY 1 code))))))))
   (bif
   decide
   ((↑(List.length
   (ro24 (decL decY (encL encY 1 (decL decY (encL encY 1 code))))
   (0 : Int))) :
   Int) >
   (0 : Int)) then
   ra25
   (decL decY
   (encL encY 1
   (decL decY (encL encY 1 (decL decY (encL encY 1 code))))))
   (ra24 (decL decY (encL encY 1 (decL decY (encL encY 1 code)))) (0 : Int))
   (4 : Int)
   else ra24 (decL decY (encL encY 1 (decL decY (encL encY 1 code)))) (0 : Int)))))),
   V.osl 2
   (List.length
   (Msg.refs
   (ro29
   (decL decY
   (encL encY 1
   (decL decY
   (encL encY 1
   (decL decY
   (encL encY 1
   (decL decY (encL encY 1 (decL decY (encL encY 1 code))))))))))
   (ra26
   (decL decY
   (encL encY 1
   (decL decY
   (encL encY 1
   (decL decY (encL encY 1 (decL decY (encL encY 1 code))))))))
   (bif
   decide
   ((↑(List.length
   (ro24 (decL decY (encL encY 1 (decL decY (encL encY 1 code))))
   (0 : Int))) :
   Int) >
   (0 : Int)) then
   ra25
   (decL decY
   (encL encY 1
   (decL decY (encL encY 1 (decL decY (encL encY 1 code))))))
   (ra24 (decL decY (encL encY 1 (decL decY (encL encY 1 code)))) (0 : Int))
   (4 : Int)
   else ra24 (decL decY (encL encY 1 (decL decY (encL encY 1 code)))) (0 : Int))))))]])
   (V.tup
   [V.int IntKind.i64 (Prod.fst (ro7 code)), V.osl 0 (List.length (Prod.fst (Prod.snd (ro7 code)))),
   V.agg
   [V.int IntKind.i64 (Msg.kind (Prod.snd (Prod.snd (ro7 code)))),
   V.int IntKind.i64 (Msg.view (Prod.snd (Prod.snd (ro7 code)))),
   V.int IntKind.i64 (Msg.sender (Prod.snd (Prod.snd (ro7 code)))),
   V.int IntKind.i64 (Msg.slot (Prod.snd (Prod.snd (ro7 code)))),
   V.int IntKind.i64 (Msg.value (Prod.snd (Prod.snd (ro7 code)))),
   V.osl 1 (List.length (Msg.certs (Prod.snd (Prod.snd (ro7 code))))),
   V.osl 2 (List.length (Msg.refs (Prod.snd (Prod.snd (ro7 code)))))]])) ∧
   ((BLe
   (Blk.arr 7
   (List.length (ro24 (decL decY (encL encY 1 (decL decY (encL encY 1 code)))) (0 : Int)))
   (gL (encMsg 1) (ro24 (decL decY (encL encY 1 (decL decY (encL encY 1 code)))) (0 : Int)))
   2)
   (Blk.arr 7 (List.length (Prod.fst (Prod.snd (ro7 code))))
   (gL (encMsg 1) (Prod.fst (Prod.snd (ro7 code)))) 2)) ∧
   ((BLe
   (Blk.arr 3
   (List.length
   (Msg.certs
   (ro29
   (decL decY
   (encL encY 1
   (decL decY
   (encL encY 1
   (decL decY
   (encL encY 1 (decL decY (encL encY 1 (decL decY (encL encY 1 code))))))))))
   (ra26
   (decL decY
   (encL encY 1
   (decL decY
   (encL encY 1 (decL decY (encL encY 1 (decL decY (encL encY 1 code))))))))
   (bif
   decide
   ((↑(List.length
   (ro24 (decL decY (encL encY 1 (decL decY (encL encY 1 code)))) (0 : Int))) :
   Int) >
   (0 : Int)) then
   ra25
   (decL decY
   (encL encY 1 (decL decY (encL encY 1 (decL decY (encL encY 1 code))))))
   (ra24 (decL decY (encL encY 1 (decL decY (encL encY 1 code)))) (0 : Int)) (4 : Int)
   else ra24 (decL decY (encL encY 1 (decL decY (encL encY 1 code)))) (0 : Int))))))
   (gL (encCert 1)
   (Msg.certs
   (ro29
   (decL decY
   (encL encY 1
   (decL decY
   (encL encY 1
   (decL decY
   (encL encY 1 (decL decY (encL encY 1 (decL decY (encL encY 1 code))))))))))
   (ra26
   (decL decY
   (encL encY 1
   (decL decY
   (encL encY 1 (decL decY (encL encY 1 (decL decY (encL encY 1 code))))))))
   (bif
   decide
   ((↑(List.length
   (ro24 (decL decY (encL encY 1 (decL decY (encL encY 1 code)))) (0 : Int))) :
   Int) >
   (0 : Int)) then
   ra25
   (decL decY
   (encL encY 1 (decL decY (encL encY 1 (decL decY (encL encY 1 code))))))
   (ra24 (decL decY (encL encY 1 (decL decY (encL encY 1 code)))) (0 : Int)) (4 : Int)
   else ra24 (decL decY (encL encY 1 (decL decY (encL encY 1 code)))) (0 : Int))))))
   100)
   (Blk.arr 3 (List.length (Msg.certs (Prod.snd (Prod.snd (ro7 code)))))
   (gL (encCert 1) (Msg.certs (Prod.snd (Prod.snd (ro7 code))))) 100)) ∧
   ((BLe
   (Blk.arr 1
   (List.length
   (Msg.refs
   (ro29
   (decL decY
   (encL encY 1
   (decL decY
   (encL encY 1
   (decL decY
   (encL encY 1 (decL decY (encL encY 1 (decL decY (encL encY 1 code))))))))))
   (ra26
   (decL decY
   (encL encY 1
   (decL decY
   (encL encY 1 (decL decY (encL encY 1 (decL decY (encL encY 1 code))))))))
   (bif
   decide
   ((↑(List.length
   (ro24 (decL decY (encL encY 1 (decL decY (encL encY 1 code)))) (0 : Int))) :
   Int) >
   (0 : Int)) then
   ra25
   (decL decY
   (encL encY 1 (decL decY (encL encY 1 (decL decY (encL encY 1 code))))))
   (ra24 (decL decY (encL encY 1 (decL decY (encL encY 1 code)))) (0 : Int)) (4 : Int)
   else ra24 (decL decY (encL encY 1 (decL decY (encL encY 1 code)))) (0 : Int))))))
   (gL encI
   (Msg.refs
   (ro29
   (decL decY
   (encL encY 1
   (decL decY
   (encL encY 1
   (decL decY
   (encL encY 1 (decL decY (encL encY 1 (decL decY (encL encY 1 code))))))))))
   (ra26
   (decL decY
   (encL encY 1
   (decL decY
   (encL encY 1 (decL decY (encL encY 1 (decL decY (encL encY 1 code))))))))
   (bif
   decide
   ((↑(List.length
   (ro24 (decL decY (encL encY 1 (decL decY (encL encY 1 code)))) (0 : Int))) :
   Int) >
   (0 : Int)) then
   ra25
   (decL decY
   (encL encY 1 (decL decY (encL encY 1 (decL decY (encL encY 1 code))))))
   (ra24 (decL decY (encL encY 1 (decL decY (encL encY 1 code)))) (0 : Int)) (4 : Int)
   else ra24 (decL decY (encL encY 1 (decL decY (encL encY 1 code)))) (0 : Int))))))
   100)
   (Blk.arr 1 (List.length (Msg.refs (Prod.snd (Prod.snd (ro7 code)))))
   (gL encI (Msg.refs (Prod.snd (Prod.snd (ro7 code))))) 100)) ∧
   (True)))))))))))))))))) := by
    have h0 : okX code 0 := hpre
    have w := worldD_bd h0 (by omega)
    simp only [decL_bytes, decL_Msg, dec_encMsg, ra26, ra24, ra25, ra28, ra29, ro24, ro27, ro29]
    unfold ro7 votesArg
    generalize worldD code 0 = W at *
    obtain ⟨l, a⟩ := W
    simp only at w ⊢
    have ha : okX code a := h0.to (by omega) (by omega)
    have ha1 : okX code (a + 1) := h0.to (by omega) (by omega)
    by_cases hl : 0 < l.length
    · have d1 : decide ((l.length : Int) > 0) = true := decide_eq_true (by omega)
      simp only [d1, cond_true, if_pos hl, Int.add_assoc, Int.reduceAdd]
      refine ⟨⟨VLe.refl _, trivial⟩, srcO ⟨h0, by omega⟩, tqB _, fun _ => srcO ha, fun _ => trivial, tqB _, fun _ h => h, fun b hb => ⟨fun h => ?_, fun h => ?_⟩⟩
      · rw [h] at hb
        have hc : ¬ nextF code a 4 = 0 := by simpa using hb
        have ha2 : okX code (a + 2) := h0.to (by omega) (by omega)
        have n1 := nextF_bd ha2 l.length
        have hin : (nextF code (a + 2) l.length).toNat < l.length := by omega
        have hm := w.1 (l.getD (nextF code (a + 2) l.length).toNat default) (by simp [hin])
        simp only [if_neg hc]
        exact ⟨srcO ha1, srcO ha2, ⟨n1.1, n1.2.1 (by omega)⟩, hin, ⟨VLe.refl _, by omega, by omega⟩, VLe.refl _, BLe.refl _, BLe.refl _, BLe.refl _, trivial⟩
      · rw [h] at hb
        have hc : nextF code a 4 = 0 := by simpa using hb
        simp only [if_pos hc]
        exact ⟨srcO ha1, srcO ⟨h0.to (by omega) (by omega), by omega⟩, VLe.refl _, BLe.refl _, BLe.refl _, BLe.refl _, trivial⟩
    · have d1 : decide ((l.length : Int) > 0) = false := decide_eq_false (by omega)
      simp only [d1, cond_false, if_neg hl, Int.add_assoc, Int.reduceAdd]
      refine ⟨⟨VLe.refl _, trivial⟩, srcO ⟨h0, by omega⟩, tqB _, fun h => by simp at h, fun _ => trivial, tqB _, fun _ h => h, fun b hb => ⟨fun h => ?_, fun h => ?_⟩⟩
      · rw [h] at hb; cases hb
      · exact ⟨srcO ha, srcO ⟨ha1, by omega⟩, VLe.refl _, BLe.refl _, BLe.refl _, BLe.refl _, trivial⟩
  exact Eq.mp (by kernel_rfl) key
theorem so7 : Sound Try.prog 7 sp7 := by
  refine sound_of_bodyO hmix (tpl := [(1, 7), (7, 3), (8, 1)]) Try.func7 rfl (by kernel_rfl) fun args bin ob r bout hDe hob => ?_
  unfold sp7 at hDe
  split at hDe
  · rename_i a0
    cases hDe
    exact ⟨Nat.le_of_ble_eq_true (by kernel_rfl), cx7 ((decL decY) a0), Eq.mp (by kernel_rfl) htt, Eq.mp (by kernel_rfl) da7, Eq.mp (by kernel_rfl) (noM_sound (P := Try.prog)), by kernel_rfl, [encL encY 1 (((decL decY) a0))], [], args_of_vles (⟨hob.1, trivial⟩), trivial, Eq.mp (by kernel_rfl) (bd7 ((decL decY) a0) (hob.2))⟩
  · cases hDe

end Go.Av
