/- Watches: what is wrong with them. -/
import Derived.Test.YtgefdljcommhhaaGreatDoorW0
import Derived.Test.YtgefdljcommhhaaGreatDoorP2
namespace Go.Av
open Go.Proofs
set_option maxRecDepth 100000
set_option linter.unusedVariables false
set_option linter.unusedSimpArgs false

theorem zele_Watch : ELe (.agg [.int .i64 0, .str ⟨#[]⟩]) (encWatch 1 default) := ELe.refl _
def szWatch (x : Watch) (left : Int) : Int := szLen x.path.size left
theorem szWatch_le (x : Watch) (left : Int) : szWatch x left ≤ left ∨ szWatch x left < 0 := szLen_le _ _

noncomputable def watchF (w : Watch) : Int := if ¬ inR w.client 1 9 then 3 else pathF w.path
noncomputable def watchE (l : List Watch) (i : Nat) : Int := if watchF (l.getD i default) ≠ 0 then watchF (l.getD i default) else if l.getD i default ∈ l.take i then 6 else 0
noncomputable def watchesF (l : List Watch) : Int := if 20 < l.length then 2 else scanE (watchE l) l.length
noncomputable def isW (w x : Watch) : Bool := decide (x = w)
noncomputable def atW (l : List Watch) (w : Watch) : Int := idxF (isW w) l
theorem isW_a (x w : Watch) : (x.client == w.client && strEq x.path w.path) = isW w x := by
  rw [strEq_dec]
  unfold isW
  rw [Bool.eq_iff_iff, decide_eq_true_eq, eq_Watch, Bool.and_eq_true, beq_iff_eq, decide_eq_true_eq]
theorem isW_b (x w : Watch) : (w.client == x.client && strEq w.path x.path) = isW w x := by
  rw [strEq_dec]
  unfold isW
  rw [Bool.eq_iff_iff, decide_eq_true_eq, eq_Watch, Bool.and_eq_true, beq_iff_eq, decide_eq_true_eq]
  exact ⟨fun h => ⟨h.1.symm, h.2.symm⟩, fun h => ⟨h.1.symm, h.2.symm⟩⟩
theorem atW_take {l : List Watch} {i : Nat} (h : i < l.length) : atW l (l.getD i default) = i ↔ ¬ l.getD i default ∈ l.take i := by
  constructor
  · intro e hm
    obtain ⟨_, _, h3⟩ := idxF_pre e
    obtain ⟨j, h1, h2, hx⟩ := mem_take.1 hm
    have := h3 j h1
    rw [hx] at this
    exact of_decide_eq_false this rfl
  · intro hm
    exact idxF_some h (fun j hj => decide_eq_false fun e => hm (mem_take.2 ⟨j, hj, by omega, e⟩)) (decide_eq_true rfl)

/-! ### impl.watchFault -/
def pr21 (w : Watch) : Prop := True
noncomputable def rs21 (w : Watch) : V := .int .i64 (watchF w)
noncomputable def sp21 : FSpec := fun args bin => match args, bin with
  | [a0], [] => some (VLe a0 (encWatch 1 ((decWatch a0))) ∧ pr21 (decWatch a0), rs21 (decWatch a0), [])
  | _, _ => none
noncomputable def D21 : Nat → Option (Bool × FSpec) := lk [(51, (false, sp51)), (19, (false, sp19))]
theorem da21 : SoundAll Tryz.prog D21 := soundAll_cons so51 (soundAll_cons so19 (soundAll_nil))
noncomputable def cx21 (w : Watch) : Cx := ⟨tt, D21, Tryz.f21.ntmps, [0, 1, 2, 6], [], [], fun _ => none, [], noM, []⟩
theorem bd21 (w : Watch) (hpre : pr21 w) : bodyP (cx21 w) Tryz.f21 0 [encWatch 1 (w)] (fun rr => VLe rr (rs21 w)) := by
  have key : ((pr51 (Watch.client w)) ∧ ((((!decide (inR (Watch.client w) (1 : Int) (9 : Int))) = true) → (VLe (vi (3 : Int)) (vi (watchF w)))) ∧ (((!decide (inR (Watch.client w) (1 : Int) (9 : Int))) = false) → ((pr19 (Watch.path w)) ∧ (VLe (vi (pathF (Watch.path w))) (vi (watchF w))))))) := by
    delta vi
    refine ⟨trivial, fun h => ?_, fun h => ⟨trivial, ?_⟩⟩
    · have h1 : ¬ inR w.client 1 9 := by simpa using h
      exact vle_int (by unfold watchF; rw [if_pos h1])
    · have h1 : inR w.client 1 9 := by simpa using h
      exact vle_int (by unfold watchF; rw [if_neg (not_not_intro h1)])
  exact Eq.mp (by kernel_rfl) key
theorem so21 : Sound Tryz.prog 21 sp21 := by
  refine sound_of_body hmix (pol := 0) Tryz.func21 rfl (by kernel_rfl) fun args bin ob r bout hDe hob => ?_
  unfold sp21 at hDe
  split at hDe
  · rename_i a0
    cases hDe
    exact ⟨rfl, rfl, Nat.le_of_ble_eq_true (by kernel_rfl), cx21 (decWatch a0), Eq.mp (by kernel_rfl) htt, Eq.mp (by kernel_rfl) da21, Eq.mp (by kernel_rfl) (noM_sound (P := Tryz.prog)), by kernel_rfl, [encWatch 1 ((decWatch a0))], args_of_vles (⟨hob.1, trivial⟩), Eq.mp (by kernel_rfl) (bd21 (decWatch a0) (hob.2))⟩
  · cases hDe

/-! ### spec.l7Watch -/
def pr38 (w : Watch) : Prop := True
noncomputable def rs38 (w : Watch) : V := .int .i64 (watchF w)
noncomputable def sp38 : FSpec := fun args bin => match args, bin with
  | [a0], [] => some (VLe a0 (encPWatch 1 ((decPWatch a0))) ∧ pr38 (decPWatch a0), rs38 (decPWatch a0), [])
  | _, _ => none
noncomputable def D38 : Nat → Option (Bool × FSpec) := lk [(64, (false, sp64)), (40, (false, sp40))]
theorem da38 : SoundAll Tryz.prog D38 := soundAll_cons so64 (soundAll_cons so40 (soundAll_nil))
noncomputable def cx38 (w : Watch) : Cx := ⟨tt, D38, Tryz.f38.ntmps, [0, 2, 8], [], [], fun _ => none, [], noM, []⟩
theorem bd38 (w : Watch) (hpre : pr38 w) : bodyP (cx38 w) Tryz.f38 0 [encPWatch 1 (w)] (fun rr => VLe rr (rs38 w)) := by
  have key : ((pr64 (Watch.client w)) ∧ ((((!decide (inR (Watch.client w) (1 : Int) (9 : Int))) = true) → (VLe (vi (3 : Int)) (vi (watchF w)))) ∧ (((!decide (inR (Watch.client w) (1 : Int) (9 : Int))) = false) → ((pr40 (Watch.path w)) ∧ (VLe (vi (pathF (Watch.path w))) (vi (watchF w))))))) := by
    delta vi
    refine ⟨trivial, fun h => ?_, fun h => ⟨trivial, ?_⟩⟩
    · have h1 : ¬ inR w.client 1 9 := by simpa using h
      exact vle_int (by unfold watchF; rw [if_pos h1])
    · have h1 : inR w.client 1 9 := by simpa using h
      exact vle_int (by unfold watchF; rw [if_neg (not_not_intro h1)])
  exact Eq.mp (by kernel_rfl) key
theorem so38 : Sound Tryz.prog 38 sp38 := by
  refine sound_of_body hmix (pol := 0) Tryz.func38 rfl (by kernel_rfl) fun args bin ob r bout hDe hob => ?_
  unfold sp38 at hDe
  split at hDe
  · rename_i a0
    cases hDe
    exact ⟨rfl, rfl, Nat.le_of_ble_eq_true (by kernel_rfl), cx38 (decPWatch a0), Eq.mp (by kernel_rfl) htt, Eq.mp (by kernel_rfl) da38, Eq.mp (by kernel_rfl) (noM_sound (P := Tryz.prog)), by kernel_rfl, [encPWatch 1 ((decPWatch a0))], args_of_vles (⟨hob.1, trivial⟩), Eq.mp (by kernel_rfl) (bd38 (decPWatch a0) (hob.2))⟩
  · cases hDe

/-! ### spec.l7At -/
def pr39 (xs : List Watch) (w : Watch) : Prop := xs.length ≤ maxLen
noncomputable def rs39 (xs : List Watch) (w : Watch) : V := .int .i64 (atW xs w)
noncomputable def sp39 : FSpec := fun args bin => match args, bin with
  | [a0, a1], [] => some (VLe a0 (encL (encWatch 1) 1 (((decL decWatch) a0))) ∧ VLe a1 (encWatch 1 ((decWatch a1))) ∧ pr39 ((decL decWatch) a0) (decWatch a1), rs39 ((decL decWatch) a0) (decWatch a1), [])
  | _, _ => none
noncomputable def in39_2 (xs : List Watch) (w : Watch) : LoopInv :=
  ⟨Nat, fun i => ⟨[(0, encL (encWatch 1) 1 xs), (3, .oref 256 0 0), (5, .int .i64 i)], [(256, .box (encWatch 1 w).cells)]⟩,
    fun i => i ≤ xs.length ∧ ∀ j, j < i → isW w (xs.getD j default) = false, fun i => xs.length - i⟩
noncomputable def iv39 (xs : List Watch) (w : Watch) : Nat → Option LoopInv := fun rg_ => match rg_ with
  | 2 => some (in39_2 xs w)
  | _ => none
noncomputable def D39 : Nat → Option (Bool × FSpec) := lk []
theorem da39 : SoundAll Tryz.prog D39 := soundAll_nil
noncomputable def cx39 (xs : List Watch) (w : Watch) : Cx := ⟨tt, D39, Tryz.f39.ntmps, [0, 1, 3, 4, 5, 9, 17], [(2, ⟨[(0, none), (3, none), (5, none)], [(256, [])]⟩)], [], iv39 xs w, [], noM, []⟩
noncomputable def k39_0 (w : Watch) : Nat × Blk := (256, Blk.box [vi (Watch.client w), V.str (Watch.path w)])
theorem bd39 (xs : List Watch) (w : Watch) (hpre : pr39 xs w) : bodyP (cx39 xs w) Tryz.f39 0 [encL (encWatch 1) 1 (xs), encWatch 1 (w)] (fun rr => VLe rr (rs39 xs w)) := by
  have key : ((∃ x : Nat, ((SLe (AS.mk [(0, encL (encWatch 1) 1 xs), (3, V.oref 256 0 0), (5, vi (0 : Int))] [(k39_0 w)]) (AS.mk [(0, encL (encWatch 1) 1 xs), (3, V.oref 256 0 0), (5, vi (↑x : Int))] [(k39_0 w)])) ∧ ((x ≤ List.length xs) ∧ (∀ j : Nat, ((j < x) → (isW w (List.getD xs j default) = false)))))) ∧ (∀ x : Nat, (((x ≤ List.length xs) ∧ (∀ j : Nat, ((j < x) → (isW w (List.getD xs j default) = false)))) → (((decide ((↑x : Int) < (↑(List.length xs) : Int)) = true) → ((((0 : Int) ≤ (↑x : Int)) ∧ ((↑x : Int) < (↑(List.length xs) : Int))) ∧ ((((Watch.client (List.getD xs (Int.toNat (↑x : Int)) default) == Watch.client w && strEq (Watch.path (List.getD xs (Int.toNat (↑x : Int)) default)) (Watch.path w)) = true) → (VLe (vi (↑x : Int)) (vi (atW xs w)))) ∧ (((Watch.client (List.getD xs (Int.toNat (↑x : Int)) default) == Watch.client w && strEq (Watch.path (List.getD xs (Int.toNat (↑x : Int)) default)) (Watch.path w)) = false) → ((inK IntKind.i64 ((↑x : Int) + (1 : Int))) ∧ (∃ y : Nat, ((SLe (AS.mk [(0, encL (encWatch 1) 1 xs), (3, V.oref 256 0 0), (5, vi ((↑x : Int) + (1 : Int)))] [(k39_0 w)]) (AS.mk [(0, encL (encWatch 1) 1 xs), (3, V.oref 256 0 0), (5, vi (↑y : Int))] [(k39_0 w)])) ∧ (((y ≤ List.length xs) ∧ (∀ j : Nat, ((j < y) → (isW w (List.getD xs j default) = false)))) ∧ (List.length xs - y < List.length xs - x))))))))) ∧ ((decide ((↑x : Int) < (↑(List.length xs) : Int)) = false) → (VLe (vi (-1 : Int)) (vi (atW xs w)))))))) := by
    delta k39_0; delta vi
    have hl : xs.length ≤ maxLen := hpre
    unfold maxLen at hl
    refine ⟨⟨0, SLe.refl _, by omega, fun j hj => absurd hj (Nat.not_lt_zero j)⟩, ?_⟩
    rintro i ⟨hi, hj⟩
    refine ⟨fun h => ?_, fun h => ?_⟩
    · have hlt : i < xs.length := by simpa using h
      rw [Int.toNat_natCast, isW_a]
      refine ⟨⟨by omega, by omega⟩, fun h2 => vle_int (idxF_some hlt hj h2).symm, fun h2 => ⟨inK64 (by omega), i + 1, SLe.refl _, ⟨by omega, fun j h3 => ?_⟩, by omega⟩⟩
      rcases Nat.lt_or_ge j i with h4 | h4
      · exact hj j h4
      · have : j = i := by omega
        subst this
        exact h2
    · have hge : i = xs.length := by simp at h; omega
      exact vle_int (idxF_none fun j h3 => hj j (by omega)).symm
  exact Eq.mp (by kernel_rfl) key
theorem so39 : Sound Tryz.prog 39 sp39 := by
  refine sound_of_body hmix (pol := 0) Tryz.func39 rfl (by kernel_rfl) fun args bin ob r bout hDe hob => ?_
  unfold sp39 at hDe
  split at hDe
  · rename_i a0 a1
    cases hDe
    exact ⟨rfl, rfl, Nat.le_of_ble_eq_true (by kernel_rfl), cx39 ((decL decWatch) a0) (decWatch a1), Eq.mp (by kernel_rfl) htt, Eq.mp (by kernel_rfl) da39, Eq.mp (by kernel_rfl) (noM_sound (P := Tryz.prog)), by kernel_rfl, [encL (encWatch 1) 1 (((decL decWatch) a0)), encWatch 1 ((decWatch a1))], args_of_vles (⟨hob.1, hob.2.1, trivial⟩), Eq.mp (by kernel_rfl) (bd39 ((decL decWatch) a0) (decWatch a1) (hob.2.2))⟩
  · cases hDe

/-! ### slices.Index(()loop.example/g00369/impl.Watch,loop.example/g00369/impl.Watch) -/
def pr53 (xs : List Watch) (w : Watch) : Prop := xs.length ≤ maxLen
noncomputable def rs53 (xs : List Watch) (w : Watch) : V := .int .i64 (atW xs w)
noncomputable def sp53 : FSpec := fun args bin => match args, bin with
  | [a0, a1], [] => some (VLe a0 (encL (encWatch 1) 1 (((decL decWatch) a0))) ∧ VLe a1 (encWatch 1 ((decWatch a1))) ∧ pr53 ((decL decWatch) a0) (decWatch a1), rs53 ((decL decWatch) a0) (decWatch a1), [])
  | _, _ => none
noncomputable def in53_2 (xs : List Watch) (w : Watch) : LoopInv :=
  ⟨Nat, fun i => ⟨[(0, encL (encWatch 1) 1 xs), (3, .oref 256 0 0), (7, .int .i64 xs.length), (8, .int .i64 i)], [(256, .box (encWatch 1 w).cells)]⟩,
    fun i => i ≤ xs.length ∧ ∀ j, j < i → isW w (xs.getD j default) = false, fun i => xs.length - i⟩
noncomputable def iv53 (xs : List Watch) (w : Watch) : Nat → Option LoopInv := fun rg_ => match rg_ with
  | 2 => some (in53_2 xs w)
  | _ => none
noncomputable def D53 : Nat → Option (Bool × FSpec) := lk []
theorem da53 : SoundAll Tryz.prog D53 := soundAll_nil
noncomputable def cx53 (xs : List Watch) (w : Watch) : Cx := ⟨tt, D53, Tryz.f53.ntmps, [0, 1, 3, 4, 5, 7, 8, 9, 16], [(2, ⟨[(0, none), (3, none), (7, none), (8, none)], [(256, [])]⟩)], [], iv53 xs w, [], noM, []⟩
noncomputable def k53_0 (w : Watch) : Nat × Blk := (256, Blk.box [vi (Watch.client w), V.str (Watch.path w)])
theorem bd53 (xs : List Watch) (w : Watch) (hpre : pr53 xs w) : bodyP (cx53 xs w) Tryz.f53 0 [encL (encWatch 1) 1 (xs), encWatch 1 (w)] (fun rr => VLe rr (rs53 xs w)) := by
  have key : ((∃ x : Nat, ((SLe (AS.mk [(0, encL (encWatch 1) 1 xs), (3, V.oref 256 0 0), (7, vi (↑(List.length xs) : Int)), (8, vi (0 : Int))] [(k53_0 w)]) (AS.mk [(0, encL (encWatch 1) 1 xs), (3, V.oref 256 0 0), (7, vi (↑(List.length xs) : Int)), (8, vi (↑x : Int))] [(k53_0 w)])) ∧ ((x ≤ List.length xs) ∧ (∀ j : Nat, ((j < x) → (isW w (List.getD xs j default) = false)))))) ∧ (∀ x : Nat, (((x ≤ List.length xs) ∧ (∀ j : Nat, ((j < x) → (isW w (List.getD xs j default) = false)))) → (((decide ((↑x : Int) < (↑(List.length xs) : Int)) = true) → ((((0 : Int) ≤ (↑x : Int)) ∧ ((↑x : Int) < (↑(List.length xs) : Int))) ∧ ((((Watch.client w == Watch.client (List.getD xs (Int.toNat (↑x : Int)) default) && strEq (Watch.path w) (Watch.path (List.getD xs (Int.toNat (↑x : Int)) default))) = true) → (VLe (vi (↑x : Int)) (vi (atW xs w)))) ∧ (((Watch.client w == Watch.client (List.getD xs (Int.toNat (↑x : Int)) default) && strEq (Watch.path w) (Watch.path (List.getD xs (Int.toNat (↑x : Int)) default))) = false) → ((inK IntKind.i64 ((↑x : Int) + (1 : Int))) ∧ (∃ y : Nat, ((SLe (AS.mk [(0, encL (encWatch 1) 1 xs), (3, V.oref 256 0 0), (7, vi (↑(List.length xs) : Int)), (8, vi ((↑x : Int) + (1 : Int)))] [(k53_0 w)]) (AS.mk [(0, encL (encWatch 1) 1 xs), (3, V.oref 256 0 0), (7, vi (↑(List.length xs) : Int)), (8, vi (↑y : Int))] [(k53_0 w)])) ∧ (((y ≤ List.length xs) ∧ (∀ j : Nat, ((j < y) → (isW w (List.getD xs j default) = false)))) ∧ (List.length xs - y < List.length xs - x))))))))) ∧ ((decide ((↑x : Int) < (↑(List.length xs) : Int)) = false) → (VLe (vi (-1 : Int)) (vi (atW xs w)))))))) := by
    delta k53_0; delta vi
    have hl : xs.length ≤ maxLen := hpre
    unfold maxLen at hl
    refine ⟨⟨0, SLe.refl _, by omega, fun j hj => absurd hj (Nat.not_lt_zero j)⟩, ?_⟩
    rintro i ⟨hi, hj⟩
    refine ⟨fun h => ?_, fun h => ?_⟩
    · have hlt : i < xs.length := by simpa using h
      rw [Int.toNat_natCast, isW_b]
      refine ⟨⟨by omega, by omega⟩, fun h2 => vle_int (idxF_some hlt hj h2).symm, fun h2 => ⟨inK64 (by omega), i + 1, SLe.refl _, ⟨by omega, fun j h3 => ?_⟩, by omega⟩⟩
      rcases Nat.lt_or_ge j i with h4 | h4
      · exact hj j h4
      · have : j = i := by omega
        subst this
        exact h2
    · have hge : i = xs.length := by simp at h; omega
      exact vle_int (idxF_none fun j h3 => hj j (by omega)).symm
  exact Eq.mp (by kernel_rfl) key
theorem so53 : Sound Tryz.prog 53 sp53 := by
  refine sound_of_body hmix (pol := 0) Tryz.func53 rfl (by kernel_rfl) fun args bin ob r bout hDe hob => ?_
  unfold sp53 at hDe
  split at hDe
  · rename_i a0 a1
    cases hDe
    exact ⟨rfl, rfl, Nat.le_of_ble_eq_true (by kernel_rfl), cx53 ((decL decWatch) a0) (decWatch a1), Eq.mp (by kernel_rfl) htt, Eq.mp (by kernel_rfl) da53, Eq.mp (by kernel_rfl) (noM_sound (P := Tryz.prog)), by kernel_rfl, [encL (encWatch 1) 1 (((decL decWatch) a0)), encWatch 1 ((decWatch a1))], args_of_vles (⟨hob.1, hob.2.1, trivial⟩), Eq.mp (by kernel_rfl) (bd53 ((decL decWatch) a0) (decWatch a1) (hob.2.2))⟩
  · cases hDe

/-! ### slices.Contains(()loop.example/g00369/impl.Watch,loop.example/g00369/impl.Watch) -/
def pr24 (xs : List Watch) (w : Watch) : Prop := xs.length ≤ maxLen
noncomputable def rs24 (xs : List Watch) (w : Watch) : V := .bool (decide (w ∈ xs))
noncomputable def sp24 : FSpec := fun args bin => match args, bin with
  | [a0, a1], [] => some (VLe a0 (encL (encWatch 1) 1 (((decL decWatch) a0))) ∧ VLe a1 (encWatch 1 ((decWatch a1))) ∧ pr24 ((decL decWatch) a0) (decWatch a1), rs24 ((decL decWatch) a0) (decWatch a1), [])
  | _, _ => none
noncomputable def D24 : Nat → Option (Bool × FSpec) := lk [(53, (false, sp53))]
theorem da24 : SoundAll Tryz.prog D24 := soundAll_cons so53 (soundAll_nil)
noncomputable def cx24 (xs : List Watch) (w : Watch) : Cx := ⟨tt, D24, Tryz.f24.ntmps, [0, 1, 3, 4], [], [], fun _ => none, [], noM, []⟩
theorem bd24 (xs : List Watch) (w : Watch) (hpre : pr24 xs w) : bodyP (cx24 xs w) Tryz.f24 0 [encL (encWatch 1) 1 (xs), encWatch 1 (w)] (fun rr => VLe rr (rs24 xs w)) := by
  have key : (((VLe (encL (encWatch 1) 1 xs) (encL (encWatch 1) 1 (decL decWatch (encL (encWatch 1) 1 xs)))) ∧ ((VLe (encWatch 1 w) (encWatch 1 (decWatch (encWatch 1 w)))) ∧ (pr53 (decL decWatch (encL (encWatch 1) 1 xs)) (decWatch (encWatch 1 w))))) ∧ (VLe (V.bool (decide (atW (decL decWatch (encL (encWatch 1) 1 xs)) (decWatch (encWatch 1 w)) ≥ (0 : Int)))) (V.bool (decide (w ∈ xs))))) := by
    simp only [decL_Watch, dec_encWatch]
    refine ⟨⟨VLe.refl _, VLe.refl _, hpre⟩, vle_bool ?_⟩
    have := idxF_nonneg (isW w) xs
    show decide (0 ≤ idxF (isW w) xs) = _
    rw [this, Bool.eq_iff_iff, decide_eq_true_eq, List.any_eq_true]
    unfold isW
    constructor
    · rintro ⟨x, hx, h⟩
      rw [← of_decide_eq_true h]
      exact hx
    · intro h
      exact ⟨w, h, decide_eq_true rfl⟩
  exact Eq.mp (by kernel_rfl) key
theorem so24 : Sound Tryz.prog 24 sp24 := by
  refine sound_of_body hmix (pol := 0) Tryz.func24 rfl (by kernel_rfl) fun args bin ob r bout hDe hob => ?_
  unfold sp24 at hDe
  split at hDe
  · rename_i a0 a1
    cases hDe
    exact ⟨rfl, rfl, Nat.le_of_ble_eq_true (by kernel_rfl), cx24 ((decL decWatch) a0) (decWatch a1), Eq.mp (by kernel_rfl) htt, Eq.mp (by kernel_rfl) da24, Eq.mp (by kernel_rfl) (noM_sound (P := Tryz.prog)), by kernel_rfl, [encL (encWatch 1) 1 (((decL decWatch) a0)), encWatch 1 ((decWatch a1))], args_of_vles (⟨hob.1, hob.2.1, trivial⟩), Eq.mp (by kernel_rfl) (bd24 ((decL decWatch) a0) (decWatch a1) (hob.2.2))⟩
  · cases hDe

/-! ### impl.WatchesFault -/
def pr10 (l : List Watch) : Prop := l.length ≤ maxLen
noncomputable def rs10 (l : List Watch) : V := .int .i64 (watchesF l)
noncomputable def sp10 : FSpec := fun args bin => match args, bin with
  | [a0], [] => some (VLe a0 (encL (encWatch 1) 1 (((decL decWatch) a0))) ∧ pr10 ((decL decWatch) a0), rs10 ((decL decWatch) a0), [])
  | _, _ => none
noncomputable def in10_4 (l : List Watch) : LoopInv :=
  ⟨Nat, fun i => ⟨[(0, encL (encWatch 1) 1 l), (9, encL (encWatch 1) 1 l), (10, .int .i64 l.length), (11, .int .i64 i)], []⟩,
    fun i => i ≤ l.length ∧ scanE (watchE l) i = 0, fun i => l.length - i⟩
noncomputable def iv10 (l : List Watch) : Nat → Option LoopInv := fun rg_ => match rg_ with
  | 4 => some (in10_4 l)
  | _ => none
noncomputable def D10 : Nat → Option (Bool × FSpec) := lk [(21, (false, sp21)), (24, (false, sp24))]
theorem da10 : SoundAll Tryz.prog D10 := soundAll_cons so21 (soundAll_cons so24 (soundAll_nil))
noncomputable def cx10 (l : List Watch) : Cx := ⟨tt, D10, Tryz.f10.ntmps, [0, 2, 3, 4, 5, 8, 9, 10, 11, 12, 19, 25], [(4, ⟨[(0, none), (9, none), (10, none), (11, none)], []⟩)], [], iv10 l, [], noM, []⟩
noncomputable def k10_0 (l : List Watch) (x : Nat) : V := (V.sl (Int.toNat (Option.getD (some (↑x : Int)) (↑(List.length l) : Int)) - 0) (match (motive := Option Int → Nat → V) none with | none => gL (encWatch 1) l | some val => dropg (gL (encWatch 1) l) 0) 1)
noncomputable def k10_1 (l : List Watch) (x : Nat) : V := (encWatch 1 (List.getD l (Int.toNat (↑x : Int)) default))
theorem bd10 (l : List Watch) (hpre : pr10 l) : bodyP (cx10 l) Tryz.f10 0 [encL (encWatch 1) 1 (l)] (fun rr => VLe rr (rs10 l)) := by
  have key : (((decide ((↑(List.length l) : Int) > (20 : Int)) = true) → (VLe (vi (2 : Int)) (vi (watchesF l)))) ∧ ((decide ((↑(List.length l) : Int) > (20 : Int)) = false) → ((∃ x : Nat, ((SLe (AS.mk [(0, encL (encWatch 1) 1 l), (9, encL (encWatch 1) 1 l), (10, vi (↑(List.length l) : Int)), (11, vi (0 : Int))] []) (AS.mk [(0, encL (encWatch 1) 1 l), (9, encL (encWatch 1) 1 l), (10, vi (↑(List.length l) : Int)), (11, vi (↑x : Int))] [])) ∧ ((x ≤ List.length l) ∧ (scanE (watchE l) x = (0 : Int))))) ∧ (∀ x : Nat, (((x ≤ List.length l) ∧ (scanE (watchE l) x = (0 : Int))) → (((decide ((↑x : Int) < (↑(List.length l) : Int)) = true) → ((((0 : Int) ≤ (↑x : Int)) ∧ ((↑x : Int) < (↑(List.length l) : Int))) ∧ (((VLe (k10_1 l x) (encWatch 1 (decWatch (k10_1 l x)))) ∧ (pr21 (decWatch (k10_1 l x)))) ∧ ((((watchF (decWatch (k10_1 l x)) != (0 : Int)) = true) → (VLe (vi (watchF (decWatch (k10_1 l x)))) (vi (watchesF l)))) ∧ (((watchF (decWatch (k10_1 l x)) != (0 : Int)) = false) → ((((0 : Int) ≤ Option.getD none (0 : Int)) ∧ ((Option.getD none (0 : Int) ≤ Option.getD (some (↑x : Int)) (↑(List.length l) : Int)) ∧ (Option.getD (some (↑x : Int)) (↑(List.length l) : Int) ≤ (↑(List.length l) : Int)))) ∧ ((sizedL 2 (List.length l) (gL (encWatch 1) l)) ∧ (((VLe (k10_0 l x) (encL (encWatch 1) 1 (decL decWatch (k10_0 l x)))) ∧ ((VLe (k10_1 l x) (encWatch 1 (decWatch (k10_1 l x)))) ∧ (pr24 (decL decWatch (k10_0 l x)) (decWatch (k10_1 l x))))) ∧ (((decide (decWatch (k10_1 l x) ∈ decL decWatch (k10_0 l x)) = true) → (VLe (vi (6 : Int)) (vi (watchesF l)))) ∧ ((decide (decWatch (k10_1 l x) ∈ decL decWatch (k10_0 l x)) = false) → ((inK IntKind.i64 ((↑x : Int) + (1 : Int))) ∧ (∃ y : Nat, ((SLe (AS.mk [(0, encL (encWatch 1) 1 l), (9, encL (encWatch 1) 1 l), (10, vi (↑(List.length l) : Int)), (11, vi ((↑x : Int) + (1 : Int)))] []) (AS.mk [(0, encL (encWatch 1) 1 l), (9, encL (encWatch 1) 1 l), (10, vi (↑(List.length l) : Int)), (11, vi (↑y : Int))] [])) ∧ (((y ≤ List.length l) ∧ (scanE (watchE l) y = (0 : Int))) ∧ (List.length l - y < List.length l - x))))))))))))))) ∧ ((decide ((↑x : Int) < (↑(List.length l) : Int)) = false) → (VLe (vi (0 : Int)) (vi (watchesF l)))))))))) := by
    delta k10_1; delta k10_0; delta vi
    have hl : l.length ≤ maxLen := hpre
    unfold maxLen at hl
    refine ⟨fun h => ?_, fun h => ?_⟩
    · have h1 : 20 < l.length := by have := of_decide_eq_true h; omega
      exact vle_int (by unfold watchesF; rw [if_pos h1])
    have h1 : ¬ 20 < l.length := by have := of_decide_eq_false h; omega
    have e1 : watchesF l = scanE (watchE l) l.length := if_neg h1
    refine ⟨⟨0, SLe.refl _, by omega, rfl⟩, ?_⟩
    rintro i ⟨hi, hz⟩
    refine ⟨fun h2 => ?_, fun h2 => ?_⟩
    · have hlt : i < l.length := by simpa using h2
      simp only [dec_encWatch, dec_encPWatch, decL_Watch, Int.toNat_natCast]
      have stop : ∀ c, c = watchE l i → c ≠ 0 → VLe (.int .i64 c) (.int .i64 (watchesF l)) := fun c hc h0 => vle_int (by
        rw [e1, scanE_stop hz (by rw [← hc]; exact h0) _ hlt, hc])
      refine ⟨⟨by omega, by omega⟩, ⟨VLe.refl _, trivial⟩, fun h3 => ?_, fun h3 => ?_⟩
      · have h4 : watchF (l.getD i default) ≠ 0 := by simpa using h3
        exact stop _ (by unfold watchE; rw [if_pos h4]) h4
      have h4 : ¬ watchF (l.getD i default) ≠ 0 := by simpa using h3
      have e2 : watchE l i = if l.getD i default ∈ l.take i then 6 else 0 := if_neg h4
      simp only [Option.getD_some, Option.getD_none, Int.toNat_natCast, Nat.sub_zero, decL_take (dec_encWatch 1) 1 l i hi]
      refine ⟨⟨by omega, by omega, by omega⟩, fun k hk => ⟨rfl, rfl⟩, ⟨vle_take hi, VLe.refl _, by show (l.take i).length ≤ maxLen; rw [List.length_take]; unfold maxLen; omega⟩, fun h5 => ?_, fun h5 => ⟨inK64 (by omega), i + 1, SLe.refl _, ⟨by omega, ?_⟩, by omega⟩⟩
      · exact stop _ (by rw [e2, if_pos (of_decide_eq_true h5)]) (by decide)
      · exact scanE_next hz (by rw [e2, if_neg (of_decide_eq_false h5)])
    · have hge : i = l.length := by simp at h2; omega
      exact vle_int (by rw [e1, ← hge, hz])
  exact Eq.mp (by kernel_rfl) key
theorem so10 : Sound Tryz.prog 10 sp10 := by
  refine sound_of_body hmix (pol := 0) Tryz.func10 rfl (by kernel_rfl) fun args bin ob r bout hDe hob => ?_
  unfold sp10 at hDe
  split at hDe
  · rename_i a0
    cases hDe
    exact ⟨rfl, rfl, Nat.le_of_ble_eq_true (by kernel_rfl), cx10 ((decL decWatch) a0), Eq.mp (by kernel_rfl) htt, Eq.mp (by kernel_rfl) da10, Eq.mp (by kernel_rfl) (noM_sound (P := Tryz.prog)), by kernel_rfl, [encL (encWatch 1) 1 (((decL decWatch) a0))], args_of_vles (⟨hob.1, trivial⟩), Eq.mp (by kernel_rfl) (bd10 ((decL decWatch) a0) (hob.2))⟩
  · cases hDe

/-! ### spec.l7Fault -/
def pr16 (l : List Watch) : Prop := l.length ≤ maxLen
noncomputable def rs16 (l : List Watch) : V := .int .i64 (watchesF l)
noncomputable def sp16 : FSpec := fun args bin => match args, bin with
  | [a0], [] => some (VLe a0 (encL (encWatch 1) 1 (((decL decWatch) a0))) ∧ pr16 ((decL decWatch) a0), rs16 ((decL decWatch) a0), [])
  | _, _ => none
noncomputable def in16_4 (l : List Watch) : LoopInv :=
  ⟨Nat, fun i => ⟨[(0, encL (encWatch 1) 1 l), (3, .int .i64 i)], []⟩,
    fun i => i ≤ l.length ∧ scanE (watchE l) i = 0, fun i => l.length - i⟩
noncomputable def iv16 (l : List Watch) : Nat → Option LoopInv := fun rg_ => match rg_ with
  | 4 => some (in16_4 l)
  | _ => none
noncomputable def D16 : Nat → Option (Bool × FSpec) := lk [(38, (false, sp38)), (39, (false, sp39))]
theorem da16 : SoundAll Tryz.prog D16 := soundAll_cons so38 (soundAll_cons so39 (soundAll_nil))
noncomputable def cx16 (l : List Watch) : Cx := ⟨tt, D16, Tryz.f16.ntmps, [0, 2, 3, 4, 7, 11, 19, 28], [(4, ⟨[(0, none), (3, none)], []⟩)], [], iv16 l, [], noM, []⟩
noncomputable def k16_0 (l : List Watch) (x : Nat) : V := (encPWatch 1 (List.getD l (Int.toNat (↑x : Int)) default))
noncomputable def k16_1 (l : List Watch) (x : Nat) : V := (encWatch 1 (List.getD l (Int.toNat (↑x : Int)) default))
theorem bd16 (l : List Watch) (hpre : pr16 l) : bodyP (cx16 l) Tryz.f16 0 [encL (encWatch 1) 1 (l)] (fun rr => VLe rr (rs16 l)) := by
  have key : (((decide ((↑(List.length l) : Int) > (20 : Int)) = true) → (VLe (vi (2 : Int)) (vi (watchesF l)))) ∧ ((decide ((↑(List.length l) : Int) > (20 : Int)) = false) → ((∃ x : Nat, ((SLe (AS.mk [(0, encL (encWatch 1) 1 l), (3, vi (0 : Int))] []) (AS.mk [(0, encL (encWatch 1) 1 l), (3, vi (↑x : Int))] [])) ∧ ((x ≤ List.length l) ∧ (scanE (watchE l) x = (0 : Int))))) ∧ (∀ x : Nat, (((x ≤ List.length l) ∧ (scanE (watchE l) x = (0 : Int))) → (((decide ((↑x : Int) < (↑(List.length l) : Int)) = true) → ((((0 : Int) ≤ (↑x : Int)) ∧ ((↑x : Int) < (↑(List.length l) : Int))) ∧ (((VLe (k16_0 l x) (encPWatch 1 (decPWatch (k16_0 l x)))) ∧ (pr38 (decPWatch (k16_0 l x)))) ∧ ((((watchF (decPWatch (k16_0 l x)) != (0 : Int)) = true) → (VLe (vi (watchF (decPWatch (k16_0 l x)))) (vi (watchesF l)))) ∧ (((watchF (decPWatch (k16_0 l x)) != (0 : Int)) = false) → ((((0 : Int) ≤ (↑x : Int)) ∧ ((↑x : Int) < (↑(List.length l) : Int))) ∧ (((VLe (encL (encWatch 1) 1 l) (encL (encWatch 1) 1 (decL decWatch (encL (encWatch 1) 1 l)))) ∧ ((VLe (k16_1 l x) (encWatch 1 (decWatch (k16_1 l x)))) ∧ (pr39 (decL decWatch (encL (encWatch 1) 1 l)) (decWatch (k16_1 l x))))) ∧ ((((atW (decL decWatch (encL (encWatch 1) 1 l)) (decWatch (k16_1 l x)) != (↑x : Int)) = true) → (VLe (vi (6 : Int)) (vi (watchesF l)))) ∧ (((atW (decL decWatch (encL (encWatch 1) 1 l)) (decWatch (k16_1 l x)) != (↑x : Int)) = false) → ((inK IntKind.i64 ((↑x : Int) + (1 : Int))) ∧ (∃ y : Nat, ((SLe (AS.mk [(0, encL (encWatch 1) 1 l), (3, vi ((↑x : Int) + (1 : Int)))] []) (AS.mk [(0, encL (encWatch 1) 1 l), (3, vi (↑y : Int))] [])) ∧ (((y ≤ List.length l) ∧ (scanE (watchE l) y = (0 : Int))) ∧ (List.length l - y < List.length l - x)))))))))))))) ∧ ((decide ((↑x : Int) < (↑(List.length l) : Int)) = false) → (VLe (vi (0 : Int)) (vi (watchesF l)))))))))) := by
    delta k16_1; delta k16_0; delta vi
    have hl : l.length ≤ maxLen := hpre
    unfold maxLen at hl
    refine ⟨fun h => ?_, fun h => ?_⟩
    · have h1 : 20 < l.length := by have := of_decide_eq_true h; omega
      exact vle_int (by unfold watchesF; rw [if_pos h1])
    have h1 : ¬ 20 < l.length := by have := of_decide_eq_false h; omega
    have e1 : watchesF l = scanE (watchE l) l.length := if_neg h1
    refine ⟨⟨0, SLe.refl _, by omega, rfl⟩, ?_⟩
    rintro i ⟨hi, hz⟩
    refine ⟨fun h2 => ?_, fun h2 => ?_⟩
    · have hlt : i < l.length := by simpa using h2
      simp only [dec_encWatch, dec_encPWatch, decL_Watch, Int.toNat_natCast]
      have stop : ∀ c, c = watchE l i → c ≠ 0 → VLe (.int .i64 c) (.int .i64 (watchesF l)) := fun c hc h0 => vle_int (by
        rw [e1, scanE_stop hz (by rw [← hc]; exact h0) _ hlt, hc])
      refine ⟨⟨by omega, by omega⟩, ⟨VLe.refl _, trivial⟩, fun h3 => ?_, fun h3 => ?_⟩
      · have h4 : watchF (l.getD i default) ≠ 0 := by simpa using h3
        exact stop _ (by unfold watchE; rw [if_pos h4]) h4
      have h4 : ¬ watchF (l.getD i default) ≠ 0 := by simpa using h3
      have e2 : watchE l i = if l.getD i default ∈ l.take i then 6 else 0 := if_neg h4
      have hk := atW_take hlt
      refine ⟨⟨by omega, by omega⟩, ⟨VLe.refl _, VLe.refl _, hpre⟩, fun h5 => ?_, fun h5 => ⟨inK64 (by omega), i + 1, SLe.refl _, ⟨by omega, ?_⟩, by omega⟩⟩
      · have h6 : atW l (l.getD i default) ≠ i := by simpa using h5
        exact stop _ (by rw [e2, if_pos (Classical.byContradiction fun g => h6 (hk.2 g))]) (by decide)
      · have h6 : atW l (l.getD i default) = i := by simpa using h5
        exact scanE_next hz (by rw [e2, if_neg (hk.1 h6)])
    · have hge : i = l.length := by simp at h2; omega
      exact vle_int (by rw [e1, ← hge, hz])
  exact Eq.mp (by kernel_rfl) key
theorem so16 : Sound Tryz.prog 16 sp16 := by
  refine sound_of_body hmix (pol := 0) Tryz.func16 rfl (by kernel_rfl) fun args bin ob r bout hDe hob => ?_
  unfold sp16 at hDe
  split at hDe
  · rename_i a0
    cases hDe
    exact ⟨rfl, rfl, Nat.le_of_ble_eq_true (by kernel_rfl), cx16 ((decL decWatch) a0), Eq.mp (by kernel_rfl) htt, Eq.mp (by kernel_rfl) da16, Eq.mp (by kernel_rfl) (noM_sound (P := Tryz.prog)), by kernel_rfl, [encL (encWatch 1) 1 (((decL decWatch) a0))], args_of_vles (⟨hob.1, trivial⟩), Eq.mp (by kernel_rfl) (bd16 ((decL decWatch) a0) (hob.2))⟩
  · cases hDe

end Go.Av
