/- What a new view has to take over: as it is asked. -/
import Derived.Test.YtakcaanpnmkccaaK3
import Derived.Test.YtakcaanpnmkccaaE9
import Derived.Test.YtakcaanpnmkccaaK30
namespace Go.Av
open Go.Proofs
set_option maxRecDepth 100000
set_option linter.unusedVariables false
set_option linter.unusedSimpArgs false


/-! ### impl.PickOf$1 -/
def pr51 (r : Int) (l : List Msg) : Prop := l.length ≤ 240
noncomputable def rs51 (r : Int) (l : List Msg) : V := .bool (decide (¬ isAt l r 4))
noncomputable def sp51 : FSpec := fun args bin => match args, bin with
  | [.int .i64 a0, a1], [] => some (VLe a1 (encPL (encMsg 1) 1 (((decPL decMsg) a1))) ∧ pr51 a0 ((decPL decMsg) a1), rs51 a0 ((decPL decMsg) a1), [])
  | _, _ => none
noncomputable def D51 : Nat → Option (Bool × FSpec) := lk [(52, (false, sp52))]
theorem da51 : SoundAll Try.prog D51 := soundAll_cons so52 (soundAll_nil)
noncomputable def cx51 (r : Int) (l : List Msg) : Cx := ⟨tt, D51, Try.f51.ntmps, [0, 1, 3], [], [], fun _ => none, [], noM, []⟩
theorem bd51 (r : Int) (l : List Msg) (hpre : pr51 r l) : bodyP (cx51 r l) Try.f51 0 [.int .i64 (r), encPL (encMsg 1) 1 (l)] (fun rr => VLe rr (rs51 r l)) := by
  have key :
      ((inK IntKind.i64 ((↑(List.length l) : Int) - (1 : Int))) ∧
   ((pr52 r (0 : Int) ((↑(List.length l) : Int) - (1 : Int))) ∧
   ((tq (!!decide (inR r (0 : Int) ((↑(List.length l) : Int) - (1 : Int))))) ∧
   ((tq (!!decide (inR r (0 : Int) ((↑(List.length l) : Int) - (1 : Int))))) ∧
   ((((!!decide (inR r (0 : Int) ((↑(List.length l) : Int) - (1 : Int)))) = true) →
   (((0 : Int) ≤ r) ∧
   (r < (↑(List.length l) : Int)))) ∧
   ((tq (!!decide (inR r (0 : Int) ((↑(List.length l) : Int) - (1 : Int))))) ∧
   ((tq (!!decide (inR r (0 : Int) ((↑(List.length l) : Int) - (1 : Int))))) ∧
   ((tq (!!decide (inR r (0 : Int) ((↑(List.length l) : Int) - (1 : Int))))) ∧
   (((true = true) →
   (((!decide (inR r (0 : Int) ((↑(List.length l) : Int) - (1 : Int)))) = false) →
   ((!!decide (inR r (0 : Int) ((↑(List.length l) : Int) - (1 : Int)))) = true))) ∧
   (∀ b : Bool,
   ((b =
   bif !decide (inR r (0 : Int) ((↑(List.length l) : Int) - (1 : Int))) then true
   else Msg.kind (List.getD l (Int.toNat r) default) != (4 : Int)) →
   (VLe (V.bool b) (V.bool (decide ¬isAt l r (4 : Int))))))))))))))) := by
    unfold pr51 at hpre
    simp only [decPL_Msg]
    have hi : decide (inR r 0 ((l.length : Int) - 1)) = true → 0 ≤ r ∧ r < l.length := fun h => by
      have := of_decide_eq_true h
      unfold inR at this
      omega
    repeat (first | (refine And.intro (fun h _ => h) ?_) | (refine And.intro (fun _ h => h) ?_) | (refine And.intro ?aa ?_; case aa => (exact inK64 (by omega))) | (refine And.intro ?aa ?_; case aa => (exact trivial)) | (refine And.intro ?aa ?_; case aa => (exact (fun h => hi (by simpa using h)))) | (refine And.intro ?aa ?_; case aa => (intros; simp_all [pr52]; done)) | (refine And.intro ?aa ?_; case aa => (intros; exact inK64 (by omega))) | (refine And.intro ?aa ?_; case aa => (intros; simp only [decide_eq_true_eq] at *; omega)) | (intro q hq))
    subst_vars
    refine vle_bool ?_
    rw [Bool.eq_iff_iff, decide_eq_true_eq]
    unfold isAt inL
    by_cases a1 : inR r 0 ((l.length : Int) - 1) <;> simp [a1, atM]
  exact Eq.mp (by kernel_rfl) key
theorem so51 : Sound Try.prog 51 sp51 := by
  refine sound_of_body hmix (pol := 0) Try.func51 rfl (by kernel_rfl) fun args bin ob r bout hDe hob => ?_
  unfold sp51 at hDe
  split at hDe
  · rename_i a0 a1
    cases hDe
    exact ⟨rfl, rfl, Nat.le_of_ble_eq_true (by kernel_rfl), cx51 a0 ((decPL decMsg) a1), Eq.mp (by kernel_rfl) htt, Eq.mp (by kernel_rfl) da51, Eq.mp (by kernel_rfl) (noM_sound (P := Try.prog)), by kernel_rfl, [.int .i64 (a0), encPL (encMsg 1) 1 (((decPL decMsg) a1))], args_of_vles (⟨VLe.refl _, hob.1, trivial⟩), Eq.mp (by kernel_rfl) (bd51 a0 ((decPL decMsg) a1) (hob.2))⟩
  · cases hDe

/-! ### slices.IndexFunc(()int64,int64)@impl.PickOf$1 -/
def pr78_51 (xs : List Int) (l : List Msg) : Prop := xs.length ≤ maxLen ∧ (l.length ≤ 240)
noncomputable def rs78_51 (xs : List Int) (l : List Msg) : V := .int .i64 (idxF (fun r => decide (¬ isAt l r 4)) xs)
noncomputable def sp78_51 : FSpec := fun args bin => match args, bin with
  | [a0, .fn 51 [a1]], [] => some (VLe a0 (encL encI 1 (((decL decI) a0))) ∧ VLe a1 (encPL (encMsg 1) 1 (((decPL decMsg) a1))) ∧ pr78_51 ((decL decI) a0) ((decPL decMsg) a1), rs78_51 ((decL decI) a0) ((decPL decMsg) a1), [])
  | _, _ => none
noncomputable def in78_51_2 (xs : List Int) (l : List Msg) : LoopInv :=
  ⟨Nat, fun i => ⟨[(0, encL encI 1 xs), (1, .fn 51 [encPL (encMsg 1) 1 (l)]), (7, .int .i64 xs.length), (8, .int .i64 i)], []⟩,
    fun i => i ≤ xs.length ∧ ∀ j, j < i → (fun r => decide (¬ isAt l r 4)) (xs.getD j default) = false, fun i => xs.length - i⟩
noncomputable def iv78_51 (xs : List Int) (l : List Msg) : Nat → Option LoopInv := fun rg_ => match rg_ with
  | 2 => some (in78_51_2 xs l)
  | _ => none
noncomputable def D78_51 : Nat → Option (Bool × FSpec) := lk [(51, (false, sp51))]
theorem da78_51 : SoundAll Try.prog D78_51 := soundAll_cons so51 (soundAll_nil)
noncomputable def cx78_51 (xs : List Int) (l : List Msg) : Cx := ⟨tt, D78_51, Try.f78.ntmps, [0, 1, 4, 5, 7, 8, 9, 16], [(2, ⟨[(0, none), (1, none), (7, none), (8, none)], []⟩)], [], iv78_51 xs l, [], noM, []⟩
theorem bd78_51 (xs : List Int) (l : List Msg) (hpre : pr78_51 xs l) : bodyP (cx78_51 xs l) Try.f78 0 [encL encI 1 (xs), .fn 51 [encPL (encMsg 1) 1 (l)]] (fun rr => VLe rr (rs78_51 xs l)) := by
  have key :
      ((∃ x : Nat, ((SLe
   (AS.mk
   [(0, encL encI 1 xs), (1, V.fn (51 : FuncId) [encPL (encMsg 1) 1 l]),
   (7, V.int IntKind.i64 (↑(List.length xs) : Int)), (8, V.int IntKind.i64 (0 : Int))]
   [])
   (AS.mk
   [(0, encL encI 1 xs), (1, V.fn (51 : FuncId) [encPL (encMsg 1) 1 l]),
   (7, V.int IntKind.i64 (↑(List.length xs) : Int)), (8, V.int IntKind.i64 (↑x : Int))]
   [])) ∧
   ((x ≤ List.length xs) ∧
   (∀ j : Nat,
   ((j < x) →
   ((decide ¬isAt l (List.getD xs j default) (4 : Int)) = false)))))) ∧
   (∀ x : Nat,
   (((x ≤ List.length xs) ∧
   (∀ j : Nat,
   ((j < x) →
   ((decide ¬isAt l (List.getD xs j default) (4 : Int)) = false)))) →
   (((decide ((↑x : Int) < (↑(List.length xs) : Int)) = true) →
   ((((0 : Int) ≤ (↑x : Int)) ∧
   ((↑x : Int) < (↑(List.length xs) : Int))) ∧
   (((VLe (V.ptr [encL (encMsg 1) 1 l] 0 1)
   (encPL (encMsg 1) 1 (decPL decMsg (V.ptr [encL (encMsg 1) 1 l] 0 1)))) ∧
   (pr51 (List.getD xs (Int.toNat (↑x : Int)) default)
   (decPL decMsg (V.ptr [encL (encMsg 1) 1 l] 0 1)))) ∧
   ((((decide
   ¬isAt (decPL decMsg (V.ptr [encL (encMsg 1) 1 l] 0 1))
   (List.getD xs (Int.toNat (↑x : Int)) default) (4 : Int)) =
   true) →
   (VLe (V.int IntKind.i64 (↑x : Int)) (V.int IntKind.i64 (idxF (fun (r : Int) ↦ decide ¬isAt l r (4 : Int)) xs)))) ∧
   (((decide
   ¬isAt (decPL decMsg (V.ptr [encL (encMsg 1) 1 l] 0 1))
   (List.getD xs (Int.toNat (↑x : Int)) default) (4 : Int)) =
   false) →
   ((inK IntKind.i64 ((↑x : Int) + (1 : Int))) ∧
   (∃ y : Nat, ((SLe
   (AS.mk
   [(0, encL encI 1 xs), (1, V.fn (51 : FuncId) [encPL (encMsg 1) 1 l]),
   (7, V.int IntKind.i64 (↑(List.length xs) : Int)), (8, V.int IntKind.i64 ((↑x : Int) + (1 : Int)))]
   [])
   (AS.mk
   [(0, encL encI 1 xs), (1, V.fn (51 : FuncId) [encPL (encMsg 1) 1 l]),
   (7, V.int IntKind.i64 (↑(List.length xs) : Int)), (8, V.int IntKind.i64 (↑y : Int))]
   [])) ∧
   (((y ≤ List.length xs) ∧
   (∀ j : Nat,
   ((j < y) →
   ((decide ¬isAt l (List.getD xs j default) (4 : Int)) = false)))) ∧
   (List.length xs - y < List.length xs - x)))))))))) ∧
   ((decide ((↑x : Int) < (↑(List.length xs) : Int)) = false) →
   (VLe (V.int IntKind.i64 (-1 : Int)) (V.int IntKind.i64 (idxF (fun (r : Int) ↦ decide ¬isAt l r (4 : Int)) xs)))))))) := by
    obtain ⟨hlen, hp⟩ := hpre
    unfold maxLen at hlen
    refine ⟨⟨0, SLe.refl _, by omega, fun j hj => absurd hj (Nat.not_lt_zero j)⟩, ?_⟩
    rintro i ⟨hi, hj⟩
    refine ⟨fun h => ?_, fun h => ?_⟩
    · have hlt : i < xs.length := by simpa using h
      have hin : xs.getD i default ∈ xs := by simp [hlt]
      simp only [Int.toNat_natCast, decI_int, dec_encPMsg, dec_encMsg, decL_Msg, dec_encPInt, decPL_Msg]
      refine ⟨⟨by omega, by omega⟩, ⟨VLe.refl _, hp⟩, fun h2 => vle_int (idxF_some hlt hj h2).symm, fun h2 => ⟨inK64 (by omega), i + 1, SLe.refl _, ⟨by omega, fun j h3 => ?_⟩, by omega⟩⟩
      rcases Nat.lt_or_ge j i with h4 | h4
      · exact hj j h4
      · have : j = i := by omega
        subst this
        exact h2
    · have hge : i = xs.length := by simp at h; omega
      exact vle_int (idxF_none fun j h3 => hj j (by omega)).symm
  exact Eq.mp (by kernel_rfl) key
theorem so78_51 : Sound Try.prog 78 sp78_51 := by
  refine sound_of_body hmix (pol := 0) Try.func78 rfl (by kernel_rfl) fun args bin ob r bout hDe hob => ?_
  unfold sp78_51 at hDe
  split at hDe
  · rename_i a0 a1
    cases hDe
    exact ⟨rfl, rfl, Nat.le_of_ble_eq_true (by kernel_rfl), cx78_51 ((decL decI) a0) ((decPL decMsg) a1), Eq.mp (by kernel_rfl) htt, Eq.mp (by kernel_rfl) da78_51, Eq.mp (by kernel_rfl) (noM_sound (P := Try.prog)), by kernel_rfl, [encL encI 1 (((decL decI) a0)), .fn 51 [encPL (encMsg 1) 1 (((decPL decMsg) a1))]], args_of_vles (⟨hob.1, vle_fn ⟨hob.2.1, trivial⟩, trivial⟩), Eq.mp (by kernel_rfl) (bd78_51 ((decL decI) a0) ((decPL decMsg) a1) (hob.2.2))⟩
  · cases hDe

/-! ### slices.ContainsFunc(()int64,int64)@impl.PickOf$1 -/
def pr50_51 (xs : List Int) (l : List Msg) : Prop := xs.length ≤ maxLen ∧ (l.length ≤ 240)
noncomputable def rs50_51 (xs : List Int) (l : List Msg) : V := .bool (xs.any (fun r => decide (¬ isAt l r 4)))
noncomputable def sp50_51 : FSpec := fun args bin => match args, bin with
  | [a0, .fn 51 [a1]], [] => some (VLe a0 (encL encI 1 (((decL decI) a0))) ∧ VLe a1 (encPL (encMsg 1) 1 (((decPL decMsg) a1))) ∧ pr50_51 ((decL decI) a0) ((decPL decMsg) a1), rs50_51 ((decL decI) a0) ((decPL decMsg) a1), [])
  | _, _ => none
noncomputable def D50_51 : Nat → Option (Bool × FSpec) := lk [(78, (false, sp78_51))]
theorem da50_51 : SoundAll Try.prog D50_51 := soundAll_cons so78_51 (soundAll_nil)
noncomputable def cx50_51 (xs : List Int) (l : List Msg) : Cx := ⟨tt, D50_51, Try.f50.ntmps, [0, 1, 4], [], [], fun _ => none, [], noM, []⟩
theorem bd50_51 (xs : List Int) (l : List Msg) (hpre : pr50_51 xs l) : bodyP (cx50_51 xs l) Try.f50 0 [encL encI 1 (xs), .fn 51 [encPL (encMsg 1) 1 (l)]] (fun rr => VLe rr (rs50_51 xs l)) := by
  have key :
      (((VLe (encL encI 1 xs) (encL encI 1 (decL decI (encL encI 1 xs)))) ∧
   ((VLe (V.ptr [encL (encMsg 1) 1 l] 0 1)
   (encPL (encMsg 1) 1 (decPL decMsg (V.ptr [encL (encMsg 1) 1 l] 0 1)))) ∧
   (pr78_51 (decL decI (encL encI 1 xs))
   (decPL decMsg (V.ptr [encL (encMsg 1) 1 l] 0 1))))) ∧
   (VLe
   (V.bool
   (decide
   (idxF
   (fun (r : Int) ↦
   decide ¬isAt (decPL decMsg (V.ptr [encL (encMsg 1) 1 l] 0 1)) r (4 : Int))
   (decL decI (encL encI 1 xs)) ≥
   (0 : Int))))
   (V.bool (List.any xs fun (r : Int) ↦ decide ¬isAt l r (4 : Int))))) := by
    simp only [decL_ints, decL_Cert, dec_encPMsg, dec_encMsg, decL_Msg, dec_encPInt, decPL_Msg]
    refine ⟨?_, vle_bool (idxF_nonneg _ _)⟩
    repeat' (first | exact VLe.refl _ | exact hpre | apply And.intro)
  exact Eq.mp (by kernel_rfl) key
theorem so50_51 : Sound Try.prog 50 sp50_51 := by
  refine sound_of_body hmix (pol := 0) Try.func50 rfl (by kernel_rfl) fun args bin ob r bout hDe hob => ?_
  unfold sp50_51 at hDe
  split at hDe
  · rename_i a0 a1
    cases hDe
    exact ⟨rfl, rfl, Nat.le_of_ble_eq_true (by kernel_rfl), cx50_51 ((decL decI) a0) ((decPL decMsg) a1), Eq.mp (by kernel_rfl) htt, Eq.mp (by kernel_rfl) da50_51, Eq.mp (by kernel_rfl) (noM_sound (P := Try.prog)), by kernel_rfl, [encL encI 1 (((decL decI) a0)), .fn 51 [encPL (encMsg 1) 1 (((decPL decMsg) a1))]], args_of_vles (⟨hob.1, vle_fn ⟨hob.2.1, trivial⟩, trivial⟩), Eq.mp (by kernel_rfl) (bd50_51 ((decL decI) a0) ((decPL decMsg) a1) (hob.2.2))⟩
  · cases hDe

theorem ndP {p : Prop} [Decidable p] (h : (!decide p) = true) : ¬ p := by simpa using h
theorem pdP {p : Prop} [Decidable p] (h : (!decide p) = false) : p := by simpa using h
theorem any_notOk {l : List Msg} {refs : List Int} : (refs.any fun r => decide (¬ isAt l r 4)) = decide (¬ pickOk l refs) := by
  rw [Bool.eq_iff_iff, decide_eq_true_eq, List.any_eq_true]
  unfold pickOk
  constructor
  · rintro ⟨r, h1, h2⟩ h
    exact of_decide_eq_true h2 (h r h1)
  · intro h
    apply Classical.byContradiction
    intro g
    exact h fun r hr => Classical.byContradiction fun e => g ⟨r, hr, decide_eq_true e⟩

/-! ### impl.PickOf%o -/
def pr21o (f : Int) (l : List Msg) (refs : List Int) : Prop := bdL l ∧ refs.length ≤ 1048576
noncomputable def ro21o (f : Int) (l : List Msg) (refs : List Int) : IntsResult := pickOfF f l refs
noncomputable def rb21o (f : Int) (l : List Msg) (refs : List Int) : List Blk := [(.arr 1 ((ro21o f l refs).list).length (gL encI ((ro21o f l refs).list)) tagS)]
noncomputable def rs21o (f : Int) (l : List Msg) (refs : List Int) : V := .agg [.int .i64 ((ro21o f l refs).code), .osl 0 ((ro21o f l refs).list).length]
noncomputable def sp21o : FSpec := fun args bin => match args, bin with
  | [.int .i64 a0, a1, a2], [] => some (VLe a1 (encL (encMsg 1) 1 (((decL decMsg) a1))) ∧ VLe a2 (encL encI 1 (((decL decI) a2))) ∧ pr21o a0 ((decL decMsg) a1) ((decL decI) a2), rs21o a0 ((decL decMsg) a1) ((decL decI) a2), rb21o a0 ((decL decMsg) a1) ((decL decI) a2))
  | _, _ => none
noncomputable def D21o : Nat → Option (Bool × FSpec) := lk [(30, (false, sp30)), (49, (false, sp49)), (50, (false, sp50_51)), (53, (false, sp53o))]
theorem da21o : SoundAll Try.prog D21o := soundAll_cons so30 (soundAll_cons so49 (soundAll_cons so50_51 (soundAll_cons so53o (soundAll_nil))))
noncomputable def cx21o (f : Int) (l : List Msg) (refs : List Int) : Cx := ⟨tt, D21o, Try.f21.ntmps, [0, 1, 2, 4, 6, 7, 12, 19, 23], [], [], fun _ => none, [], noM, []⟩
theorem bd21o (f : Int) (l : List Msg) (refs : List Int) (hpre : pr21o f l refs) : bodyO (cx21o f l refs) Try.f21 [(1, 1)] [.int .i64 (f), encL (encMsg 1) 1 (l), encL encI 1 (refs)] [] (fun rr bs => VLe rr (rs21o f l refs) ∧ BinLe bs (rb21o f l refs)) := by
  have key :
      (((VLe (encL (encMsg 1) 1 l)
   (encL (encMsg 1) 1 (decL decMsg (encL (encMsg 1) 1 l)))) ∧
   (pr30 f (decL decMsg (encL (encMsg 1) 1 l)))) ∧
   ((((ledgerFault f (decL decMsg (encL (encMsg 1) 1 l)) != (0 : Int)) = true) →
   ((VLe
   (V.agg
   [V.int IntKind.i64 (ledgerFault f (decL decMsg (encL (encMsg 1) 1 l))), V.osl 0 0])
   (V.agg
   [V.int IntKind.i64 (IntsResult.code (ro21o f l refs)),
   V.osl 0 (List.length (IntsResult.list (ro21o f l refs)))])) ∧
   ((BLe (Blk.arr 1 0 (fun (x : Nat) ↦ V.undef) 100)
   (Blk.arr 1 (List.length (IntsResult.list (ro21o f l refs))) (gL encI (IntsResult.list (ro21o f l refs)))
   100)) ∧
   (True)))) ∧
   (((ledgerFault f (decL decMsg (encL (encMsg 1) 1 l)) != (0 : Int)) = false) →
   ((pr49 f) ∧
   (((decide ((↑(List.length refs) : Int) > (3 : Int) * f + (1 : Int)) = true) →
   ((VLe (V.agg [V.int IntKind.i64 (2 : Int), V.osl 0 0])
   (V.agg
   [V.int IntKind.i64 (IntsResult.code (ro21o f l refs)),
   V.osl 0 (List.length (IntsResult.list (ro21o f l refs)))])) ∧
   ((BLe (Blk.arr 1 0 (fun (x : Nat) ↦ V.undef) 100)
   (Blk.arr 1 (List.length (IntsResult.list (ro21o f l refs))) (gL encI (IntsResult.list (ro21o f l refs)))
   100)) ∧
   (True)))) ∧
   ((decide ((↑(List.length refs) : Int) > (3 : Int) * f + (1 : Int)) = false) →
   (((VLe (encL encI 1 refs) (encL encI 1 (decL decI (encL encI 1 refs)))) ∧
   ((VLe (V.ptr [encL (encMsg 1) 1 l] 0 1)
   (encPL (encMsg 1) 1 (decPL decMsg (V.ptr [encL (encMsg 1) 1 l] 0 1)))) ∧
   (pr50_51 (decL decI (encL encI 1 refs))
   (decPL decMsg (V.ptr [encL (encMsg 1) 1 l] 0 1))))) ∧
   ((((List.any (decL decI (encL encI 1 refs)) fun (r : Int) ↦
   decide ¬isAt (decPL decMsg (V.ptr [encL (encMsg 1) 1 l] 0 1)) r (4 : Int)) =
   true) →
   ((VLe (V.agg [V.int IntKind.i64 (4 : Int), V.osl 0 0])
   (V.agg
   [V.int IntKind.i64 (IntsResult.code (ro21o f l refs)),
   V.osl 0 (List.length (IntsResult.list (ro21o f l refs)))])) ∧
   ((BLe (Blk.arr 1 0 (fun (x : Nat) ↦ V.undef) 100)
   (Blk.arr 1 (List.length (IntsResult.list (ro21o f l refs))) (gL encI (IntsResult.list (ro21o f l refs)))
   100)) ∧
   (True)))) ∧
   (((List.any (decL decI (encL encI 1 refs)) fun (r : Int) ↦
   decide ¬isAt (decPL decMsg (V.ptr [encL (encMsg 1) 1 l] 0 1)) r (4 : Int)) =
   false) →
   (((VLe (encL (encMsg 1) 1 l)
   (encL (encMsg 1) 1 (decL decMsg (encL (encMsg 1) 1 l)))) ∧
   ((VLe (encL encI 1 refs) (encL encI 1 (decL decI (encL encI 1 refs)))) ∧
   (pr53o (decL decMsg (encL (encMsg 1) 1 l)) (decL decI (encL encI 1 refs))))) ∧
   ((VLe
   (V.agg
   [V.int IntKind.i64 (0 : Int),
   V.osl 0
   (List.length
   (ro53o (decL decMsg (encL (encMsg 1) 1 l)) (decL decI (encL encI 1 refs))))])
   (V.agg
   [V.int IntKind.i64 (IntsResult.code (ro21o f l refs)),
   V.osl 0 (List.length (IntsResult.list (ro21o f l refs)))])) ∧
   ((BLe
   (Blk.arr 1
   (List.length (ro53o (decL decMsg (encL (encMsg 1) 1 l)) (decL decI (encL encI 1 refs))))
   (gL encI (ro53o (decL decMsg (encL (encMsg 1) 1 l)) (decL decI (encL encI 1 refs))))
   100)
   (Blk.arr 1 (List.length (IntsResult.list (ro21o f l refs))) (gL encI (IntsResult.list (ro21o f l refs)))
   100)) ∧
   (True))))))))))))) := by
    obtain ⟨hl, hb⟩ := hpre
    simp only [decL_Msg, decL_ints, decPL_Msg, ro21o, ro53o]
    refine ⟨⟨VLe.refl _, hl⟩, fun h => ?_, fun h => ?_⟩
    · have e : pickOfF f l refs = ⟨ledgerFault f l, []⟩ := if_pos (by simpa using h)
      rw [e]
      exact ⟨VLe.refl _, ble_nil _, trivial⟩
    have h0 : ledgerFault f l = 0 := by simpa using h
    have hr := right_of h0
    have hf : 1 ≤ f ∧ f ≤ 2 := by have := hr.okf; unfold okF at this; omega
    have e0 : pickOfF f l refs = if 3 * f + 1 < (refs.length : Int) then ⟨2, []⟩ else if ¬ pickOk l refs then ⟨4, []⟩ else ⟨0, pickL l refs⟩ := if_neg (not_not_intro h0)
    refine ⟨hr.okf, fun h => ?_, fun h => ?_⟩
    · have e : pickOfF f l refs = ⟨2, []⟩ := by rw [e0, if_pos (of_decide_eq_true h)]
      rw [e]
      exact ⟨VLe.refl _, ble_nil _, trivial⟩
    have h1 := of_decide_eq_false h
    rw [any_notOk]
    refine ⟨⟨VLe.refl _, VLe.refl _, by show refs.length ≤ maxLen; unfold maxLen; omega, hr.len⟩, fun h => ?_, fun h => ?_⟩
    · have e : pickOfF f l refs = ⟨4, []⟩ := by rw [e0, if_neg h1, if_pos (of_decide_eq_true h)]
      rw [e]
      exact ⟨VLe.refl _, ble_nil _, trivial⟩
    · have hp := Classical.not_not.1 (of_decide_eq_false h)
      have e : pickOfF f l refs = ⟨0, pickL l refs⟩ := by rw [e0, if_neg h1, if_neg (not_not_intro hp)]
      rw [e]
      exact ⟨⟨VLe.refl _, VLe.refl _, ⟨f, hr⟩, hl, hp, by omega⟩, VLe.refl _, BLe.refl _, trivial⟩
  exact Eq.mp (by kernel_rfl) key
theorem so21o : Sound Try.prog 21 sp21o := by
  refine sound_of_bodyO hmix (tpl := [(1, 1)]) Try.func21 rfl (by kernel_rfl) fun args bin ob r bout hDe hob => ?_
  unfold sp21o at hDe
  split at hDe
  · rename_i a0 a1 a2
    cases hDe
    exact ⟨Nat.le_of_ble_eq_true (by kernel_rfl), cx21o a0 ((decL decMsg) a1) ((decL decI) a2), Eq.mp (by kernel_rfl) htt, Eq.mp (by kernel_rfl) da21o, Eq.mp (by kernel_rfl) (noM_sound (P := Try.prog)), by kernel_rfl, [.int .i64 (a0), encL (encMsg 1) 1 (((decL decMsg) a1)), encL encI 1 (((decL decI) a2))], [], args_of_vles (⟨VLe.refl _, hob.1, hob.2.1, trivial⟩), trivial, Eq.mp (by kernel_rfl) (bd21o a0 ((decL decMsg) a1) ((decL decI) a2) (hob.2.2))⟩
  · cases hDe

/-! ### spec.PickOf%o -/
def pr22o (f : Int) (l : List Msg) (refs : List Int) : Prop := bdL l ∧ refs.length ≤ 1048576
noncomputable def ro22o (f : Int) (l : List Msg) (refs : List Int) : IntsResult := pickOfF f l refs
noncomputable def rb22o (f : Int) (l : List Msg) (refs : List Int) : List Blk := [(.arr 1 ((ro22o f l refs).list).length (gL encI ((ro22o f l refs).list)) tagS)]
noncomputable def rs22o (f : Int) (l : List Msg) (refs : List Int) : V := .agg [.int .i64 ((ro22o f l refs).code), .osl 0 ((ro22o f l refs).list).length]
noncomputable def sp22o : FSpec := fun args bin => match args, bin with
  | [.int .i64 a0, a1, a2], [] => some (VLe a1 (encL (encMsg 1) 1 (((decL decMsg) a1))) ∧ VLe a2 (encL encI 1 (((decL decI) a2))) ∧ pr22o a0 ((decL decMsg) a1) ((decL decI) a2), rs22o a0 ((decL decMsg) a1) ((decL decI) a2), rb22o a0 ((decL decMsg) a1) ((decL decI) a2))
  | _, _ => none
noncomputable def in22o_7 (f : Int) (l : List Msg) (refs : List Int) : LoopInv :=
  ⟨Nat, fun i => ⟨[(1, encL (encMsg 1) 1 l), (2, encL encI 1 refs), (6, .oref 448 0 0), (8, .int .i64 i)], [(448, .box [.int .i64 0, .nil])]⟩,
    fun i => i ≤ refs.length ∧ ∀ j, j < i → isAt l (refs.getD j default) 4, fun i => refs.length - i⟩
noncomputable def iv22o (f : Int) (l : List Msg) (refs : List Int) : Nat → Option LoopInv := fun rg_ => match rg_ with
  | 7 => some (in22o_7 f l refs)
  | _ => none
noncomputable def D22o : Nat → Option (Bool × FSpec) := lk [(33, (false, sp33)), (54, (false, sp54)), (55, (false, sp55o))]
theorem da22o : SoundAll Try.prog D22o := soundAll_cons so33 (soundAll_cons so54 (soundAll_cons so55o (soundAll_nil)))
noncomputable def cx22o (f : Int) (l : List Msg) (refs : List Int) : Cx := ⟨tt, D22o, Try.f22.ntmps, [0, 1, 2, 6, 7, 8, 13, 21, 26, 35], [(7, ⟨[(1, none), (2, none), (6, none), (8, none)], [(448, [])]⟩)], [], iv22o f l refs, [], noM, []⟩
theorem bd22o (f : Int) (l : List Msg) (refs : List Int) (hpre : pr22o f l refs) : bodyO (cx22o f l refs) Try.f22 [(1, 1)] [.int .i64 (f), encL (encMsg 1) 1 (l), encL encI 1 (refs)] [] (fun rr bs => VLe rr (rs22o f l refs) ∧ BinLe bs (rb22o f l refs)) := by
  have key :
      (((VLe (encL (encMsg 1) 1 l)
   (encL (encMsg 1) 1 (decL decMsg (encL (encMsg 1) 1 l)))) ∧
   (pr33 f (decL decMsg (encL (encMsg 1) 1 l)))) ∧
   ((((ledgerFault f (decL decMsg (encL (encMsg 1) 1 l)) != (0 : Int)) = true) →
   ((VLe
   (V.agg
   [V.int IntKind.i64 (ledgerFault f (decL decMsg (encL (encMsg 1) 1 l))), V.osl 0 0])
   (V.agg
   [V.int IntKind.i64 (IntsResult.code (ro22o f l refs)),
   V.osl 0 (List.length (IntsResult.list (ro22o f l refs)))])) ∧
   ((BLe (Blk.arr 1 0 (fun (x : Nat) ↦ V.undef) 100)
   (Blk.arr 1 (List.length (IntsResult.list (ro22o f l refs))) (gL encI (IntsResult.list (ro22o f l refs)))
   100)) ∧
   (True)))) ∧
   (((ledgerFault f (decL decMsg (encL (encMsg 1) 1 l)) != (0 : Int)) = false) →
   ((inK IntKind.i64 ((3 : Int) * f)) ∧
   ((inK IntKind.i64 ((3 : Int) * f + (1 : Int))) ∧
   (((decide ((↑(List.length refs) : Int) > (3 : Int) * f + (1 : Int)) = true) →
   ((VLe (V.agg [V.int IntKind.i64 (2 : Int), V.osl 0 0])
   (V.agg
   [V.int IntKind.i64 (IntsResult.code (ro22o f l refs)),
   V.osl 0 (List.length (IntsResult.list (ro22o f l refs)))])) ∧
   ((BLe (Blk.arr 1 0 (fun (x : Nat) ↦ V.undef) 100)
   (Blk.arr 1 (List.length (IntsResult.list (ro22o f l refs))) (gL encI (IntsResult.list (ro22o f l refs)))
   100)) ∧
   (True)))) ∧
   ((decide ((↑(List.length refs) : Int) > (3 : Int) * f + (1 : Int)) = false) →
   ((∃ x : Nat, ((SLe
   (AS.mk
   [(1, encL (encMsg 1) 1 l), (2, encL encI 1 refs),
   (6, V.oref 448 0 0), (8, V.int IntKind.i64 (0 : Int))]
   [(448, Blk.box [V.int IntKind.i64 (0 : Int), V.nil])])
   (AS.mk
   [(1, encL (encMsg 1) 1 l), (2, encL encI 1 refs),
   (6, V.oref 448 0 0), (8, V.int IntKind.i64 (↑x : Int))]
   [(448, Blk.box [V.int IntKind.i64 (0 : Int), V.nil])])) ∧
   ((x ≤ List.length refs) ∧
   (∀ j : Nat,
   ((j < x) →
   (isAt l (List.getD refs j default) (4 : Int))))))) ∧
   (∀ x : Nat,
   (((x ≤ List.length refs) ∧
   (∀ j : Nat,
   ((j < x) →
   (isAt l (List.getD refs j default) (4 : Int))))) →
   (((decide ((↑x : Int) < (↑(List.length refs) : Int)) = true) →
   ((((0 : Int) ≤ (↑x : Int)) ∧
   ((↑x : Int) < (↑(List.length refs) : Int))) ∧
   (((VLe (encL (encMsg 1) 1 l)
   (encL (encMsg 1) 1 (decL decMsg (encL (encMsg 1) 1 l)))) ∧
   (pr54 (decL decMsg (encL (encMsg 1) 1 l)) (List.getD refs (Int.toNat (↑x : Int)) default) (4 : Int))) ∧
   ((((!decide
   (isAt (decL decMsg (encL (encMsg 1) 1 l)) (List.getD refs (Int.toNat (↑x : Int)) default)
   (4 : Int))) =
   true) →
   ((VLe (V.agg [V.int IntKind.i64 (4 : Int), V.osl 0 0])
   (V.agg
   [V.int IntKind.i64 (IntsResult.code (ro22o f l refs)),
   V.osl 0 (List.length (IntsResult.list (ro22o f l refs)))])) ∧
   ((BLe (Blk.arr 1 0 (fun (x : Nat) ↦ V.undef) 100)
   (Blk.arr 1 (List.length (IntsResult.list (ro22o f l refs))) (gL encI (IntsResult.list (ro22o f l refs)))
   100)) ∧
   (True)))) ∧
   (((!decide
   (isAt (decL decMsg (encL (encMsg 1) 1 l)) (List.getD refs (Int.toNat (↑x : Int)) default)
   (4 : Int))) =
   false) →
   ((inK IntKind.i64 ((↑x : Int) + (1 : Int))) ∧
   (∃ y : Nat, ((SLe
   (AS.mk
   [(1, encL (encMsg 1) 1 l), (2, encL encI 1 refs),
   (6, V.oref 448 0 0), (8, V.int IntKind.i64 ((↑x : Int) + (1 : Int)))]
   [(448, Blk.box [V.int IntKind.i64 (0 : Int), V.nil])])
   (AS.mk
   [(1, encL (encMsg 1) 1 l), (2, encL encI 1 refs),
   (6, V.oref 448 0 0), (8, V.int IntKind.i64 (↑y : Int))]
   [(448, Blk.box [V.int IntKind.i64 (0 : Int), V.nil])])) ∧
   (((y ≤ List.length refs) ∧
   (∀ j : Nat,
   ((j < y) →
   (isAt l (List.getD refs j default) (4 : Int))))) ∧
   (List.length refs - y < List.length refs - x)))))))))) ∧
   ((decide ((↑x : Int) < (↑(List.length refs) : Int)) = false) →
   (((VLe (encL (encMsg 1) 1 l)
   (encL (encMsg 1) 1 (decL decMsg (encL (encMsg 1) 1 l)))) ∧
   ((VLe (encL encI 1 refs) (encL encI 1 (decL decI (encL encI 1 refs)))) ∧
   (pr55o (decL decMsg (encL (encMsg 1) 1 l)) (decL decI (encL encI 1 refs))))) ∧
   ((VLe
   (V.agg
   [V.int IntKind.i64 (0 : Int),
   V.osl 0
   (List.length
   (ro55o (decL decMsg (encL (encMsg 1) 1 l)) (decL decI (encL encI 1 refs))))])
   (V.agg
   [V.int IntKind.i64 (IntsResult.code (ro22o f l refs)),
   V.osl 0 (List.length (IntsResult.list (ro22o f l refs)))])) ∧
   ((BLe
   (Blk.arr 1
   (List.length (ro55o (decL decMsg (encL (encMsg 1) 1 l)) (decL decI (encL encI 1 refs))))
   (gL encI (ro55o (decL decMsg (encL (encMsg 1) 1 l)) (decL decI (encL encI 1 refs))))
   100)
   (Blk.arr 1 (List.length (IntsResult.list (ro22o f l refs))) (gL encI (IntsResult.list (ro22o f l refs)))
   100)) ∧
   (True)))))))))))))))) := by
    obtain ⟨hl, hb⟩ := hpre
    simp only [decL_Msg, decL_ints, decPL_Msg, ro22o, ro55o]
    refine ⟨⟨VLe.refl _, hl⟩, fun h => ?_, fun h => ?_⟩
    · have e : pickOfF f l refs = ⟨ledgerFault f l, []⟩ := if_pos (by simpa using h)
      rw [e]
      exact ⟨VLe.refl _, ble_nil _, trivial⟩
    have h0 : ledgerFault f l = 0 := by simpa using h
    have hr := right_of h0
    have hf : 1 ≤ f ∧ f ≤ 2 := by have := hr.okf; unfold okF at this; omega
    have e0 : pickOfF f l refs = if 3 * f + 1 < (refs.length : Int) then ⟨2, []⟩ else if ¬ pickOk l refs then ⟨4, []⟩ else ⟨0, pickL l refs⟩ := if_neg (not_not_intro h0)
    refine ⟨inK64 (by omega), inK64 (by omega), fun h => ?_, fun h => ?_⟩
    · have e : pickOfF f l refs = ⟨2, []⟩ := by rw [e0, if_pos (of_decide_eq_true h)]
      rw [e]
      exact ⟨VLe.refl _, ble_nil _, trivial⟩
    have h1 := of_decide_eq_false h
    refine ⟨⟨0, SLe.refl _, by omega, fun j hj => absurd hj (Nat.not_lt_zero j)⟩, ?_⟩
    rintro i ⟨hi, hj⟩
    refine ⟨fun h => ?_, fun h => ?_⟩
    · have hlt : i < refs.length := by simpa using h
      simp only [Int.toNat_natCast]
      refine ⟨by omega, ⟨VLe.refl _, hr.len⟩, fun h2 => ?_, fun h2 => ⟨inK64 (by omega), i + 1, SLe.refl _, ⟨by omega, fun j h3 => ?_⟩, by omega⟩⟩
      · have hn : ¬ pickOk l refs := fun g => by
          have : isAt l (refs.getD i default) 4 := g _ (getD_mem hlt)
          exact ndP h2 this
        have e : pickOfF f l refs = ⟨4, []⟩ := by rw [e0, if_neg h1, if_pos hn]
        rw [e]
        exact ⟨VLe.refl _, ble_nil _, trivial⟩
      · rcases Nat.lt_or_ge j i with h4 | h4
        · exact hj j h4
        · have : j = i := by omega
          subst this
          exact pdP h2
    · have hge : i = refs.length := by simp at h; omega
      have hp : pickOk l refs := fun r hr' => by
        obtain ⟨j, hj2, rfl⟩ := List.getElem_of_mem hr'
        have := hj j (by omega)
        simpa [hj2] using this
      have e : pickOfF f l refs = ⟨0, pickL l refs⟩ := by rw [e0, if_neg h1, if_neg (not_not_intro hp)]
      rw [e]
      exact ⟨⟨VLe.refl _, VLe.refl _, ⟨f, hr⟩, hl, hp, by omega⟩, VLe.refl _, BLe.refl _, trivial⟩
  exact Eq.mp (by kernel_rfl) key
theorem so22o : Sound Try.prog 22 sp22o := by
  refine sound_of_bodyO hmix (tpl := [(1, 1)]) Try.func22 rfl (by kernel_rfl) fun args bin ob r bout hDe hob => ?_
  unfold sp22o at hDe
  split at hDe
  · rename_i a0 a1 a2
    cases hDe
    exact ⟨Nat.le_of_ble_eq_true (by kernel_rfl), cx22o a0 ((decL decMsg) a1) ((decL decI) a2), Eq.mp (by kernel_rfl) htt, Eq.mp (by kernel_rfl) da22o, Eq.mp (by kernel_rfl) (noM_sound (P := Try.prog)), by kernel_rfl, [.int .i64 (a0), encL (encMsg 1) 1 (((decL decMsg) a1)), encL encI 1 (((decL decI) a2))], [], args_of_vles (⟨VLe.refl _, hob.1, hob.2.1, trivial⟩), trivial, Eq.mp (by kernel_rfl) (bd22o a0 ((decL decMsg) a1) ((decL decI) a2) (hob.2.2))⟩
  · cases hDe

end Go.Av
