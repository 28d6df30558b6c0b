/- What a new view has to take over: as it is asked. -/
import Derived.Test.YtakcaanpnmkccaaGreatK3
import Derived.Test.YtakcaanpnmkccaaGreatE9
import Derived.Test.YtakcaanpnmkccaaGreatK30
namespace Go.Av
open Go.Proofs
set_option maxRecDepth 100000
set_option linter.unusedVariables false
set_option linter.unusedSimpArgs false


/-! ### impl.PickOf$1 -/
def pr40 (r : Int) (l : List Msg) : Prop := l.length ≤ 240
noncomputable def rs40 (r : Int) (l : List Msg) : V := .bool (decide (¬ isAt l r 4))
noncomputable def sp40 : FSpec := fun args bin => match args, bin with
  | [.int .i64 a0, a1], [] => some (VLe a1 (encPL (encMsg 1) 1 (((decPL decMsg) a1))) ∧ pr40 a0 ((decPL decMsg) a1), rs40 a0 ((decPL decMsg) a1), [])
  | _, _ => none
noncomputable def D40 : Nat → Option (Bool × FSpec) := lk [(41, (false, sp41))]
theorem da40 : SoundAll Tryz.prog D40 := soundAll_cons so41 (soundAll_nil)
noncomputable def cx40 (r : Int) (l : List Msg) : Cx := ⟨tt, D40, Tryz.f40.ntmps, [0, 1, 3], [], [], fun _ => none, [], noM, []⟩
theorem bd40 (r : Int) (l : List Msg) (hpre : pr40 r l) : bodyP (cx40 r l) Tryz.f40 0 [.int .i64 (r), encPL (encMsg 1) 1 (l)] (fun rr => VLe rr (rs40 r l)) := by
  have key :
      ((inK IntKind.i64 ((↑(List.length l) : Int) - (1 : Int))) ∧
   ((pr41 r (0 : Int) ((↑(List.length l) : Int) - (1 : Int))) ∧
   ((tq (!!decide (inR r (0 : Int) ((↑(List.length l) : Int) - (1 : Int))))) ∧
   ((tq (!!decide (inR r (0 : Int) ((↑(List.length l) : Int) - (1 : Int))))) ∧
   ((((!!decide (inR r (0 : Int) ((↑(List.length l) : Int) - (1 : Int)))) = true) →
   (((0 : Int) ≤ r) ∧
   (r < (↑(List.length l) : Int)))) ∧
   ((tq (!!decide (inR r (0 : Int) ((↑(List.length l) : Int) - (1 : Int))))) ∧
   ((tq (!!decide (inR r (0 : Int) ((↑(List.length l) : Int) - (1 : Int))))) ∧
   ((tq (!!decide (inR r (0 : Int) ((↑(List.length l) : Int) - (1 : Int))))) ∧
   (((true = true) →
   (((!decide (inR r (0 : Int) ((↑(List.length l) : Int) - (1 : Int)))) = false) →
   ((!!decide (inR r (0 : Int) ((↑(List.length l) : Int) - (1 : Int)))) = true))) ∧
   (∀ b : Bool,
   ((b =
   bif !decide (inR r (0 : Int) ((↑(List.length l) : Int) - (1 : Int))) then true
   else Msg.kind (List.getD l (Int.toNat r) default) != (4 : Int)) →
   (VLe (V.bool b) (V.bool (decide ¬isAt l r (4 : Int))))))))))))))) := by
    unfold pr40 at hpre
    simp only [decPL_Msg]
    have hi : decide (inR r 0 ((l.length : Int) - 1)) = true → 0 ≤ r ∧ r < l.length := fun h => by
      have := of_decide_eq_true h
      unfold inR at this
      omega
    repeat (first | (refine And.intro (fun h _ => h) ?_) | (refine And.intro (fun _ h => h) ?_) | (refine And.intro ?aa ?_; case aa => (exact inK64 (by omega))) | (refine And.intro ?aa ?_; case aa => (exact trivial)) | (refine And.intro ?aa ?_; case aa => (exact (fun h => hi (by simpa using h)))) | (refine And.intro ?aa ?_; case aa => (intros; simp_all [pr41]; done)) | (refine And.intro ?aa ?_; case aa => (intros; exact inK64 (by omega))) | (refine And.intro ?aa ?_; case aa => (intros; simp only [decide_eq_true_eq] at *; omega)) | (intro q hq))
    subst_vars
    refine vle_bool ?_
    rw [Bool.eq_iff_iff, decide_eq_true_eq]
    unfold isAt inL
    by_cases a1 : inR r 0 ((l.length : Int) - 1) <;> simp [a1, atM]
  exact Eq.mp (by kernel_rfl) key
theorem so40 : Sound Tryz.prog 40 sp40 := by
  refine sound_of_body hmix (pol := 0) Tryz.func40 rfl (by kernel_rfl) fun args bin ob r bout hDe hob => ?_
  unfold sp40 at hDe
  split at hDe
  · rename_i a0 a1
    cases hDe
    exact ⟨rfl, rfl, Nat.le_of_ble_eq_true (by kernel_rfl), cx40 a0 ((decPL decMsg) a1), Eq.mp (by kernel_rfl) htt, Eq.mp (by kernel_rfl) da40, Eq.mp (by kernel_rfl) (noM_sound (P := Tryz.prog)), by kernel_rfl, [.int .i64 (a0), encPL (encMsg 1) 1 (((decPL decMsg) a1))], args_of_vles (⟨VLe.refl _, hob.1, trivial⟩), Eq.mp (by kernel_rfl) (bd40 a0 ((decPL decMsg) a1) (hob.2))⟩
  · cases hDe

/-! ### slices.IndexFunc(()int64,int64)@impl.PickOf$1 -/
def pr72_40 (xs : List Int) (l : List Msg) : Prop := xs.length ≤ maxLen ∧ (l.length ≤ 240)
noncomputable def rs72_40 (xs : List Int) (l : List Msg) : V := .int .i64 (idxF (fun r => decide (¬ isAt l r 4)) xs)
noncomputable def sp72_40 : FSpec := fun args bin => match args, bin with
  | [a0, .fn 40 [a1]], [] => some (VLe a0 (encL encI 1 (((decL decI) a0))) ∧ VLe a1 (encPL (encMsg 1) 1 (((decPL decMsg) a1))) ∧ pr72_40 ((decL decI) a0) ((decPL decMsg) a1), rs72_40 ((decL decI) a0) ((decPL decMsg) a1), [])
  | _, _ => none
noncomputable def in72_40_2 (xs : List Int) (l : List Msg) : LoopInv :=
  ⟨Nat, fun i => ⟨[(0, encL encI 1 xs), (1, .fn 40 [encPL (encMsg 1) 1 (l)]), (7, .int .i64 xs.length), (8, .int .i64 i)], []⟩,
    fun i => i ≤ xs.length ∧ ∀ j, j < i → (fun r => decide (¬ isAt l r 4)) (xs.getD j default) = false, fun i => xs.length - i⟩
noncomputable def iv72_40 (xs : List Int) (l : List Msg) : Nat → Option LoopInv := fun rg_ => match rg_ with
  | 2 => some (in72_40_2 xs l)
  | _ => none
noncomputable def D72_40 : Nat → Option (Bool × FSpec) := lk [(40, (false, sp40))]
theorem da72_40 : SoundAll Tryz.prog D72_40 := soundAll_cons so40 (soundAll_nil)
noncomputable def cx72_40 (xs : List Int) (l : List Msg) : Cx := ⟨tt, D72_40, Tryz.f72.ntmps, [0, 1, 4, 5, 7, 8, 9, 16], [(2, ⟨[(0, none), (1, none), (7, none), (8, none)], []⟩)], [], iv72_40 xs l, [], noM, []⟩
theorem bd72_40 (xs : List Int) (l : List Msg) (hpre : pr72_40 xs l) : bodyP (cx72_40 xs l) Tryz.f72 0 [encL encI 1 (xs), .fn 40 [encPL (encMsg 1) 1 (l)]] (fun rr => VLe rr (rs72_40 xs l)) := by
  have key :
      ((∃ x : Nat, ((SLe
   (AS.mk
   [(0, encL encI 1 xs), (1, V.fn (40 : FuncId) [encPL (encMsg 1) 1 l]),
   (7, V.int IntKind.i64 (↑(List.length xs) : Int)), (8, V.int IntKind.i64 (0 : Int))]
   [])
   (AS.mk
   [(0, encL encI 1 xs), (1, V.fn (40 : FuncId) [encPL (encMsg 1) 1 l]),
   (7, V.int IntKind.i64 (↑(List.length xs) : Int)), (8, V.int IntKind.i64 (↑x : Int))]
   [])) ∧
   ((x ≤ List.length xs) ∧
   (∀ j : Nat,
   ((j < x) →
   ((decide ¬isAt l (List.getD xs j default) (4 : Int)) = false)))))) ∧
   (∀ x : Nat,
   (((x ≤ List.length xs) ∧
   (∀ j : Nat,
   ((j < x) →
   ((decide ¬isAt l (List.getD xs j default) (4 : Int)) = false)))) →
   (((decide ((↑x : Int) < (↑(List.length xs) : Int)) = true) →
   ((((0 : Int) ≤ (↑x : Int)) ∧
   ((↑x : Int) < (↑(List.length xs) : Int))) ∧
   (((VLe (V.ptr [encL (encMsg 1) 1 l] 0 1)
   (encPL (encMsg 1) 1 (decPL decMsg (V.ptr [encL (encMsg 1) 1 l] 0 1)))) ∧
   (pr40 (List.getD xs (Int.toNat (↑x : Int)) default)
   (decPL decMsg (V.ptr [encL (encMsg 1) 1 l] 0 1)))) ∧
   ((((decide
   ¬isAt (decPL decMsg (V.ptr [encL (encMsg 1) 1 l] 0 1))
   (List.getD xs (Int.toNat (↑x : Int)) default) (4 : Int)) =
   true) →
   (VLe (V.int IntKind.i64 (↑x : Int)) (V.int IntKind.i64 (idxF (fun (r : Int) ↦ decide ¬isAt l r (4 : Int)) xs)))) ∧
   (((decide
   ¬isAt (decPL decMsg (V.ptr [encL (encMsg 1) 1 l] 0 1))
   (List.getD xs (Int.toNat (↑x : Int)) default) (4 : Int)) =
   false) →
   ((inK IntKind.i64 ((↑x : Int) + (1 : Int))) ∧
   (∃ y : Nat, ((SLe
   (AS.mk
   [(0, encL encI 1 xs), (1, V.fn (40 : FuncId) [encPL (encMsg 1) 1 l]),
   (7, V.int IntKind.i64 (↑(List.length xs) : Int)), (8, V.int IntKind.i64 ((↑x : Int) + (1 : Int)))]
   [])
   (AS.mk
   [(0, encL encI 1 xs), (1, V.fn (40 : FuncId) [encPL (encMsg 1) 1 l]),
   (7, V.int IntKind.i64 (↑(List.length xs) : Int)), (8, V.int IntKind.i64 (↑y : Int))]
   [])) ∧
   (((y ≤ List.length xs) ∧
   (∀ j : Nat,
   ((j < y) →
   ((decide ¬isAt l (List.getD xs j default) (4 : Int)) = false)))) ∧
   (List.length xs - y < List.length xs - x)))))))))) ∧
   ((decide ((↑x : Int) < (↑(List.length xs) : Int)) = false) →
   (VLe (V.int IntKind.i64 (-1 : Int)) (V.int IntKind.i64 (idxF (fun (r : Int) ↦ decide ¬isAt l r (4 : Int)) xs)))))))) := by
    obtain ⟨hlen, hp⟩ := hpre
    unfold maxLen at hlen
    refine ⟨⟨0, SLe.refl _, by omega, fun j hj => absurd hj (Nat.not_lt_zero j)⟩, ?_⟩
    rintro i ⟨hi, hj⟩
    refine ⟨fun h => ?_, fun h => ?_⟩
    · have hlt : i < xs.length := by simpa using h
      have hin : xs.getD i default ∈ xs := by simp [hlt]
      simp only [Int.toNat_natCast, decI_int, dec_encPMsg, dec_encMsg, decL_Msg, dec_encPInt, decPL_Msg]
      refine ⟨⟨by omega, by omega⟩, ⟨VLe.refl _, hp⟩, fun h2 => vle_int (idxF_some hlt hj h2).symm, fun h2 => ⟨inK64 (by omega), i + 1, SLe.refl _, ⟨by omega, fun j h3 => ?_⟩, by omega⟩⟩
      rcases Nat.lt_or_ge j i with h4 | h4
      · exact hj j h4
      · have : j = i := by omega
        subst this
        exact h2
    · have hge : i = xs.length := by simp at h; omega
      exact vle_int (idxF_none fun j h3 => hj j (by omega)).symm
  exact Eq.mp (by kernel_rfl) key
theorem so72_40 : Sound Tryz.prog 72 sp72_40 := by
  refine sound_of_body hmix (pol := 0) Tryz.func72 rfl (by kernel_rfl) fun args bin ob r bout hDe hob => ?_
  unfold sp72_40 at hDe
  split at hDe
  · rename_i a0 a1
    cases hDe
    exact ⟨rfl, rfl, Nat.le_of_ble_eq_true (by kernel_rfl), cx72_40 ((decL decI) a0) ((decPL decMsg) a1), Eq.mp (by kernel_rfl) htt, Eq.mp (by kernel_rfl) da72_40, Eq.mp (by kernel_rfl) (noM_sound (P := Tryz.prog)), by kernel_rfl, [encL encI 1 (((decL decI) a0)), .fn 40 [encPL (encMsg 1) 1 (((decPL decMsg) a1))]], args_of_vles (⟨hob.1, vle_fn ⟨hob.2.1, trivial⟩, trivial⟩), Eq.mp (by kernel_rfl) (bd72_40 ((decL decI) a0) ((decPL decMsg) a1) (hob.2.2))⟩
  · cases hDe

/-! ### slices.ContainsFunc(()int64,int64)@impl.PickOf$1 -/
def pr39_40 (xs : List Int) (l : List Msg) : Prop := xs.length ≤ maxLen ∧ (l.length ≤ 240)
noncomputable def rs39_40 (xs : List Int) (l : List Msg) : V := .bool (xs.any (fun r => decide (¬ isAt l r 4)))
noncomputable def sp39_40 : FSpec := fun args bin => match args, bin with
  | [a0, .fn 40 [a1]], [] => some (VLe a0 (encL encI 1 (((decL decI) a0))) ∧ VLe a1 (encPL (encMsg 1) 1 (((decPL decMsg) a1))) ∧ pr39_40 ((decL decI) a0) ((decPL decMsg) a1), rs39_40 ((decL decI) a0) ((decPL decMsg) a1), [])
  | _, _ => none
noncomputable def D39_40 : Nat → Option (Bool × FSpec) := lk [(72, (false, sp72_40))]
theorem da39_40 : SoundAll Tryz.prog D39_40 := soundAll_cons so72_40 (soundAll_nil)
noncomputable def cx39_40 (xs : List Int) (l : List Msg) : Cx := ⟨tt, D39_40, Tryz.f39.ntmps, [0, 1, 4], [], [], fun _ => none, [], noM, []⟩
theorem bd39_40 (xs : List Int) (l : List Msg) (hpre : pr39_40 xs l) : bodyP (cx39_40 xs l) Tryz.f39 0 [encL encI 1 (xs), .fn 40 [encPL (encMsg 1) 1 (l)]] (fun rr => VLe rr (rs39_40 xs l)) := by
  have key :
      (((VLe (encL encI 1 xs) (encL encI 1 (decL decI (encL encI 1 xs)))) ∧
   ((VLe (V.ptr [encL (encMsg 1) 1 l] 0 1)
   (encPL (encMsg 1) 1 (decPL decMsg (V.ptr [encL (encMsg 1) 1 l] 0 1)))) ∧
   (pr72_40 (decL decI (encL encI 1 xs))
   (decPL decMsg (V.ptr [encL (encMsg 1) 1 l] 0 1))))) ∧
   (VLe
   (V.bool
   (decide
   (idxF
   (fun (r : Int) ↦
   decide ¬isAt (decPL decMsg (V.ptr [encL (encMsg 1) 1 l] 0 1)) r (4 : Int))
   (decL decI (encL encI 1 xs)) ≥
   (0 : Int))))
   (V.bool (List.any xs fun (r : Int) ↦ decide ¬isAt l r (4 : Int))))) := by
    simp only [decL_ints, decL_Cert, dec_encPMsg, dec_encMsg, decL_Msg, dec_encPInt, decPL_Msg]
    refine ⟨?_, vle_bool (idxF_nonneg _ _)⟩
    repeat' (first | exact VLe.refl _ | exact hpre | apply And.intro)
  exact Eq.mp (by kernel_rfl) key
theorem so39_40 : Sound Tryz.prog 39 sp39_40 := by
  refine sound_of_body hmix (pol := 0) Tryz.func39 rfl (by kernel_rfl) fun args bin ob r bout hDe hob => ?_
  unfold sp39_40 at hDe
  split at hDe
  · rename_i a0 a1
    cases hDe
    exact ⟨rfl, rfl, Nat.le_of_ble_eq_true (by kernel_rfl), cx39_40 ((decL decI) a0) ((decPL decMsg) a1), Eq.mp (by kernel_rfl) htt, Eq.mp (by kernel_rfl) da39_40, Eq.mp (by kernel_rfl) (noM_sound (P := Tryz.prog)), by kernel_rfl, [encL encI 1 (((decL decI) a0)), .fn 40 [encPL (encMsg 1) 1 (((decPL decMsg) a1))]], args_of_vles (⟨hob.1, vle_fn ⟨hob.2.1, trivial⟩, trivial⟩), Eq.mp (by kernel_rfl) (bd39_40 ((decL decI) a0) ((decPL decMsg) a1) (hob.2.2))⟩
  · cases hDe

theorem ndP {p : Prop} [Decidable p] (h : (!decide p) = true) : ¬ p := by simpa using h
theorem pdP {p : Prop} [Decidable p] (h : (!decide p) = false) : p := by simpa using h
theorem any_notOk {l : List Msg} {refs : List Int} : (refs.any fun r => decide (¬ isAt l r 4)) = decide (¬ pickOk l refs) := by
  rw [Bool.eq_iff_iff, decide_eq_true_eq, List.any_eq_true]
  unfold pickOk
  constructor
  · rintro ⟨r, h1, h2⟩ h
    exact of_decide_eq_true h2 (h r h1)
  · intro h
    apply Classical.byContradiction
    intro g
    exact h fun r hr => Classical.byContradiction fun e => g ⟨r, hr, decide_eq_true e⟩

/-! ### impl.PickOf%o -/
def pr14o (f : Int) (l : List Msg) (refs : List Int) : Prop := bdL l ∧ refs.length ≤ 1048576
noncomputable def ro14o (f : Int) (l : List Msg) (refs : List Int) : IntsResult := pickOfF f l refs
noncomputable def rb14o (f : Int) (l : List Msg) (refs : List Int) : List Blk := [(.arr 1 ((ro14o f l refs).list).length (gL encI ((ro14o f l refs).list)) tagS)]
noncomputable def rs14o (f : Int) (l : List Msg) (refs : List Int) : V := .agg [.int .i64 ((ro14o f l refs).code), .osl 0 ((ro14o f l refs).list).length]
noncomputable def sp14o : FSpec := fun args bin => match args, bin with
  | [.int .i64 a0, a1, a2], [] => some (VLe a1 (encL (encMsg 1) 1 (((decL decMsg) a1))) ∧ VLe a2 (encL encI 1 (((decL decI) a2))) ∧ pr14o a0 ((decL decMsg) a1) ((decL decI) a2), rs14o a0 ((decL decMsg) a1) ((decL decI) a2), rb14o a0 ((decL decMsg) a1) ((decL decI) a2))
  | _, _ => none
noncomputable def D14o : Nat → Option (Bool × FSpec) := lk [(27, (false, sp27)), (38, (false, sp38)), (39, (false, sp39_40)), (42, (false, sp42o))]
theorem da14o : SoundAll Tryz.prog D14o := soundAll_cons so27 (soundAll_cons so38 (soundAll_cons so39_40 (soundAll_cons so42o (soundAll_nil))))
noncomputable def cx14o (f : Int) (l : List Msg) (refs : List Int) : Cx := ⟨tt, D14o, Tryz.f14.ntmps, [0, 1, 2, 4, 6, 7, 12, 19, 23], [], [], fun _ => none, [], noM, []⟩
theorem bd14o (f : Int) (l : List Msg) (refs : List Int) (hpre : pr14o f l refs) : bodyO (cx14o f l refs) Tryz.f14 [(1, 1)] [.int .i64 (f), encL (encMsg 1) 1 (l), encL encI 1 (refs)] [] (fun rr bs => VLe rr (rs14o f l refs) ∧ BinLe bs (rb14o f l refs)) := by
  have key :
      (((VLe (encL (encMsg 1) 1 l)
   (encL (encMsg 1) 1 (decL decMsg (encL (encMsg 1) 1 l)))) ∧
   (pr27 f (decL decMsg (encL (encMsg 1) 1 l)))) ∧
   ((((ledgerFault f (decL decMsg (encL (encMsg 1) 1 l)) != (0 : Int)) = true) →
   ((VLe
   (V.agg
   [V.int IntKind.i64 (ledgerFault f (decL decMsg (encL (encMsg 1) 1 l))), V.osl 0 0])
   (V.agg
   [V.int IntKind.i64 (IntsResult.code (ro14o f l refs)),
   V.osl 0 (List.length (IntsResult.list (ro14o f l refs)))])) ∧
   ((BLe (Blk.arr 1 0 (fun (x : Nat) ↦ V.undef) 100)
   (Blk.arr 1 (List.length (IntsResult.list (ro14o f l refs))) (gL encI (IntsResult.list (ro14o f l refs)))
   100)) ∧
   (True)))) ∧
   (((ledgerFault f (decL decMsg (encL (encMsg 1) 1 l)) != (0 : Int)) = false) →
   ((pr38 f) ∧
   (((decide ((↑(List.length refs) : Int) > (3 : Int) * f + (1 : Int)) = true) →
   ((VLe (V.agg [V.int IntKind.i64 (2 : Int), V.osl 0 0])
   (V.agg
   [V.int IntKind.i64 (IntsResult.code (ro14o f l refs)),
   V.osl 0 (List.length (IntsResult.list (ro14o f l refs)))])) ∧
   ((BLe (Blk.arr 1 0 (fun (x : Nat) ↦ V.undef) 100)
   (Blk.arr 1 (List.length (IntsResult.list (ro14o f l refs))) (gL encI (IntsResult.list (ro14o f l refs)))
   100)) ∧
   (True)))) ∧
   ((decide ((↑(List.length refs) : Int) > (3 : Int) * f + (1 : Int)) = false) →
   (((VLe (encL encI 1 refs) (encL encI 1 (decL decI (encL encI 1 refs)))) ∧
   ((VLe (V.ptr [encL (encMsg 1) 1 l] 0 1)
   (encPL (encMsg 1) 1 (decPL decMsg (V.ptr [encL (encMsg 1) 1 l] 0 1)))) ∧
   (pr39_40 (decL decI (encL encI 1 refs))
   (decPL decMsg (V.ptr [encL (encMsg 1) 1 l] 0 1))))) ∧
   ((((List.any (decL decI (encL encI 1 refs)) fun (r : Int) ↦
   decide ¬isAt (decPL decMsg (V.ptr [encL (encMsg 1) 1 l] 0 1)) r (4 : Int)) =
   true) →
   ((VLe (V.agg [V.int IntKind.i64 (4 : Int), V.osl 0 0])
   (V.agg
   [V.int IntKind.i64 (IntsResult.code (ro14o f l refs)),
   V.osl 0 (List.length (IntsResult.list (ro14o f l refs)))])) ∧
   ((BLe (Blk.arr 1 0 (fun (x : Nat) ↦ V.undef) 100)
   (Blk.arr 1 (List.length (IntsResult.list (ro14o f l refs))) (gL encI (IntsResult.list (ro14o f l refs)))
   100)) ∧
   (True)))) ∧
   (((List.any (decL decI (encL encI 1 refs)) fun (r : Int) ↦
   decide ¬isAt (decPL decMsg (V.ptr [encL (encMsg 1) 1 l] 0 1)) r (4 : Int)) =
   false) →
   (((VLe (encL (encMsg 1) 1 l)
   (encL (encMsg 1) 1 (decL decMsg (encL (encMsg 1) 1 l)))) ∧
   ((VLe (encL encI 1 refs) (encL encI 1 (decL decI (encL encI 1 refs)))) ∧
   (pr42o (decL decMsg (encL (encMsg 1) 1 l)) (decL decI (encL encI 1 refs))))) ∧
   ((VLe
   (V.agg
   [V.int IntKind.i64 (0 : Int),
   V.osl 0
   (List.length
   (ro42o (decL decMsg (encL (encMsg 1) 1 l)) (decL decI (encL encI 1 refs))))])
   (V.agg
   [V.int IntKind.i64 (IntsResult.code (ro14o f l refs)),
   V.osl 0 (List.length (IntsResult.list (ro14o f l refs)))])) ∧
   ((BLe
   (Blk.arr 1
   (List.length (ro42o (decL decMsg (encL (encMsg 1) 1 l)) (decL decI (encL encI 1 refs))))
   (gL encI (ro42o (decL decMsg (encL (encMsg 1) 1 l)) (decL decI (encL encI 1 refs))))
   100)
   (Blk.arr 1 (List.length (IntsResult.list (ro14o f l refs))) (gL encI (IntsResult.list (ro14o f l refs)))
   100)) ∧
   (True))))))))))))) := by
    obtain ⟨hl, hb⟩ := hpre
    simp only [decL_Msg, decL_ints, decPL_Msg, ro14o, ro42o]
    refine ⟨⟨VLe.refl _, hl⟩, fun h => ?_, fun h => ?_⟩
    · have e : pickOfF f l refs = ⟨ledgerFault f l, []⟩ := if_pos (by simpa using h)
      rw [e]
      exact ⟨VLe.refl _, ble_nil _, trivial⟩
    have h0 : ledgerFault f l = 0 := by simpa using h
    have hr := right_of h0
    have hf : 1 ≤ f ∧ f ≤ 2 := by have := hr.okf; unfold okF at this; omega
    have e0 : pickOfF f l refs = if 3 * f + 1 < (refs.length : Int) then ⟨2, []⟩ else if ¬ pickOk l refs then ⟨4, []⟩ else ⟨0, pickL l refs⟩ := if_neg (not_not_intro h0)
    refine ⟨hr.okf, fun h => ?_, fun h => ?_⟩
    · have e : pickOfF f l refs = ⟨2, []⟩ := by rw [e0, if_pos (of_decide_eq_true h)]
      rw [e]
      exact ⟨VLe.refl _, ble_nil _, trivial⟩
    have h1 := of_decide_eq_false h
    rw [any_notOk]
    refine ⟨⟨VLe.refl _, VLe.refl _, by show refs.length ≤ maxLen; unfold maxLen; omega, hr.len⟩, fun h => ?_, fun h => ?_⟩
    · have e : pickOfF f l refs = ⟨4, []⟩ := by rw [e0, if_neg h1, if_pos (of_decide_eq_true h)]
      rw [e]
      exact ⟨VLe.refl _, ble_nil _, trivial⟩
    · have hp := Classical.not_not.1 (of_decide_eq_false h)
      have e : pickOfF f l refs = ⟨0, pickL l refs⟩ := by rw [e0, if_neg h1, if_neg (not_not_intro hp)]
      rw [e]
      exact ⟨⟨VLe.refl _, VLe.refl _, ⟨f, hr⟩, hl, hp, by omega⟩, VLe.refl _, BLe.refl _, trivial⟩
  exact Eq.mp (by kernel_rfl) key
theorem so14o : Sound Tryz.prog 14 sp14o := by
  refine sound_of_bodyO hmix (tpl := [(1, 1)]) Tryz.func14 rfl (by kernel_rfl) fun args bin ob r bout hDe hob => ?_
  unfold sp14o at hDe
  split at hDe
  · rename_i a0 a1 a2
    cases hDe
    exact ⟨Nat.le_of_ble_eq_true (by kernel_rfl), cx14o a0 ((decL decMsg) a1) ((decL decI) a2), Eq.mp (by kernel_rfl) htt, Eq.mp (by kernel_rfl) da14o, Eq.mp (by kernel_rfl) (noM_sound (P := Tryz.prog)), by kernel_rfl, [.int .i64 (a0), encL (encMsg 1) 1 (((decL decMsg) a1)), encL encI 1 (((decL decI) a2))], [], args_of_vles (⟨VLe.refl _, hob.1, hob.2.1, trivial⟩), trivial, Eq.mp (by kernel_rfl) (bd14o a0 ((decL decMsg) a1) ((decL decI) a2) (hob.2.2))⟩
  · cases hDe

end Go.Av
