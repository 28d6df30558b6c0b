/- slices.Index, slices.Contains over whole numbers. -/
import Derived.Test.YtakcaanpnmkccaaGreatE1
import Derived.Test.YtakcaanpnmkccaaGreatP8
namespace Go.Av
open Go.Proofs
set_option maxRecDepth 100000
set_option linter.unusedVariables false
set_option linter.unusedSimpArgs false


/-! ### slices.Index(()int64,int64) -/
def pr88 (xs : List Int) (v : Int) : Prop := xs.length ≤ maxLen
noncomputable def rs88 (xs : List Int) (v : Int) : V := .int .i64 (idxF (fun x => decide (v = x)) xs)
noncomputable def sp88 : FSpec := fun args bin => match args, bin with
  | [a0, .int .i64 a1], [] => some (VLe a0 (encL encI 1 (((decL decI) a0))) ∧ pr88 ((decL decI) a0) a1, rs88 ((decL decI) a0) a1, [])
  | _, _ => none
noncomputable def in88_2 (xs : List Int) (v : Int) : LoopInv :=
  ⟨Nat, fun i => ⟨[(0, encL encI 1 xs), (1, .int .i64 v), (7, .int .i64 xs.length), (8, .int .i64 i)], []⟩,
    fun i => i ≤ xs.length ∧ ∀ j, j < i → (fun x => decide (v = x)) (xs.getD j default) = false, fun i => xs.length - i⟩
noncomputable def iv88 (xs : List Int) (v : Int) : Nat → Option LoopInv := fun rg_ => match rg_ with
  | 2 => some (in88_2 xs v)
  | _ => none
noncomputable def D88 : Nat → Option (Bool × FSpec) := lk []
theorem da88 : SoundAll Tryz.prog D88 := soundAll_nil
noncomputable def cx88 (xs : List Int) (v : Int) : Cx := ⟨tt, D88, Tryz.f88.ntmps, [0, 1, 4, 5, 7, 8, 9, 16], [(2, ⟨[(0, none), (1, none), (7, none), (8, none)], []⟩)], [], iv88 xs v, [], noM, []⟩
theorem bd88 (xs : List Int) (v : Int) (hpre : pr88 xs v) : bodyP (cx88 xs v) Tryz.f88 0 [encL encI 1 (xs), .int .i64 (v)] (fun rr => VLe rr (rs88 xs v)) := by
  have key : ((∃ x : Nat, ((SLe (AS.mk [(0, encL encI 1 xs), (1, vi v), (7, vi (↑(List.length xs) : Int)), (8, vi (0 : Int))] []) (AS.mk [(0, encL encI 1 xs), (1, vi v), (7, vi (↑(List.length xs) : Int)), (8, vi (↑x : Int))] [])) ∧ ((x ≤ List.length xs) ∧ (∀ j : Nat, ((j < x) → (decide (v = List.getD xs j default) = false)))))) ∧ (∀ x : Nat, (((x ≤ List.length xs) ∧ (∀ j : Nat, ((j < x) → (decide (v = List.getD xs j default) = false)))) → (((decide ((↑x : Int) < (↑(List.length xs) : Int)) = true) → ((((0 : Int) ≤ (↑x : Int)) ∧ ((↑x : Int) < (↑(List.length xs) : Int))) ∧ ((((v == List.getD xs (Int.toNat (↑x : Int)) default) = true) → (VLe (vi (↑x : Int)) (vi (idxF (fun (x : Int) ↦ decide (v = x)) xs)))) ∧ (((v == List.getD xs (Int.toNat (↑x : Int)) default) = false) → ((inK IntKind.i64 ((↑x : Int) + (1 : Int))) ∧ (∃ y : Nat, ((SLe (AS.mk [(0, encL encI 1 xs), (1, vi v), (7, vi (↑(List.length xs) : Int)), (8, vi ((↑x : Int) + (1 : Int)))] []) (AS.mk [(0, encL encI 1 xs), (1, vi v), (7, vi (↑(List.length xs) : Int)), (8, vi (↑y : Int))] [])) ∧ (((y ≤ List.length xs) ∧ (∀ j : Nat, ((j < y) → (decide (v = List.getD xs j default) = false)))) ∧ (List.length xs - y < List.length xs - x))))))))) ∧ ((decide ((↑x : Int) < (↑(List.length xs) : Int)) = false) → (VLe (vi (-1 : Int)) (vi (idxF (fun (x : Int) ↦ decide (v = x)) xs)))))))) := by
    delta vi
    unfold pr88 maxLen at hpre
    refine ⟨⟨0, SLe.refl _, by omega, fun j hj => absurd hj (Nat.not_lt_zero j)⟩, ?_⟩
    rintro i ⟨hi, hj⟩
    refine ⟨fun h => ?_, fun h => ?_⟩
    · have hlt : i < xs.length := by simpa using h
      simp only [Int.toNat_natCast]
      refine ⟨⟨by omega, by omega⟩, fun h2 => vle_int (idxF_some hlt hj (by simpa using h2)).symm, fun h2 => ⟨inK64 (by omega), i + 1, SLe.refl _, ⟨by omega, fun j h3 => ?_⟩, by omega⟩⟩
      rcases Nat.lt_or_ge j i with h4 | h4
      · exact hj j h4
      · have : j = i := by omega
        subst this
        simpa using h2
    · have hge : i = xs.length := by simp at h; omega
      exact vle_int (idxF_none fun j h3 => hj j (by omega)).symm
  exact Eq.mp (by kernel_rfl) key
theorem so88 : Sound Tryz.prog 88 sp88 := by
  refine sound_of_body hmix (pol := 0) Tryz.func88 rfl (by kernel_rfl) fun args bin ob r bout hDe hob => ?_
  unfold sp88 at hDe
  split at hDe
  · rename_i a0 a1
    cases hDe
    exact ⟨rfl, rfl, Nat.le_of_ble_eq_true (by kernel_rfl), cx88 ((decL decI) a0) a1, Eq.mp (by kernel_rfl) htt, Eq.mp (by kernel_rfl) da88, Eq.mp (by kernel_rfl) (noM_sound (P := Tryz.prog)), by kernel_rfl, [encL encI 1 (((decL decI) a0)), .int .i64 (a1)], args_of_vles (⟨hob.1, VLe.refl _, trivial⟩), Eq.mp (by kernel_rfl) (bd88 ((decL decI) a0) a1 (hob.2))⟩
  · cases hDe

/-! ### slices.Contains(()int64,int64) -/
def pr63 (xs : List Int) (v : Int) : Prop := xs.length ≤ maxLen
noncomputable def rs63 (xs : List Int) (v : Int) : V := .bool (decide (v ∈ xs))
noncomputable def sp63 : FSpec := fun args bin => match args, bin with
  | [a0, .int .i64 a1], [] => some (VLe a0 (encL encI 1 (((decL decI) a0))) ∧ pr63 ((decL decI) a0) a1, rs63 ((decL decI) a0) a1, [])
  | _, _ => none
noncomputable def D63 : Nat → Option (Bool × FSpec) := lk [(88, (false, sp88))]
theorem da63 : SoundAll Tryz.prog D63 := soundAll_cons so88 (soundAll_nil)
noncomputable def cx63 (xs : List Int) (v : Int) : Cx := ⟨tt, D63, Tryz.f63.ntmps, [0, 1, 4], [], [], fun _ => none, [], noM, []⟩
theorem bd63 (xs : List Int) (v : Int) (hpre : pr63 xs v) : bodyP (cx63 xs v) Tryz.f63 0 [encL encI 1 (xs), .int .i64 (v)] (fun rr => VLe rr (rs63 xs v)) := by
  have key : (((VLe (encL encI 1 xs) (encL encI 1 (decL decI (encL encI 1 xs)))) ∧ (pr88 (decL decI (encL encI 1 xs)) v)) ∧ (VLe (V.bool (decide (idxF (fun (x : Int) ↦ decide (v = x)) (decL decI (encL encI 1 xs)) ≥ (0 : Int)))) (V.bool (decide (v ∈ xs))))) := by
    simp only [decL_ints]
    refine ⟨⟨VLe.refl _, hpre⟩, vle_bool ?_⟩
    refine (idxF_nonneg _ _).trans ?_
    rw [Bool.eq_iff_iff]
    simp
  exact Eq.mp (by kernel_rfl) key
theorem so63 : Sound Tryz.prog 63 sp63 := by
  refine sound_of_body hmix (pol := 0) Tryz.func63 rfl (by kernel_rfl) fun args bin ob r bout hDe hob => ?_
  unfold sp63 at hDe
  split at hDe
  · rename_i a0 a1
    cases hDe
    exact ⟨rfl, rfl, Nat.le_of_ble_eq_true (by kernel_rfl), cx63 ((decL decI) a0) a1, Eq.mp (by kernel_rfl) htt, Eq.mp (by kernel_rfl) da63, Eq.mp (by kernel_rfl) (noM_sound (P := Tryz.prog)), by kernel_rfl, [encL encI 1 (((decL decI) a0)), .int .i64 (a1)], args_of_vles (⟨hob.1, VLe.refl _, trivial⟩), Eq.mp (by kernel_rfl) (bd63 ((decL decI) a0) a1 (hob.2))⟩
  · cases hDe

end Go.Av
