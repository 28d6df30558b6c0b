/- What all laws on draws share: how long the bytes may be, how many may be bad. -/
import Derived.Test.YtgefdljcommhhaaGreatDoorR1
namespace Go.Av
open Go.Proofs
set_option maxRecDepth 100000
set_option maxHeartbeats 2000000
set_option linter.unusedVariables false
set_option linter.unusedSimpArgs false

noncomputable def drawF (xs : List Int) (a : Int) : Int := pickF xs a [1, 1, 1, 1, 2, 0, 1, 1, 3]

/-! ### laws.lwBig -/
def pr4 (code : List Int) : Prop := True
noncomputable def rs4 (code : List Int) : V := .bool (decide (1048576 < code.length))
noncomputable def sp4 : FSpec := fun args bin => match args, bin with
  | [a0], [] => some (VLe a0 (encL encY 1 (((decL decY) a0))) ∧ pr4 ((decL decY) a0), rs4 ((decL decY) a0), [])
  | _, _ => none
noncomputable def D4 : Nat → Option (Bool × FSpec) := lk []
theorem da4 : SoundAll Tryz.prog D4 := soundAll_nil
noncomputable def cx4 (code : List Int) : Cx := ⟨tt, D4, Tryz.f4.ntmps, [0, 2], [], [], fun _ => none, [], noM, []⟩
theorem bd4 (code : List Int) (hpre : pr4 code) : bodyP (cx4 code) Tryz.f4 0 [encL encY 1 (code)] (fun rr => VLe rr (rs4 code)) := by
  have key : (VLe (V.bool (decide ((↑(List.length code) : Int) > (1048576 : Int)))) (V.bool (decide (1048576 < List.length code)))) := by
    refine vle_bool ?_
    rw [Bool.eq_iff_iff]
    simp
    try omega
  exact Eq.mp (by kernel_rfl) key
theorem so4 : Sound Tryz.prog 4 sp4 := by
  refine sound_of_body hmix (pol := 0) Tryz.func4 rfl (by kernel_rfl) fun args bin ob r bout hDe hob => ?_
  unfold sp4 at hDe
  split at hDe
  · rename_i a0
    cases hDe
    exact ⟨rfl, rfl, Nat.le_of_ble_eq_true (by kernel_rfl), cx4 ((decL decY) a0), Eq.mp (by kernel_rfl) htt, Eq.mp (by kernel_rfl) da4, Eq.mp (by kernel_rfl) (noM_sound (P := Tryz.prog)), by kernel_rfl, [encL encY 1 (((decL decY) a0))], args_of_vles (⟨hob.1, trivial⟩), Eq.mp (by kernel_rfl) (bd4 ((decL decY) a0) (hob.2))⟩
  · cases hDe

end Go.Av
