/- What all laws on draws share: how long the bytes may be, how many may be bad. -/
import Derived.Test.YtakcaanpnmkccaaGreatR1
namespace Go.Av
open Go.Proofs
set_option maxRecDepth 100000
set_option maxHeartbeats 2000000
set_option linter.unusedVariables false
set_option linter.unusedSimpArgs false

noncomputable def drawF (xs : List Int) (a : Int) : Int := pickF xs a [1, 1, 1, 1, 2, 0, 1, 1, 3]

/-! ### laws.lwBig -/
def pr5 (code : List Int) : Prop := True
noncomputable def rs5 (code : List Int) : V := .bool (decide (1048576 < code.length))
noncomputable def sp5 : FSpec := fun args bin => match args, bin with
  | [a0], [] => some (VLe a0 (encL encY 1 (((decL decY) a0))) ∧ pr5 ((decL decY) a0), rs5 ((decL decY) a0), [])
  | _, _ => none
noncomputable def D5 : Nat → Option (Bool × FSpec) := lk []
theorem da5 : SoundAll Tryz.prog D5 := soundAll_nil
noncomputable def cx5 (code : List Int) : Cx := ⟨tt, D5, Tryz.f5.ntmps, [0, 2], [], [], fun _ => none, [], noM, []⟩
theorem bd5 (code : List Int) (hpre : pr5 code) : bodyP (cx5 code) Tryz.f5 0 [encL encY 1 (code)] (fun rr => VLe rr (rs5 code)) := by
  have key : (VLe (V.bool (decide ((↑(List.length code) : Int) > (1048576 : Int)))) (V.bool (decide (1048576 < List.length code)))) := by
    refine vle_bool ?_
    rw [Bool.eq_iff_iff]
    simp
    try omega
  exact Eq.mp (by kernel_rfl) key
theorem so5 : Sound Tryz.prog 5 sp5 := by
  refine sound_of_body hmix (pol := 0) Tryz.func5 rfl (by kernel_rfl) fun args bin ob r bout hDe hob => ?_
  unfold sp5 at hDe
  split at hDe
  · rename_i a0
    cases hDe
    exact ⟨rfl, rfl, Nat.le_of_ble_eq_true (by kernel_rfl), cx5 ((decL decY) a0), Eq.mp (by kernel_rfl) htt, Eq.mp (by kernel_rfl) da5, Eq.mp (by kernel_rfl) (noM_sound (P := Tryz.prog)), by kernel_rfl, [encL encY 1 (((decL decY) a0))], args_of_vles (⟨hob.1, trivial⟩), Eq.mp (by kernel_rfl) (bd5 ((decL decY) a0) (hob.2))⟩
  · cases hDe

end Go.Av
