/- How many are enough, who is the primary: as they are asked. -/
import Derived.Test.YtakcaanpnmkccaaGreatE11
namespace Go.Av
open Go.Proofs
set_option maxRecDepth 100000
set_option linter.unusedVariables false
set_option linter.unusedSimpArgs false

def needOfF (f : Int) : IntResult := if okF f then ⟨0, 2 * f + 1⟩ else ⟨3, 0⟩
noncomputable def primaryOfF (f view : Int) : IntResult := if okF f ∧ inR view 0 20 then ⟨0, primaryF f view⟩ else ⟨3, 0⟩

/-! ### impl.NeedOf -/
def pr12 (f : Int) : Prop := True
noncomputable def rs12 (f : Int) : V := encIntResult 0 (needOfF f)
noncomputable def sp12 : FSpec := fun args bin => match args, bin with
  | [.int .i64 a0], [] => some (pr12 a0, rs12 a0, [])
  | _, _ => none
noncomputable def D12 : Nat → Option (Bool × FSpec) := lk [(36, (false, sp36))]
theorem da12 : SoundAll Tryz.prog D12 := soundAll_cons so36 (soundAll_nil)
noncomputable def cx12 (f : Int) : Cx := ⟨tt, D12, Tryz.f12.ntmps, [0, 2, 5], [], [], fun _ => none, [], noM, []⟩
theorem bd12 (f : Int) (hpre : pr12 f) : bodyP (cx12 f) Tryz.f12 0 [.int .i64 (f)] (fun rr => VLe rr (rs12 f)) := by
  have key : ((pr36 f) ∧ ((((!decide (okF f)) = true) → (VLe (V.agg [vi (3 : Int), vi (0 : Int)]) (encIntResult 1 (needOfF f)))) ∧ (((!decide (okF f)) = false) → ((inK IntKind.i64 ((2 : Int) * f)) ∧ ((inK IntKind.i64 ((2 : Int) * f + (1 : Int))) ∧ (VLe (V.agg [vi (0 : Int), vi ((2 : Int) * f + (1 : Int))]) (encIntResult 1 (needOfF f)))))))) := by
    delta vi
    unfold needOfF
    refine ⟨trivial, fun h => ?_, fun h => ?_⟩
    · have hf : ¬ okF f := by simpa using h
      rw [if_neg hf]
      exact VLe.refl _
    · have hf : okF f := by simpa using h
      rw [if_pos hf]
      unfold okF at hf
      exact ⟨inK64 (by omega), inK64 (by omega), VLe.refl _⟩
  exact Eq.mp (by kernel_rfl) key
theorem so12 : Sound Tryz.prog 12 sp12 := by
  refine sound_of_body hmix (pol := 0) Tryz.func12 rfl (by kernel_rfl) fun args bin ob r bout hDe hob => ?_
  unfold sp12 at hDe
  split at hDe
  · rename_i a0
    cases hDe
    exact ⟨rfl, rfl, Nat.le_of_ble_eq_true (by kernel_rfl), cx12 a0, Eq.mp (by kernel_rfl) htt, Eq.mp (by kernel_rfl) da12, Eq.mp (by kernel_rfl) (noM_sound (P := Tryz.prog)), by kernel_rfl, [.int .i64 (a0)], args_of_vles (⟨VLe.refl _, trivial⟩), Eq.mp (by kernel_rfl) (bd12 a0 (hob))⟩
  · cases hDe

end Go.Av
