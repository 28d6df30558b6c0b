/- Who is a client? -/
import Derived.Test.YtgefdljcommhhaaGreatDoorS2
namespace Go.Av
open Go.Proofs
set_option maxRecDepth 100000
set_option linter.unusedVariables false
set_option linter.unusedSimpArgs false

theorem vle_take {α : Type} [Inhabited α] {enc : α → V} {l : List α} {i t : Nat} (h : i ≤ l.length) : VLe (.sl i (gL enc l) t) (encL enc t (l.take i)) :=
  vle_encL_eq (by rw [List.length_take]; omega) (fun k hk => by
    have hk2 : k < l.length := by rw [List.length_take] at hk; omega
    simp [gL, hk2]) (Or.inl rfl)
theorem mem_take {α : Type} [Inhabited α] {l : List α} {i : Nat} {x : α} : x ∈ l.take i ↔ ∃ j, j < i ∧ j < l.length ∧ l.getD j default = x := by
  constructor
  · intro h
    obtain ⟨j, hj, rfl⟩ := List.getElem_of_mem h
    have h2 : j < i ∧ j < l.length := by rw [List.length_take] at hj; omega
    exact ⟨j, h2.1, h2.2, by simp [h2.2]⟩
  · rintro ⟨j, h1, h2, rfl⟩
    have h3 : j < (l.take i).length := by rw [List.length_take]; omega
    have := List.getElem_mem h3
    simpa [h2] using this

/-! ### spec.l4Id -/
def pr64 (n : Int) : Prop := True
noncomputable def rs64 (n : Int) : V := .bool (decide (inR n 1 9))
noncomputable def sp64 : FSpec := fun args bin => match args, bin with
  | [.int .i64 a0], [] => some (pr64 a0, rs64 a0, [])
  | _, _ => none
noncomputable def D64 : Nat → Option (Bool × FSpec) := lk [(42, (false, sp42))]
theorem da64 : SoundAll Tryz.prog D64 := soundAll_cons so42 (soundAll_nil)
noncomputable def cx64 (n : Int) : Cx := ⟨tt, D64, Tryz.f64.ntmps, [0, 2], [], [], fun _ => none, [], noM, []⟩
theorem bd64 (n : Int) (hpre : pr64 n) : bodyP (cx64 n) Tryz.f64 0 [.int .i64 (n)] (fun rr => VLe rr (rs64 n)) := by
  have key : ((pr42 n (1 : Int) (9 : Int)) ∧ (VLe (V.bool (decide (inR n (1 : Int) (9 : Int)))) (V.bool (decide (inR n (1 : Int) (9 : Int)))))) := by
    exact ⟨trivial, VLe.refl _⟩
  exact Eq.mp (by kernel_rfl) key
theorem so64 : Sound Tryz.prog 64 sp64 := by
  refine sound_of_body hmix (pol := 0) Tryz.func64 rfl (by kernel_rfl) fun args bin ob r bout hDe hob => ?_
  unfold sp64 at hDe
  split at hDe
  · rename_i a0
    cases hDe
    exact ⟨rfl, rfl, Nat.le_of_ble_eq_true (by kernel_rfl), cx64 a0, Eq.mp (by kernel_rfl) htt, Eq.mp (by kernel_rfl) da64, Eq.mp (by kernel_rfl) (noM_sound (P := Tryz.prog)), by kernel_rfl, [.int .i64 (a0)], args_of_vles (⟨VLe.refl _, trivial⟩), Eq.mp (by kernel_rfl) (bd64 a0 (hob))⟩
  · cases hDe

/-! ### impl.isClient -/
def pr51 (n : Int) : Prop := True
noncomputable def rs51 (n : Int) : V := .bool (decide (inR n 1 9))
noncomputable def sp51 : FSpec := fun args bin => match args, bin with
  | [.int .i64 a0], [] => some (pr51 a0, rs51 a0, [])
  | _, _ => none
noncomputable def D51 : Nat → Option (Bool × FSpec) := lk [(22, (false, sp22))]
theorem da51 : SoundAll Tryz.prog D51 := soundAll_cons so22 (soundAll_nil)
noncomputable def cx51 (n : Int) : Cx := ⟨tt, D51, Tryz.f51.ntmps, [0, 2], [], [], fun _ => none, [], noM, []⟩
theorem bd51 (n : Int) (hpre : pr51 n) : bodyP (cx51 n) Tryz.f51 0 [.int .i64 (n)] (fun rr => VLe rr (rs51 n)) := by
  have key : ((pr22 n (1 : Int) (9 : Int)) ∧ (VLe (V.bool (decide (inR n (1 : Int) (9 : Int)))) (V.bool (decide (inR n (1 : Int) (9 : Int)))))) := by
    exact ⟨trivial, VLe.refl _⟩
  exact Eq.mp (by kernel_rfl) key
theorem so51 : Sound Tryz.prog 51 sp51 := by
  refine sound_of_body hmix (pol := 0) Tryz.func51 rfl (by kernel_rfl) fun args bin ob r bout hDe hob => ?_
  unfold sp51 at hDe
  split at hDe
  · rename_i a0
    cases hDe
    exact ⟨rfl, rfl, Nat.le_of_ble_eq_true (by kernel_rfl), cx51 a0, Eq.mp (by kernel_rfl) htt, Eq.mp (by kernel_rfl) da51, Eq.mp (by kernel_rfl) (noM_sound (P := Tryz.prog)), by kernel_rfl, [.int .i64 (a0)], args_of_vles (⟨VLe.refl _, trivial⟩), Eq.mp (by kernel_rfl) (bd51 a0 (hob))⟩
  · cases hDe

end Go.Av
