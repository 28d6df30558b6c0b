/- Who is a client? -/
import Derived.Test.YtendmninanhmiaaDoorS2
namespace Go.Av
open Go.Proofs
set_option maxRecDepth 100000
set_option linter.unusedVariables false
set_option linter.unusedSimpArgs false

theorem vle_take {α : Type} [Inhabited α] {enc : α → V} {l : List α} {i t : Nat} (h : i ≤ l.length) : VLe (.sl i (gL enc l) t) (encL enc t (l.take i)) :=
  vle_encL_eq (by rw [List.length_take]; omega) (fun k hk => by
    have hk2 : k < l.length := by rw [List.length_take] at hk; omega
    simp [gL, hk2]) (Or.inl rfl)
theorem mem_take {α : Type} [Inhabited α] {l : List α} {i : Nat} {x : α} : x ∈ l.take i ↔ ∃ j, j < i ∧ j < l.length ∧ l.getD j default = x := by
  constructor
  · intro h
    obtain ⟨j, hj, rfl⟩ := List.getElem_of_mem h
    have h2 : j < i ∧ j < l.length := by rw [List.length_take] at hj; omega
    exact ⟨j, h2.1, h2.2, by simp [h2.2]⟩
  · rintro ⟨j, h1, h2, rfl⟩
    have h3 : j < (l.take i).length := by rw [List.length_take]; omega
    have := List.getElem_mem h3
    simpa [h2] using this

/-! ### spec.l4Id -/
def pr52 (n : Int) : Prop := True
noncomputable def rs52 (n : Int) : V := .bool (decide (inR n 1 9))
noncomputable def sp52 : FSpec := fun args bin => match args, bin with
  | [.int .i64 a0], [] => some (pr52 a0, rs52 a0, [])
  | _, _ => none
noncomputable def D52 : Nat → Option (Bool × FSpec) := lk [(54, (false, sp54))]
theorem da52 : SoundAll Tryd.prog D52 := soundAll_cons so54 (soundAll_nil)
noncomputable def cx52 (n : Int) : Cx := ⟨tt, D52, Tryd.f52.ntmps, [0, 2], [], [], fun _ => none, [], noM, []⟩
theorem bd52 (n : Int) (hpre : pr52 n) : bodyP (cx52 n) Tryd.f52 0 [.int .i64 (n)] (fun rr => VLe rr (rs52 n)) := by
  have key :
      ((pr54 n (1 : Int) (9 : Int)) ∧
   (VLe (V.bool (decide (inR n (1 : Int) (9 : Int)))) (V.bool (decide (inR n (1 : Int) (9 : Int)))))) := by
    exact ⟨trivial, VLe.refl _⟩
  exact Eq.mp (by kernel_rfl) key
theorem so52 : Sound Tryd.prog 52 sp52 := by
  refine sound_of_body hmix (pol := 0) Tryd.func52 rfl (by kernel_rfl) fun args bin ob r bout hDe hob => ?_
  unfold sp52 at hDe
  split at hDe
  · rename_i a0
    cases hDe
    exact ⟨rfl, rfl, Nat.le_of_ble_eq_true (by kernel_rfl), cx52 a0, Eq.mp (by kernel_rfl) htt, Eq.mp (by kernel_rfl) da52, Eq.mp (by kernel_rfl) (noM_sound (P := Tryd.prog)), by kernel_rfl, [.int .i64 (a0)], args_of_vles (⟨VLe.refl _, trivial⟩), Eq.mp (by kernel_rfl) (bd52 a0 (hob))⟩
  · cases hDe

/-! ### impl.isClient -/
def pr83 (n : Int) : Prop := True
noncomputable def rs83 (n : Int) : V := .bool (decide (inR n 1 9))
noncomputable def sp83 : FSpec := fun args bin => match args, bin with
  | [.int .i64 a0], [] => some (pr83 a0, rs83 a0, [])
  | _, _ => none
noncomputable def D83 : Nat → Option (Bool × FSpec) := lk [(56, (false, sp56))]
theorem da83 : SoundAll Tryd.prog D83 := soundAll_cons so56 (soundAll_nil)
noncomputable def cx83 (n : Int) : Cx := ⟨tt, D83, Tryd.f83.ntmps, [0, 2], [], [], fun _ => none, [], noM, []⟩
theorem bd83 (n : Int) (hpre : pr83 n) : bodyP (cx83 n) Tryd.f83 0 [.int .i64 (n)] (fun rr => VLe rr (rs83 n)) := by
  have key :
      ((pr56 n (1 : Int) (9 : Int)) ∧
   (VLe (V.bool (decide (inR n (1 : Int) (9 : Int)))) (V.bool (decide (inR n (1 : Int) (9 : Int)))))) := by
    exact ⟨trivial, VLe.refl _⟩
  exact Eq.mp (by kernel_rfl) key
theorem so83 : Sound Tryd.prog 83 sp83 := by
  refine sound_of_body hmix (pol := 0) Tryd.func83 rfl (by kernel_rfl) fun args bin ob r bout hDe hob => ?_
  unfold sp83 at hDe
  split at hDe
  · rename_i a0
    cases hDe
    exact ⟨rfl, rfl, Nat.le_of_ble_eq_true (by kernel_rfl), cx83 a0, Eq.mp (by kernel_rfl) htt, Eq.mp (by kernel_rfl) da83, Eq.mp (by kernel_rfl) (noM_sound (P := Tryd.prog)), by kernel_rfl, [.int .i64 (a0)], args_of_vles (⟨VLe.refl _, trivial⟩), Eq.mp (by kernel_rfl) (bd83 a0 (hob))⟩
  · cases hDe

end Go.Av
