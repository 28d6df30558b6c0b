/- New views that are right. -/
import Derived.Test.YtakcaanpnmkccaaE9
import Derived.Test.YtakcaanpnmkccaaI1
import Derived.Test.YtakcaanpnmkccaaF1
namespace Go.Av
open Go.Proofs
set_option maxRecDepth 100000
set_option linter.unusedVariables false
set_option linter.unusedSimpArgs false


/-! ### spec.l9Primary -/
def pr42 (f : Int) (view : Int) : Prop := okF f ∧ inR view 0 20
noncomputable def rs42 (f : Int) (view : Int) : V := .int .i64 (primaryF f view)
noncomputable def sp42 : FSpec := fun args bin => match args, bin with
  | [.int .i64 a0, .int .i64 a1], [] => some (pr42 a0 a1, rs42 a0 a1, [])
  | _, _ => none
noncomputable def D42 : Nat → Option (Bool × FSpec) := lk []
theorem da42 : SoundAll Try.prog D42 := soundAll_nil
noncomputable def cx42 (f : Int) (view : Int) : Cx := ⟨tt, D42, Try.f42.ntmps, [0, 1, 4], [], [], fun _ => none, [], noM, []⟩
theorem bd42 (f : Int) (view : Int) (hpre : pr42 f view) : bodyP (cx42 f view) Try.f42 0 [.int .i64 (f), .int .i64 (view)] (fun rr => VLe rr (rs42 f view)) := by
  have key :
      ((inK IntKind.i64 ((3 : Int) * f)) ∧
   ((inK IntKind.i64 ((3 : Int) * f + (1 : Int))) ∧
   (((3 : Int) * f + (1 : Int) ≠ (0 : Int)) ∧
   ((inK IntKind.i64 ((1 : Int) + Int.tmod view ((3 : Int) * f + (1 : Int)))) ∧
   (VLe (V.int IntKind.i64 ((1 : Int) + Int.tmod view ((3 : Int) * f + (1 : Int)))) (V.int IntKind.i64 (primaryF f view))))))) := by
    obtain ⟨hf, hv⟩ := hpre
    have hf' : 1 ≤ f ∧ f ≤ 2 := by unfold okF at hf; omega
    unfold inR at hv
    have h1 : 0 ≤ view.tmod (3 * f + 1) := Int.tmod_nonneg _ hv.1
    have h2 : view.tmod (3 * f + 1) < 3 * f + 1 := Int.tmod_lt_of_pos _ (by omega)
    exact ⟨inK64 (by omega), inK64 (by omega), by omega, inK64 (by omega), VLe.refl _⟩
  exact Eq.mp (by kernel_rfl) key
theorem so42 : Sound Try.prog 42 sp42 := by
  refine sound_of_body hmix (pol := 0) Try.func42 rfl (by kernel_rfl) fun args bin ob r bout hDe hob => ?_
  unfold sp42 at hDe
  split at hDe
  · rename_i a0 a1
    cases hDe
    exact ⟨rfl, rfl, Nat.le_of_ble_eq_true (by kernel_rfl), cx42 a0 a1, Eq.mp (by kernel_rfl) htt, Eq.mp (by kernel_rfl) da42, Eq.mp (by kernel_rfl) (noM_sound (P := Try.prog)), by kernel_rfl, [.int .i64 (a0), .int .i64 (a1)], args_of_vles (⟨VLe.refl _, VLe.refl _, trivial⟩), Eq.mp (by kernel_rfl) (bd42 a0 a1 (hob))⟩
  · cases hDe

/-! ### impl.primary -/
def pr39 (f : Int) (view : Int) : Prop := okF f ∧ inR view 0 20
noncomputable def rs39 (f : Int) (view : Int) : V := .int .i64 (primaryF f view)
noncomputable def sp39 : FSpec := fun args bin => match args, bin with
  | [.int .i64 a0, .int .i64 a1], [] => some (pr39 a0 a1, rs39 a0 a1, [])
  | _, _ => none
noncomputable def D39 : Nat → Option (Bool × FSpec) := lk [(49, (false, sp49))]
theorem da39 : SoundAll Try.prog D39 := soundAll_cons so49 (soundAll_nil)
noncomputable def cx39 (f : Int) (view : Int) : Cx := ⟨tt, D39, Try.f39.ntmps, [0, 1, 4], [], [], fun _ => none, [], noM, []⟩
theorem bd39 (f : Int) (view : Int) (hpre : pr39 f view) : bodyP (cx39 f view) Try.f39 0 [.int .i64 (f), .int .i64 (view)] (fun rr => VLe rr (rs39 f view)) := by
  have key :
      ((pr49 f) ∧
   (((3 : Int) * f + (1 : Int) ≠ (0 : Int)) ∧
   ((inK IntKind.i64 ((1 : Int) + Int.tmod view ((3 : Int) * f + (1 : Int)))) ∧
   (VLe (V.int IntKind.i64 ((1 : Int) + Int.tmod view ((3 : Int) * f + (1 : Int)))) (V.int IntKind.i64 (primaryF f view)))))) := by
    obtain ⟨hf, hv⟩ := hpre
    have hf' : 1 ≤ f ∧ f ≤ 2 := by unfold okF at hf; omega
    unfold inR at hv
    have h1 : 0 ≤ view.tmod (3 * f + 1) := Int.tmod_nonneg _ hv.1
    have h2 : view.tmod (3 * f + 1) < 3 * f + 1 := Int.tmod_lt_of_pos _ (by omega)
    exact ⟨hf, by omega, inK64 (by omega), VLe.refl _⟩
  exact Eq.mp (by kernel_rfl) key
theorem so39 : Sound Try.prog 39 sp39 := by
  refine sound_of_body hmix (pol := 0) Try.func39 rfl (by kernel_rfl) fun args bin ob r bout hDe hob => ?_
  unfold sp39 at hDe
  split at hDe
  · rename_i a0 a1
    cases hDe
    exact ⟨rfl, rfl, Nat.le_of_ble_eq_true (by kernel_rfl), cx39 a0 a1, Eq.mp (by kernel_rfl) htt, Eq.mp (by kernel_rfl) da39, Eq.mp (by kernel_rfl) (noM_sound (P := Try.prog)), by kernel_rfl, [.int .i64 (a0), .int .i64 (a1)], args_of_vles (⟨VLe.refl _, VLe.refl _, trivial⟩), Eq.mp (by kernel_rfl) (bd39 a0 a1 (hob))⟩
  · cases hDe

/-- The senders of the first so many places. -/
def sendersAt (l : List Msg) (ps : List Int) (i : Nat) : List Int := (ps.take i).map fun p => (atM l p).sender
theorem sendersAt_len (l : List Msg) (ps : List Int) {i : Nat} (h : i ≤ ps.length) : (sendersAt l ps i).length = i := by simp [sendersAt]; omega
theorem sendersAt_succ (l : List Msg) (ps : List Int) {i : Nat} (h : i < ps.length) : sendersAt l ps (i + 1) = sendersAt l ps i ++ [(atM l (ps.getD i default)).sender] := by
  unfold sendersAt
  rw [List.take_add_one, List.map_append]
  congr 1
  simp [h]
theorem sendersAt_mem (l : List Msg) (ps : List Int) (i : Nat) (w : Int) : w ∈ sendersAt l ps i ↔ standsIn l (ps.take i) w := by
  unfold sendersAt standsIn
  exact List.mem_map
theorem newOk_entry {f : Int} {l : List Msg} {k : Int} (h : newOk f l k) {i : Nat} (hi : i < (atM l k).refs.length) : newEntry f l (atM l k) i := h.2.2.2.2 i hi

end Go.Av
