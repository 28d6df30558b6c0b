/- Changes of view that are right. -/
import Derived.Test.YtakcaanpnmkccaaP10
namespace Go.Av
open Go.Proofs
set_option maxRecDepth 100000
set_option linter.unusedVariables false
set_option linter.unusedSimpArgs false

theorem decPL_Msg (l : List Msg) : decPL decMsg (V.ptr [encL (encMsg 1) 1 l] 0 1) = l := decL_Msg 1 l
theorem bdL_mem {l : List Msg} (h : bdL l) {m : Msg} (hm : m ∈ l) : m.bd := h.2 m hm


/-! ### spec.l10Is -/
def pr54 (l : List Msg) (at_ : Int) (kind : Int) : Prop := l.length ≤ 240
noncomputable def rs54 (l : List Msg) (at_ : Int) (kind : Int) : V := .bool (decide (isAt l at_ kind))
noncomputable def sp54 : FSpec := fun args bin => match args, bin with
  | [a0, .int .i64 a1, .int .i64 a2], [] => some (VLe a0 (encL (encMsg 1) 1 (((decL decMsg) a0))) ∧ pr54 ((decL decMsg) a0) a1 a2, rs54 ((decL decMsg) a0) a1 a2, [])
  | _, _ => none
noncomputable def D54 : Nat → Option (Bool × FSpec) := lk [(41, (false, sp41))]
theorem da54 : SoundAll Try.prog D54 := soundAll_cons so41 (soundAll_nil)
noncomputable def cx54 (l : List Msg) (at_ : Int) (kind : Int) : Cx := ⟨tt, D54, Try.f54.ntmps, [0, 1, 2, 6], [], [], fun _ => none, [], noM, []⟩
theorem bd54 (l : List Msg) (at_ : Int) (kind : Int) (hpre : pr54 l at_ kind) : bodyP (cx54 l at_ kind) Try.f54 0 [encL (encMsg 1) 1 (l), .int .i64 (at_), .int .i64 (kind)] (fun rr => VLe rr (rs54 l at_ kind)) := by
  have key :
      ((inK IntKind.i64 ((↑(List.length l) : Int) - (1 : Int))) ∧
   ((pr41 at_ (0 : Int) ((↑(List.length l) : Int) - (1 : Int))) ∧
   ((tq (decide (inR at_ (0 : Int) ((↑(List.length l) : Int) - (1 : Int))))) ∧
   ((tq (decide (inR at_ (0 : Int) ((↑(List.length l) : Int) - (1 : Int))))) ∧
   (((decide (inR at_ (0 : Int) ((↑(List.length l) : Int) - (1 : Int))) = true) →
   (((0 : Int) ≤ at_) ∧
   (at_ < (↑(List.length l) : Int)))) ∧
   ((tq (decide (inR at_ (0 : Int) ((↑(List.length l) : Int) - (1 : Int))))) ∧
   ((tq (decide (inR at_ (0 : Int) ((↑(List.length l) : Int) - (1 : Int))))) ∧
   ((tq (decide (inR at_ (0 : Int) ((↑(List.length l) : Int) - (1 : Int))))) ∧
   ((tq (decide (inR at_ (0 : Int) ((↑(List.length l) : Int) - (1 : Int))))) ∧
   (((true = true) →
   ((decide (inR at_ (0 : Int) ((↑(List.length l) : Int) - (1 : Int))) = true) →
   (decide (inR at_ (0 : Int) ((↑(List.length l) : Int) - (1 : Int))) = true))) ∧
   (∀ b : Bool,
   ((b =
   bif decide (inR at_ (0 : Int) ((↑(List.length l) : Int) - (1 : Int))) then
   Msg.kind (List.getD l (Int.toNat at_) default) == kind
   else false) →
   (VLe (V.bool b) (V.bool (decide (isAt l at_ kind)))))))))))))))) := by
    unfold pr54 at hpre
    refine ⟨inK64 (by omega), trivial, ?_⟩
    repeat (first | (refine And.intro ?aa ?_; case aa => (intros; simp_all; done)) | (refine And.intro ?aa ?_; case aa => (intro h; have := of_decide_eq_true h; unfold inR at this; omega)) | (intro q hq))
    subst_vars
    refine vle_bool ?_
    rw [Bool.eq_iff_iff, decide_eq_true_eq]
    unfold isAt inL atM
    by_cases h : inR at_ 0 ((l.length : Int) - 1) <;> simp [h]
  exact Eq.mp (by kernel_rfl) key
theorem so54 : Sound Try.prog 54 sp54 := by
  refine sound_of_body hmix (pol := 0) Try.func54 rfl (by kernel_rfl) fun args bin ob r bout hDe hob => ?_
  unfold sp54 at hDe
  split at hDe
  · rename_i a0 a1 a2
    cases hDe
    exact ⟨rfl, rfl, Nat.le_of_ble_eq_true (by kernel_rfl), cx54 ((decL decMsg) a0) a1 a2, Eq.mp (by kernel_rfl) htt, Eq.mp (by kernel_rfl) da54, Eq.mp (by kernel_rfl) (noM_sound (P := Try.prog)), by kernel_rfl, [encL (encMsg 1) 1 (((decL decMsg) a0)), .int .i64 (a1), .int .i64 (a2)], args_of_vles (⟨hob.1, VLe.refl _, VLe.refl _, trivial⟩), Eq.mp (by kernel_rfl) (bd54 ((decL decMsg) a0) a1 a2 (hob.2))⟩
  · cases hDe

end Go.Av
