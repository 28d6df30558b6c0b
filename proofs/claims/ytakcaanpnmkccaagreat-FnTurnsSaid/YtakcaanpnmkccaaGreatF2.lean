/- Does a view start at a place? -/
import Derived.Test.YtakcaanpnmkccaaGreatE11
namespace Go.Av
open Go.Proofs
set_option maxRecDepth 100000
set_option linter.unusedVariables false
set_option linter.unusedSimpArgs false


/-! ### spec.l10Start -/
def pr97 (f : Int) (l : List Msg) (view : Int) (start : Int) : Prop := Right f l ∧ bdL l
noncomputable def rs97 (f : Int) (l : List Msg) (view : Int) (start : Int) : V := .bool (decide (if view = 0 then start = -1 else newOk f l start ∧ (atM l start).view = view))
noncomputable def sp97 : FSpec := fun args bin => match args, bin with
  | [.int .i64 a0, a1, .int .i64 a2, .int .i64 a3], [] => some (VLe a1 (encL (encMsg 1) 1 (((decL decMsg) a1))) ∧ pr97 a0 ((decL decMsg) a1) a2 a3, rs97 a0 ((decL decMsg) a1) a2 a3, [])
  | _, _ => none
noncomputable def D97 : Nat → Option (Bool × FSpec) := lk [(30, (false, sp30))]
theorem da97 : SoundAll Tryz.prog D97 := soundAll_cons so30 (soundAll_nil)
noncomputable def cx97 (f : Int) (l : List Msg) (view : Int) (start : Int) : Cx := ⟨tt, D97, Tryz.f97.ntmps, [0, 1, 2, 3, 8, 10], [], [], fun _ => none, [], noM, []⟩
noncomputable def k97_0 (f : Int) (l : List Msg) (start : Int) : Bool := (decide (newOk f (decL decMsg (encL (encMsg 1) 1 l)) start))
theorem bd97 (f : Int) (l : List Msg) (view : Int) (start : Int) (hpre : pr97 f l view start) : bodyP (cx97 f l view start) Tryz.f97 0 [.int .i64 (f), encL (encMsg 1) 1 (l), .int .i64 (view), .int .i64 (start)] (fun rr => VLe rr (rs97 f l view start)) := by
  have key : ((((view == (0 : Int)) = true) → (VLe (V.bool (start == (-1 : Int))) (V.bool (decide (if view = (0 : Int) then start = (-1 : Int) else newOk f l start ∧ Msg.view (atM l start) = view))))) ∧ (((view == (0 : Int)) = false) → (((VLe (encL (encMsg 1) 1 l) (encL (encMsg 1) 1 (decL decMsg (encL (encMsg 1) 1 l)))) ∧ (pr30 f (decL decMsg (encL (encMsg 1) 1 l)) start)) ∧ ((tq (k97_0 f l start)) ∧ ((tq (k97_0 f l start)) ∧ (((decide (newOk f (decL decMsg (encL (encMsg 1) 1 l)) start) = true) → (((0 : Int) ≤ start) ∧ (start < (↑(List.length l) : Int)))) ∧ ((tq (k97_0 f l start)) ∧ ((tq (k97_0 f l start)) ∧ ((tq (k97_0 f l start)) ∧ ((tq (k97_0 f l start)) ∧ (((true = true) → ((decide (newOk f (decL decMsg (encL (encMsg 1) 1 l)) start) = true) → (decide (newOk f (decL decMsg (encL (encMsg 1) 1 l)) start) = true))) ∧ (∀ b : Bool, ((b = bif decide (newOk f (decL decMsg (encL (encMsg 1) 1 l)) start) then Msg.view (List.getD l (Int.toNat start) default) == view else false) → (VLe (V.bool b) (V.bool (decide (if view = (0 : Int) then start = (-1 : Int) else newOk f l start ∧ Msg.view (atM l start) = view))))))))))))))))) := by
    delta k97_0
    obtain ⟨hr, hl⟩ := hpre
    simp only [decL_Msg]
    have hin : decide (newOk f l start) = true → 0 ≤ start ∧ start < l.length := by
      intro h2
      have h4 := (of_decide_eq_true h2).1.1
      unfold inL inR at h4
      omega
    refine ⟨fun h => vle_bool ?_, fun h => ⟨⟨VLe.refl _, hr, hl⟩, ?_⟩⟩
    · have : view = 0 := by simpa using h
      rw [Bool.eq_iff_iff, decide_eq_true_eq, if_pos this]
      simp
    repeat (first | (refine And.intro (fun h _ => h) ?_) | (refine And.intro (fun _ h => h) ?_) | (refine And.intro ?aa ?_; case aa => (exact hin)) | (refine And.intro ?aa ?_; case aa => (intros; simp_all [pr30]; done)) | (refine And.intro ?aa ?_; case aa => (intros; exact inK64 (by omega))) | (refine And.intro ?aa ?_; case aa => (intros; simp only [decide_eq_true_eq] at *; omega)) | (intro q hq))
    have : ¬ view = 0 := by simpa using h
    refine vle_bool ?_
    subst_vars
    rw [Bool.eq_iff_iff, decide_eq_true_eq, if_neg this]
    by_cases a1 : newOk f l start <;> simp [a1, atM]
  exact Eq.mp (by kernel_rfl) key
theorem so97 : Sound Tryz.prog 97 sp97 := by
  refine sound_of_body hmix (pol := 0) Tryz.func97 rfl (by kernel_rfl) fun args bin ob r bout hDe hob => ?_
  unfold sp97 at hDe
  split at hDe
  · rename_i a0 a1 a2 a3
    cases hDe
    exact ⟨rfl, rfl, Nat.le_of_ble_eq_true (by kernel_rfl), cx97 a0 ((decL decMsg) a1) a2 a3, Eq.mp (by kernel_rfl) htt, Eq.mp (by kernel_rfl) da97, Eq.mp (by kernel_rfl) (noM_sound (P := Tryz.prog)), by kernel_rfl, [.int .i64 (a0), encL (encMsg 1) 1 (((decL decMsg) a1)), .int .i64 (a2), .int .i64 (a3)], args_of_vles (⟨VLe.refl _, hob.1, VLe.refl _, VLe.refl _, trivial⟩), Eq.mp (by kernel_rfl) (bd97 a0 ((decL decMsg) a1) a2 a3 (hob.2))⟩
  · cases hDe

end Go.Av
