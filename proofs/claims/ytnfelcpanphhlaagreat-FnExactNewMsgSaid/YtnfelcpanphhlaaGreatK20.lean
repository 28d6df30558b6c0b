/- What is wrong with a replica. -/
import Derived.Test.YtnfelcpanphhlaaGreatK7
import Derived.Test.YtnfelcpanphhlaaGreatE11
namespace Go.Av
open Go.Proofs
set_option maxRecDepth 100000
set_option linter.unusedVariables false
set_option linter.unusedSimpArgs false

noncomputable def repF (f : Int) (l : List Msg) (r : Replica) (long : Int) : Int :=
  if ¬ (inR r.id 1 (3 * f + 1) ∧ inR r.view 0 20 ∧ inR r.done 0 30) then 3
  else if r.start ≠ -1 ∧ (r.view = 0 ∨ ¬ (newOk f l r.start ∧ (atM l r.start).view = r.view)) then 1
  else if long < r.done then 8 else 0
noncomputable def replicaFault (f : Int) (l : List Msg) (r : Replica) : Int :=
  if ledgerFault f l ≠ 0 then ledgerFault f l else repF f l r (logL f l).length

theorem nd {p : Prop} [Decidable p] (h : (!decide p) = true) : ¬ p := by simpa using h
theorem pd {p : Prop} [Decidable p] (h : (!decide p) = false) : p := by simpa using h
theorem replica_right {f : Int} {l : List Msg} {r : Replica} (h : replicaFault f l r = 0) : Right f l ∧ inR r.view 0 20 := by
  unfold replicaFault at h
  split at h
  · contradiction
  · rename_i h0
    refine ⟨right_of (Classical.not_not.1 h0), ?_⟩
    unfold repF at h
    split at h
    · simp at h
    · rename_i h1
      exact (Classical.not_not.1 h1).2.1


/-! ### impl.replicaFault -/
def pr65 (f : Int) (l : List Msg) (r : Replica) (long : Int) : Prop := Right f l ∧ bdL l
noncomputable def rs65 (f : Int) (l : List Msg) (r : Replica) (long : Int) : V := .int .i64 (repF f l r long)
noncomputable def sp65 : FSpec := fun args bin => match args, bin with
  | [.int .i64 a0, a1, a2, .int .i64 a3], [] => some (VLe a1 (encL (encMsg 1) 1 (((decL decMsg) a1))) ∧ VLe a2 (encReplica 1 ((decReplica a2))) ∧ pr65 a0 ((decL decMsg) a1) (decReplica a2) a3, rs65 a0 ((decL decMsg) a1) (decReplica a2) a3, [])
  | _, _ => none
noncomputable def D65 : Nat → Option (Bool × FSpec) := lk [(77, (false, sp77)), (50, (false, sp50)), (60, (false, sp60)), (47, (false, sp47))]
theorem da65 : SoundAll Tryz.prog D65 := soundAll_cons so77 (soundAll_cons so50 (soundAll_cons so60 (soundAll_cons so47 (soundAll_nil))))
noncomputable def cx65 (f : Int) (l : List Msg) (r : Replica) (long : Int) : Cx := ⟨tt, D65, Tryz.f65.ntmps, [0, 1, 2, 3, 6, 8, 9, 27, 55], [], [], fun _ => none, [], noM, []⟩
theorem bd65 (f : Int) (l : List Msg) (r : Replica) (long : Int) (hpre : pr65 f l r long) : bodyP (cx65 f l r long) Tryz.f65 0 [.int .i64 (f), encL (encMsg 1) 1 (l), encReplica 1 (r), .int .i64 (long)] (fun rr => VLe rr (rs65 f l r long)) := by
  have key :
      ((pr77 f (Replica.id r)) ∧
   ((tq (!!decide (inR (Replica.id r) (1 : Int) ((3 : Int) * f + (1 : Int))))) ∧
   ((tq (!!decide (inR (Replica.id r) (1 : Int) ((3 : Int) * f + (1 : Int))))) ∧
   ((((!!decide (inR (Replica.id r) (1 : Int) ((3 : Int) * f + (1 : Int)))) = true) →
   (pr50 (Replica.view r))) ∧
   ((tq (!!decide (inR (Replica.id r) (1 : Int) ((3 : Int) * f + (1 : Int))))) ∧
   (((true = true) →
   (((!decide (inR (Replica.id r) (1 : Int) ((3 : Int) * f + (1 : Int)))) = false) →
   ((!!decide (inR (Replica.id r) (1 : Int) ((3 : Int) * f + (1 : Int)))) = true))) ∧
   (∀ b : Bool,
   ((b =
   bif !decide (inR (Replica.id r) (1 : Int) ((3 : Int) * f + (1 : Int))) then true
   else !decide (inR (Replica.view r) (0 : Int) (20 : Int))) →
   ((tq (!b)) ∧
   ((tq (!b)) ∧
   ((((!b) = true) →
   (pr60 (Replica.done r) (0 : Int) (30 : Int))) ∧
   ((tq (!b)) ∧
   (((true = true) →
   ((b = false) →
   ((!b) = true))) ∧
   (∀ b_1 : Bool,
   ((b_1 = bif b then true else !decide (inR (Replica.done r) (0 : Int) (30 : Int))) →
   (((b_1 = true) →
   (VLe (V.int IntKind.i64 (3 : Int)) (V.int IntKind.i64 (repF f l r long)))) ∧
   ((b_1 = false) →
   ((tq (Replica.start r != (-1 : Int))) ∧
   ((tq (Replica.start r != (-1 : Int))) ∧
   ((tq (Replica.start r != (-1 : Int))) ∧
   ((tq (Replica.start r != (-1 : Int) && !Replica.view r == (0 : Int))) ∧
   ((tq (Replica.start r != (-1 : Int) && !Replica.view r == (0 : Int))) ∧
   ((tq (Replica.start r != (-1 : Int) && !Replica.view r == (0 : Int))) ∧
   ((tq (Replica.start r != (-1 : Int) && !Replica.view r == (0 : Int))) ∧
   ((((Replica.start r != (-1 : Int) && !Replica.view r == (0 : Int)) = true) →
   ((VLe (encL (encMsg 1) 1 l)
   (encL (encMsg 1) 1 (decL decMsg (encL (encMsg 1) 1 l)))) ∧
   (pr47 f (decL decMsg (encL (encMsg 1) 1 l)) (Replica.start r)))) ∧
   ((tq (Replica.start r != (-1 : Int) && !Replica.view r == (0 : Int))) ∧
   ((tq (Replica.start r != (-1 : Int))) ∧
   ((((Replica.start r != (-1 : Int)) = true) →
   (((Replica.start r != (-1 : Int)) = true) →
   (((Replica.view r == (0 : Int)) = false) →
   ((Replica.start r != (-1 : Int) && !Replica.view r == (0 : Int)) = true)))) ∧
   (∀ b_2 : Bool,
   ((b_2 =
   bif Replica.view r == (0 : Int) then true
   else !decide (newOk f (decL decMsg (encL (encMsg 1) 1 l)) (Replica.start r))) →
   ((tq (Replica.start r != (-1 : Int))) ∧
   ((tq (Replica.start r != (-1 : Int) && !b_2)) ∧
   ((tq (Replica.start r != (-1 : Int) && !b_2)) ∧
   ((tq (Replica.start r != (-1 : Int) && !b_2)) ∧
   ((((Replica.start r != (-1 : Int) && !b_2) = true) →
   (((0 : Int) ≤ Replica.start r) ∧
   (Replica.start r < (↑(List.length l) : Int)))) ∧
   ((tq (Replica.start r != (-1 : Int) && !b_2)) ∧
   ((tq (Replica.start r != (-1 : Int) && !b_2)) ∧
   ((tq (Replica.start r != (-1 : Int) && !b_2)) ∧
   ((tq (Replica.start r != (-1 : Int) && !b_2)) ∧
   ((tq (Replica.start r != (-1 : Int) && !b_2)) ∧
   ((tq (Replica.start r != (-1 : Int))) ∧
   ((((Replica.start r != (-1 : Int)) = true) →
   (((Replica.start r != (-1 : Int)) = true) →
   ((b_2 = false) →
   ((Replica.start r != (-1 : Int) && !b_2) = true)))) ∧
   (∀ b_3 : Bool,
   ((b_3 = bif b_2 then true else Msg.view (List.getD l (Int.toNat (Replica.start r)) default) != Replica.view r) →
   (((true = true) →
   (((Replica.start r != (-1 : Int)) = true) →
   ((Replica.start r != (-1 : Int)) = true))) ∧
   (∀ b_4 : Bool,
   ((b_4 = bif Replica.start r != (-1 : Int) then b_3 else false) →
   (((b_4 = true) →
   (VLe (V.int IntKind.i64 (1 : Int)) (V.int IntKind.i64 (repF f l r long)))) ∧
   ((b_4 = false) →
   (((decide (Replica.done r > long) = true) →
   (VLe (V.int IntKind.i64 (8 : Int)) (V.int IntKind.i64 (repF f l r long)))) ∧
   ((decide (Replica.done r > long) = false) →
   (VLe (V.int IntKind.i64 (0 : Int)) (V.int IntKind.i64 (repF f l r long)))))))))))))))))))))))))))))))))))))))))))))))))))))) := by
    obtain ⟨hr, hl⟩ := hpre
    simp only [decL_Msg, dec_encReplica]
    repeat (first | (refine And.intro (fun h _ => h) ?_) | (refine And.intro (fun _ h => h) ?_) | (refine And.intro ?aa ?_; case aa => (exact hr.okf)) | (refine And.intro ?aa ?_; case aa => (exact trivial)) | (refine And.intro ?aa ?_; case aa => (exact fun _ => trivial)) | (refine And.intro ?aa ?_; case aa => (intros; simp_all [pr77, pr50, pr60, pr47]; done)) | (refine And.intro ?aa ?_; case aa => (intros; exact inK64 (by omega))) | (refine And.intro ?aa ?_; case aa => (intros; simp only [decide_eq_true_eq] at *; omega)) | (intro q hq))
    have e0 : q = decide (¬ (inR r.id 1 (3 * f + 1) ∧ inR r.view 0 20 ∧ inR r.done 0 30)) := by
      subst_vars
      rw [Bool.eq_iff_iff, decide_eq_true_eq]
      by_cases a1 : inR r.id 1 (3 * f + 1) <;> by_cases a2 : inR r.view 0 20 <;> by_cases a3 : inR r.done 0 30 <;> simp [a1, a2, a3]
    clear hq
    refine ⟨fun h => ?_, fun h => ?_⟩
    · rw [e0] at h
      exact vle_int (by unfold repF; rw [if_pos (of_decide_eq_true h)])
    rw [e0] at h
    have h1 := of_decide_eq_false h
    clear e0
    repeat (first | (refine And.intro (fun h _ => h) ?_) | (refine And.intro (fun _ h => h) ?_) | (refine And.intro ?aa ?_; case aa => (exact fun _ => ⟨VLe.refl _, hr, hl⟩)) | (refine And.intro ?aa ?_; case aa => (intros; simp_all [pr77, pr50, pr60, pr47]; done)) | (refine And.intro ?aa ?_; case aa => (intros; exact inK64 (by omega))) | (refine And.intro ?aa ?_; case aa => (intros; simp only [decide_eq_true_eq] at *; omega)) | (intro q hq))
    have hin : (r.start != -1 && !q) = true → 0 ≤ r.start ∧ r.start < l.length := by
      intro h2
      have h3 : newOk f l r.start := by
        rw [hq] at h2
        by_cases a1 : r.view = 0 <;> by_cases a2 : newOk f l r.start <;> simp_all
      have h4 := h3.1.1
      unfold inL inR at h4
      omega
    repeat (first | (refine And.intro (fun h _ => h) ?_) | (refine And.intro (fun _ h => h) ?_) | (refine And.intro ?aa ?_; case aa => (exact hin)) | (refine And.intro ?aa ?_; case aa => (intros; simp_all [pr77, pr50, pr60, pr47]; done)) | (refine And.intro ?aa ?_; case aa => (intros; exact inK64 (by omega))) | (refine And.intro ?aa ?_; case aa => (intros; simp only [decide_eq_true_eq] at *; omega)) | (intro q hq))
    have e1 : q = decide (r.start ≠ -1 ∧ (r.view = 0 ∨ ¬ (newOk f l r.start ∧ (atM l r.start).view = r.view))) := by
      subst_vars
      clear h h1
      rw [Bool.eq_iff_iff, decide_eq_true_eq]
      by_cases a1 : r.start = -1 <;> by_cases a2 : r.view = 0 <;> by_cases a3 : newOk f l r.start <;> simp [a1, a2, a3, atM]
    clear hq
    refine ⟨fun h2 => ?_, fun h2 => ?_⟩
    · rw [e1] at h2
      exact vle_int (by unfold repF; rw [if_neg h1, if_pos (of_decide_eq_true h2)])
    rw [e1] at h2
    have h3 := of_decide_eq_false h2
    clear e1
    refine ⟨fun h4 => vle_int ?_, fun h4 => vle_int ?_⟩
    · unfold repF
      rw [if_neg h1, if_neg h3, if_pos (by simpa using h4)]
    · unfold repF
      rw [if_neg h1, if_neg h3, if_neg (by simpa using h4)]
  exact Eq.mp (by kernel_rfl) key
theorem so65 : Sound Tryz.prog 65 sp65 := by
  refine sound_of_body hmix (pol := 0) Tryz.func65 rfl (by kernel_rfl) fun args bin ob r bout hDe hob => ?_
  unfold sp65 at hDe
  split at hDe
  · rename_i a0 a1 a2 a3
    cases hDe
    exact ⟨rfl, rfl, Nat.le_of_ble_eq_true (by kernel_rfl), cx65 a0 ((decL decMsg) a1) (decReplica a2) a3, Eq.mp (by kernel_rfl) htt, Eq.mp (by kernel_rfl) da65, Eq.mp (by kernel_rfl) (noM_sound (P := Tryz.prog)), by kernel_rfl, [.int .i64 (a0), encL (encMsg 1) 1 (((decL decMsg) a1)), encReplica 1 ((decReplica a2)), .int .i64 (a3)], args_of_vles (⟨VLe.refl _, hob.1, hob.2.1, VLe.refl _, trivial⟩), Eq.mp (by kernel_rfl) (bd65 a0 ((decL decMsg) a1) (decReplica a2) a3 (hob.2.2))⟩
  · cases hDe

/-! ### impl.ReplicaFault -/
def pr24 (f : Int) (l : List Msg) (r : Replica) : Prop := bdL l
noncomputable def rs24 (f : Int) (l : List Msg) (r : Replica) : V := .int .i64 (replicaFault f l r)
noncomputable def sp24 : FSpec := fun args bin => match args, bin with
  | [.int .i64 a0, a1, a2], [] => some (VLe a1 (encL (encMsg 1) 1 (((decL decMsg) a1))) ∧ VLe a2 (encReplica 1 ((decReplica a2))) ∧ pr24 a0 ((decL decMsg) a1) (decReplica a2), rs24 a0 ((decL decMsg) a1) (decReplica a2), [])
  | _, _ => none
noncomputable def D24 : Nat → Option (Bool × FSpec) := lk [(46, (false, sp46)), (66, (false, sp66o)), (65, (false, sp65))]
theorem da24 : SoundAll Tryz.prog D24 := soundAll_cons so46 (soundAll_cons so66o (soundAll_cons so65 (soundAll_nil)))
noncomputable def cx24 (f : Int) (l : List Msg) (r : Replica) : Cx := ⟨tt, D24, Tryz.f24.ntmps, [0, 1, 2, 5, 6, 7, 12], [], [], fun _ => none, [], noM, []⟩
theorem bd24 (f : Int) (l : List Msg) (r : Replica) (hpre : pr24 f l r) : bodyP (cx24 f l r) Tryz.f24 0 [.int .i64 (f), encL (encMsg 1) 1 (l), encReplica 1 (r)] (fun rr => VLe rr (rs24 f l r)) := by
  have key :
      (((VLe (encL (encMsg 1) 1 l)
   (encL (encMsg 1) 1 (decL decMsg (encL (encMsg 1) 1 l)))) ∧
   (pr46 f (decL decMsg (encL (encMsg 1) 1 l)))) ∧
   ((((ledgerFault f (decL decMsg (encL (encMsg 1) 1 l)) != (0 : Int)) = true) →
   (VLe (V.int IntKind.i64 (ledgerFault f (decL decMsg (encL (encMsg 1) 1 l))))
   (V.int IntKind.i64 (replicaFault f l r)))) ∧
   (((ledgerFault f (decL decMsg (encL (encMsg 1) 1 l)) != (0 : Int)) = false) →
   (((VLe (encL (encMsg 1) 1 l)
   (encL (encMsg 1) 1 (decL decMsg (encL (encMsg 1) 1 l)))) ∧
   (pr66o f (decL decMsg (encL (encMsg 1) 1 l)))) ∧
   (((VLe (encL (encMsg 1) 1 l)
   (encL (encMsg 1) 1 (decL decMsg (encL (encMsg 1) 1 l)))) ∧
   ((VLe (encReplica 1 r) (encReplica 1 (decReplica (encReplica 1 r)))) ∧
   (pr65 f (decL decMsg (encL (encMsg 1) 1 l)) (decReplica (encReplica 1 r))
   (↑(List.length (ro66o f (decL decMsg (encL (encMsg 1) 1 l)))) : Int)))) ∧
   (VLe
   (V.int IntKind.i64
   (repF f (decL decMsg (encL (encMsg 1) 1 l)) (decReplica (encReplica 1 r))
   (↑(List.length (ro66o f (decL decMsg (encL (encMsg 1) 1 l)))) : Int)))
   (V.int IntKind.i64 (replicaFault f l r)))))))) := by
    simp only [decL_Msg, dec_encReplica]
    refine ⟨⟨VLe.refl _, hpre⟩, fun h => ?_, fun h => ?_⟩
    · exact vle_int (by unfold replicaFault; rw [if_pos (by simpa using h)])
    · have h0 : ledgerFault f l = 0 := by simpa using h
      have hr := right_of h0
      exact ⟨⟨VLe.refl _, hr, hpre⟩, ⟨VLe.refl _, VLe.refl _, hr, hpre⟩, vle_int (by unfold replicaFault; rw [if_neg (not_not_intro h0)]; rfl)⟩
  exact Eq.mp (by kernel_rfl) key
theorem so24 : Sound Tryz.prog 24 sp24 := by
  refine sound_of_body hmix (pol := 0) Tryz.func24 rfl (by kernel_rfl) fun args bin ob r bout hDe hob => ?_
  unfold sp24 at hDe
  split at hDe
  · rename_i a0 a1 a2
    cases hDe
    exact ⟨rfl, rfl, Nat.le_of_ble_eq_true (by kernel_rfl), cx24 a0 ((decL decMsg) a1) (decReplica a2), Eq.mp (by kernel_rfl) htt, Eq.mp (by kernel_rfl) da24, Eq.mp (by kernel_rfl) (noM_sound (P := Tryz.prog)), by kernel_rfl, [.int .i64 (a0), encL (encMsg 1) 1 (((decL decMsg) a1)), encReplica 1 ((decReplica a2))], args_of_vles (⟨VLe.refl _, hob.1, hob.2.1, trivial⟩), Eq.mp (by kernel_rfl) (bd24 a0 ((decL decMsg) a1) (decReplica a2) (hob.2.2))⟩
  · cases hDe

/-! ### spec.l10Start -/
def pr141 (f : Int) (l : List Msg) (view : Int) (start : Int) : Prop := Right f l ∧ bdL l
noncomputable def rs141 (f : Int) (l : List Msg) (view : Int) (start : Int) : V := .bool (decide (if view = 0 then start = -1 else newOk f l start ∧ (atM l start).view = view))
noncomputable def sp141 : FSpec := fun args bin => match args, bin with
  | [.int .i64 a0, a1, .int .i64 a2, .int .i64 a3], [] => some (VLe a1 (encL (encMsg 1) 1 (((decL decMsg) a1))) ∧ pr141 a0 ((decL decMsg) a1) a2 a3, rs141 a0 ((decL decMsg) a1) a2 a3, [])
  | _, _ => none
noncomputable def D141 : Nat → Option (Bool × FSpec) := lk [(49, (false, sp49))]
theorem da141 : SoundAll Tryz.prog D141 := soundAll_cons so49 (soundAll_nil)
noncomputable def cx141 (f : Int) (l : List Msg) (view : Int) (start : Int) : Cx := ⟨tt, D141, Tryz.f141.ntmps, [0, 1, 2, 3, 8, 10], [], [], fun _ => none, [], noM, []⟩
theorem bd141 (f : Int) (l : List Msg) (view : Int) (start : Int) (hpre : pr141 f l view start) : bodyP (cx141 f l view start) Tryz.f141 0 [.int .i64 (f), encL (encMsg 1) 1 (l), .int .i64 (view), .int .i64 (start)] (fun rr => VLe rr (rs141 f l view start)) := by
  have key :
      ((((view == (0 : Int)) = true) →
   (VLe (V.bool (start == (-1 : Int)))
   (V.bool (decide (if view = (0 : Int) then start = (-1 : Int) else newOk f l start ∧ Msg.view (atM l start) = view))))) ∧
   (((view == (0 : Int)) = false) →
   (((VLe (encL (encMsg 1) 1 l)
   (encL (encMsg 1) 1 (decL decMsg (encL (encMsg 1) 1 l)))) ∧
   (pr49 f (decL decMsg (encL (encMsg 1) 1 l)) start)) ∧
   ((tq (decide (newOk f (decL decMsg (encL (encMsg 1) 1 l)) start))) ∧
   ((tq (decide (newOk f (decL decMsg (encL (encMsg 1) 1 l)) start))) ∧
   (((decide (newOk f (decL decMsg (encL (encMsg 1) 1 l)) start) = true) →
   (((0 : Int) ≤ start) ∧
   (start < (↑(List.length l) : Int)))) ∧
   ((tq (decide (newOk f (decL decMsg (encL (encMsg 1) 1 l)) start))) ∧
   ((tq (decide (newOk f (decL decMsg (encL (encMsg 1) 1 l)) start))) ∧
   ((tq (decide (newOk f (decL decMsg (encL (encMsg 1) 1 l)) start))) ∧
   ((tq (decide (newOk f (decL decMsg (encL (encMsg 1) 1 l)) start))) ∧
   (((true = true) →
   ((decide (newOk f (decL decMsg (encL (encMsg 1) 1 l)) start) = true) →
   (decide (newOk f (decL decMsg (encL (encMsg 1) 1 l)) start) = true))) ∧
   (∀ b : Bool,
   ((b =
   bif decide (newOk f (decL decMsg (encL (encMsg 1) 1 l)) start) then
   Msg.view (List.getD l (Int.toNat start) default) == view
   else false) →
   (VLe (V.bool b)
   (V.bool (decide (if view = (0 : Int) then start = (-1 : Int) else newOk f l start ∧ Msg.view (atM l start) = view))))))))))))))))) := by
    obtain ⟨hr, hl⟩ := hpre
    simp only [decL_Msg]
    have hin : decide (newOk f l start) = true → 0 ≤ start ∧ start < l.length := by
      intro h2
      have h4 := (of_decide_eq_true h2).1.1
      unfold inL inR at h4
      omega
    refine ⟨fun h => vle_bool ?_, fun h => ⟨⟨VLe.refl _, hr, hl⟩, ?_⟩⟩
    · have : view = 0 := by simpa using h
      rw [Bool.eq_iff_iff, decide_eq_true_eq, if_pos this]
      simp
    repeat (first | (refine And.intro (fun h _ => h) ?_) | (refine And.intro (fun _ h => h) ?_) | (refine And.intro ?aa ?_; case aa => (exact hin)) | (refine And.intro ?aa ?_; case aa => (intros; simp_all [pr49]; done)) | (refine And.intro ?aa ?_; case aa => (intros; exact inK64 (by omega))) | (refine And.intro ?aa ?_; case aa => (intros; simp only [decide_eq_true_eq] at *; omega)) | (intro q hq))
    have : ¬ view = 0 := by simpa using h
    refine vle_bool ?_
    subst_vars
    rw [Bool.eq_iff_iff, decide_eq_true_eq, if_neg this]
    by_cases a1 : newOk f l start <;> simp [a1, atM]
  exact Eq.mp (by kernel_rfl) key
theorem so141 : Sound Tryz.prog 141 sp141 := by
  refine sound_of_body hmix (pol := 0) Tryz.func141 rfl (by kernel_rfl) fun args bin ob r bout hDe hob => ?_
  unfold sp141 at hDe
  split at hDe
  · rename_i a0 a1 a2 a3
    cases hDe
    exact ⟨rfl, rfl, Nat.le_of_ble_eq_true (by kernel_rfl), cx141 a0 ((decL decMsg) a1) a2 a3, Eq.mp (by kernel_rfl) htt, Eq.mp (by kernel_rfl) da141, Eq.mp (by kernel_rfl) (noM_sound (P := Tryz.prog)), by kernel_rfl, [.int .i64 (a0), encL (encMsg 1) 1 (((decL decMsg) a1)), .int .i64 (a2), .int .i64 (a3)], args_of_vles (⟨VLe.refl _, hob.1, VLe.refl _, VLe.refl _, trivial⟩), Eq.mp (by kernel_rfl) (bd141 a0 ((decL decMsg) a1) a2 a3 (hob.2))⟩
  · cases hDe

/-! ### spec.l9Log -/
def pr142 (f : Int) (l : List Msg) : Prop := Right f l ∧ bdL l
noncomputable def rs142 (f : Int) (l : List Msg) : V := encL encI 2 (logL f l)
noncomputable def sp142 : FSpec := fun args bin => match args, bin with
  | [.int .i64 a0, a1], [] => some (VLe a1 (encL (encMsg 1) 1 (((decL decMsg) a1))) ∧ pr142 a0 ((decL decMsg) a1), rs142 a0 ((decL decMsg) a1), [])
  | _, _ => none
noncomputable def in142_3 (f : Int) (l : List Msg) : LoopInv :=
  ⟨Nat × List Int, fun p => ⟨[(0, .int .i64 f), (1, encL (encMsg 1) 1 l), (4, .nil), (5, .osl (canonT 5) p.2.length), (6, .int .i64 (p.1 + 1))], [(canonT 5, .arr 1 p.2.length (gL encI p.2) tagS)]⟩,
    fun p => p.1 ≤ 30 ∧ p.2.length ≤ p.1 ∧ logL f l = p.2 ++ logFrom f l (p.1 + 1) (30 - p.1), fun p => 30 - p.1⟩
noncomputable def iv142 (f : Int) (l : List Msg) : Nat → Option LoopInv := fun rg_ => match rg_ with
  | 3 => some (in142_3 f l)
  | _ => none
noncomputable def D142 : Nat → Option (Bool × FSpec) := lk [(157, (false, sp157o))]
theorem da142 : SoundAll Tryz.prog D142 := soundAll_cons so157o (soundAll_nil)
noncomputable def cx142 (f : Int) (l : List Msg) : Cx := ⟨tt, D142, Tryz.f142.ntmps, [0, 1, 4, 5, 6, 7, 10, 19], [(3, ⟨[(0, none), (1, none), (4, none), (5, some 1), (6, none)], []⟩)], [], iv142 f l, [], noM, []⟩
theorem bd142 (f : Int) (l : List Msg) (hpre : pr142 f l) : bodyP (cx142 f l) Tryz.f142 1 [.int .i64 (f), encL (encMsg 1) 1 (l)] (fun rr => VLe rr (rs142 f l)) := by
  have key :
      ((∃ x : Nat × List Int, ((SLe
   (AS.mk
   [(0, V.int IntKind.i64 f), (1, encL (encMsg 1) 1 l), (4, V.nil),
   (5, V.osl 32000384 0), (6, V.int IntKind.i64 (1 : Int))]
   [(32000384, Blk.arr 1 0 (rowg []) 100)])
   (AS.mk
   [(0, V.int IntKind.i64 f), (1, encL (encMsg 1) 1 l), (4, V.nil),
   (5, V.osl 32000384 (List.length (Prod.snd x))),
   (6, V.int IntKind.i64 ((↑(Prod.fst x) : Int) + (1 : Int)))]
   [(32000384, Blk.arr 1 (List.length (Prod.snd x)) (gL encI (Prod.snd x)) 100)])) ∧
   ((Prod.fst x ≤ 30) ∧
   ((List.length (Prod.snd x) ≤ Prod.fst x) ∧
   (logL f l = Prod.snd x ++ logFrom f l (Prod.fst x + 1) (30 - Prod.fst x)))))) ∧
   (∀ x : Nat × List Int,
   (((Prod.fst x ≤ 30) ∧
   ((List.length (Prod.snd x) ≤ Prod.fst x) ∧
   (logL f l = Prod.snd x ++ logFrom f l (Prod.fst x + 1) (30 - Prod.fst x)))) →
   (((decide ((↑(Prod.fst x) : Int) + (1 : Int) ≤ (30 : Int)) = true) →
   (((VLe (encL (encMsg 1) 1 l)
   (encL (encMsg 1) 1 (decL decMsg (encL (encMsg 1) 1 l)))) ∧
   (pr157o f (decL decMsg (encL (encMsg 1) 1 l)) ((↑(Prod.fst x) : Int) + (1 : Int)))) ∧
   (((((↑(List.length (ro157o f (decL decMsg (encL (encMsg 1) 1 l)) ((↑(Prod.fst x) : Int) + (1 : Int)))) :
   Int) ==
   (0 : Int)) =
   true) →
   (VLe (encL encI 2 (Prod.snd x)) (encL encI 2 (logL f l)))) ∧
   ((((↑(List.length (ro157o f (decL decMsg (encL (encMsg 1) 1 l)) ((↑(Prod.fst x) : Int) + (1 : Int)))) :
   Int) ==
   (0 : Int)) =
   false) →
   ((((0 : Int) ≤ (0 : Int)) ∧
   ((0 : Int) <
   (↑(List.length (ro157o f (decL decMsg (encL (encMsg 1) 1 l)) ((↑(Prod.fst x) : Int) + (1 : Int)))) :
   Int))) ∧
   ((0 <
   List.length (ro157o f (decL decMsg (encL (encMsg 1) 1 l)) ((↑(Prod.fst x) : Int) + (1 : Int)))) ∧
   ((List.length (Prod.snd x) = List.length (Prod.snd x)) ∧
   ((List.length (Prod.snd x) + 1 ≤ 1073741824) ∧
   ((sizedL 1 1
   (rowg
   [V.int IntKind.i64
   (List.getD (ro157o f (decL decMsg (encL (encMsg 1) 1 l)) ((↑(Prod.fst x) : Int) + (1 : Int)))
   0 default)])) ∧
   ((inK IntKind.i64 ((↑(Prod.fst x) : Int) + (1 : Int) + (1 : Int))) ∧
   (∃ y : Nat × List Int, ((SLe
   (AS.mk
   [(0, V.int IntKind.i64 f), (1, encL (encMsg 1) 1 l), (4, V.nil),
   (5, V.osl 32000384 (List.length (Prod.snd x) + 1)),
   (6, V.int IntKind.i64 ((↑(Prod.fst x) : Int) + (1 : Int) + (1 : Int)))]
   [(32000384,
   Blk.arr 1 (List.length (Prod.snd x) + 1)
   (appg (List.length (Prod.snd x)) (gL encI (Prod.snd x))
   (rowg
   [V.int IntKind.i64
   (List.getD
   (ro157o f (decL decMsg (encL (encMsg 1) 1 l)) ((↑(Prod.fst x) : Int) + (1 : Int)))
   0 default)]))
   100)])
   (AS.mk
   [(0, V.int IntKind.i64 f), (1, encL (encMsg 1) 1 l), (4, V.nil),
   (5, V.osl 32000384 (List.length (Prod.snd y))),
   (6, V.int IntKind.i64 ((↑(Prod.fst y) : Int) + (1 : Int)))]
   [(32000384, Blk.arr 1 (List.length (Prod.snd y)) (gL encI (Prod.snd y)) 100)])) ∧
   (((Prod.fst y ≤ 30) ∧
   ((List.length (Prod.snd y) ≤ Prod.fst y) ∧
   (logL f l = Prod.snd y ++ logFrom f l (Prod.fst y + 1) (30 - Prod.fst y)))) ∧
   (30 - Prod.fst y < 30 - Prod.fst x)))))))))))))) ∧
   ((decide ((↑(Prod.fst x) : Int) + (1 : Int) ≤ (30 : Int)) = false) →
   (VLe (encL encI 2 (Prod.snd x)) (encL encI 2 (logL f l)))))))) := by
    obtain ⟨hr, hl⟩ := hpre
    simp only [decL_Msg, ro157o]
    refine ⟨⟨(0, []), sle_of ⟨rfl, VLe.refl _, rfl, VLe.refl _, rfl, VLe.refl _, rfl, VLe.refl _, rfl, VLe.refl _, trivial⟩ ⟨rfl, ble_nil _, trivial⟩, by simp, by simp, by simp [logL]⟩, ?_⟩
    rintro ⟨i, out⟩ ⟨hi, ho, hj⟩
    simp only at hi ho hj ⊢
    refine ⟨fun h => ?_, fun h => ?_⟩
    · have hlt : i < 30 := by simp at h; omega
      have hs : logFrom f l (i + 1) (30 - i) = match decidedL f l ((i : Int) + 1) with
        | [] => []
        | v :: _ => v :: logFrom f l (i + 1 + 1) (30 - (i + 1)) := by
        have e1 : 30 - i = (30 - (i + 1)) + 1 := by omega
        rw [e1]
        rfl
      refine ⟨⟨VLe.refl _, hr, hl⟩, fun h2 => ?_, fun h2 => ?_⟩
      · have hn : decidedL f l ((i : Int) + 1) = [] := List.length_eq_zero_iff.1 (by simpa using h2)
        rw [hn] at hs
        rw [hj, hs, List.append_nil]
        exact VLe.refl _
      · have hn : decidedL f l ((i : Int) + 1) ≠ [] := fun e => by rw [e] at h2; simp at h2
        obtain ⟨v, r, he⟩ : ∃ v r, decidedL f l ((i : Int) + 1) = v :: r := by
          cases hc : decidedL f l ((i : Int) + 1) with
          | nil => exact absurd hc hn
          | cons v r => exact ⟨v, r, rfl⟩
        rw [he] at hs ⊢
        simp only at hs
        refine ⟨⟨by omega, by simp only [List.length_cons]; omega⟩, by simp, trivial, by omega, fun k hk => ?_, inK64 (by omega), (i + 1, out ++ [v]), ?_, ⟨by simp only; omega, by simp only [List.length_append, List.length_singleton]; omega, ?_⟩, by simp only; omega⟩
        · have hk0 : k = 0 := by omega
          subst hk0
          exact ⟨rfl, rfl⟩
        · simp only [List.length_append, List.length_singleton]
          exact sle_of ⟨rfl, VLe.refl _, rfl, VLe.refl _, rfl, VLe.refl _, rfl, VLe.refl _, rfl, vle_int (by simp only [Int.natCast_add, Int.cast_ofNat_Int]), trivial⟩ ⟨rfl, ble_push rfl rfl, trivial⟩
        · simp only
          rw [hj, hs]
          simp
    · have : i = 30 := by simp at h; omega
      subst this
      have e : logL f l = out := by rw [hj]; simp [logFrom]
      rw [e]
      exact VLe.refl _
  exact Eq.mp (by kernel_rfl) key
theorem so142 : Sound Tryz.prog 142 sp142 := by
  refine sound_of_body hmix (pol := 1) Tryz.func142 rfl (by kernel_rfl) fun args bin ob r bout hDe hob => ?_
  unfold sp142 at hDe
  split at hDe
  · rename_i a0 a1
    cases hDe
    exact ⟨rfl, rfl, Nat.le_of_ble_eq_true (by kernel_rfl), cx142 a0 ((decL decMsg) a1), Eq.mp (by kernel_rfl) htt, Eq.mp (by kernel_rfl) da142, Eq.mp (by kernel_rfl) (noM_sound (P := Tryz.prog)), by kernel_rfl, [.int .i64 (a0), encL (encMsg 1) 1 (((decL decMsg) a1))], args_of_vles (⟨VLe.refl _, hob.1, trivial⟩), Eq.mp (by kernel_rfl) (bd142 a0 ((decL decMsg) a1) (hob.2))⟩
  · cases hDe

/-! ### spec.l11Fault -/
def pr106 (f : Int) (l : List Msg) (r : Replica) : Prop := Right f l ∧ bdL l
noncomputable def rs106 (f : Int) (l : List Msg) (r : Replica) : V := .int .i64 (repF f l r (logL f l).length)
noncomputable def sp106 : FSpec := fun args bin => match args, bin with
  | [.int .i64 a0, a1, a2], [] => some (VLe a1 (encL (encMsg 1) 1 (((decL decMsg) a1))) ∧ VLe a2 (encPReplica 1 ((decPReplica a2))) ∧ pr106 a0 ((decL decMsg) a1) (decPReplica a2), rs106 a0 ((decL decMsg) a1) (decPReplica a2), [])
  | _, _ => none
noncomputable def D106 : Nat → Option (Bool × FSpec) := lk [(140, (false, sp140)), (52, (false, sp52)), (141, (false, sp141)), (142, (false, sp142))]
theorem da106 : SoundAll Tryz.prog D106 := soundAll_cons so140 (soundAll_cons so52 (soundAll_cons so141 (soundAll_cons so142 (soundAll_nil))))
noncomputable def cx106 (f : Int) (l : List Msg) (r : Replica) : Cx := ⟨tt, D106, Tryz.f106.ntmps, [0, 1, 2, 6, 29, 55, 71], [], [], fun _ => none, [], noM, []⟩
theorem bd106 (f : Int) (l : List Msg) (r : Replica) (hpre : pr106 f l r) : bodyP (cx106 f l r) Tryz.f106 0 [.int .i64 (f), encL (encMsg 1) 1 (l), encPReplica 1 (r)] (fun rr => VLe rr (rs106 f l r)) := by
  have key :
      ((pr140 f (Replica.id r)) ∧
   ((tq (!!decide (inR (Replica.id r) (1 : Int) ((3 : Int) * f + (1 : Int))))) ∧
   ((tq (!!decide (inR (Replica.id r) (1 : Int) ((3 : Int) * f + (1 : Int))))) ∧
   ((tq (!!decide (inR (Replica.id r) (1 : Int) ((3 : Int) * f + (1 : Int))))) ∧
   ((tq (!!decide (inR (Replica.id r) (1 : Int) ((3 : Int) * f + (1 : Int))))) ∧
   ((((!!decide (inR (Replica.id r) (1 : Int) ((3 : Int) * f + (1 : Int)))) = true) →
   (pr52 (Replica.view r) (0 : Int) (20 : Int))) ∧
   ((tq (!!decide (inR (Replica.id r) (1 : Int) ((3 : Int) * f + (1 : Int))))) ∧
   (((true = true) →
   (((!decide (inR (Replica.id r) (1 : Int) ((3 : Int) * f + (1 : Int)))) = false) →
   ((!!decide (inR (Replica.id r) (1 : Int) ((3 : Int) * f + (1 : Int)))) = true))) ∧
   (∀ b : Bool,
   ((b =
   bif !decide (inR (Replica.id r) (1 : Int) ((3 : Int) * f + (1 : Int))) then true
   else !decide (inR (Replica.view r) (0 : Int) (20 : Int))) →
   ((tq (!b)) ∧
   ((tq (!b)) ∧
   ((tq (!b)) ∧
   ((tq (!b)) ∧
   ((((!b) = true) →
   (pr52 (Replica.done r) (0 : Int) (30 : Int))) ∧
   ((tq (!b)) ∧
   (((true = true) →
   ((b = false) →
   ((!b) = true))) ∧
   (∀ b_1 : Bool,
   ((b_1 = bif b then true else !decide (inR (Replica.done r) (0 : Int) (30 : Int))) →
   (((b_1 = true) →
   (VLe (V.int IntKind.i64 (3 : Int)) (V.int IntKind.i64 (repF f l r (↑(List.length (logL f l)) : Int))))) ∧
   ((b_1 = false) →
   ((tq (Replica.start r != (-1 : Int))) ∧
   ((tq (Replica.start r != (-1 : Int))) ∧
   ((tq (Replica.start r != (-1 : Int))) ∧
   ((tq (Replica.start r != (-1 : Int))) ∧
   ((tq (Replica.start r != (-1 : Int))) ∧
   ((tq (Replica.start r != (-1 : Int) && !Replica.view r == (0 : Int))) ∧
   ((tq (Replica.start r != (-1 : Int) && !Replica.view r == (0 : Int))) ∧
   ((tq (Replica.start r != (-1 : Int) && !Replica.view r == (0 : Int))) ∧
   ((tq (Replica.start r != (-1 : Int) && !Replica.view r == (0 : Int))) ∧
   ((tq (Replica.start r != (-1 : Int) && !Replica.view r == (0 : Int))) ∧
   ((tq (Replica.start r != (-1 : Int) && !Replica.view r == (0 : Int))) ∧
   ((tq (Replica.start r != (-1 : Int) && !Replica.view r == (0 : Int))) ∧
   ((tq (Replica.start r != (-1 : Int) && !Replica.view r == (0 : Int))) ∧
   ((tq (Replica.start r != (-1 : Int) && !Replica.view r == (0 : Int))) ∧
   ((tq (Replica.start r != (-1 : Int) && !Replica.view r == (0 : Int))) ∧
   ((((Replica.start r != (-1 : Int) && !Replica.view r == (0 : Int)) = true) →
   ((VLe (encL (encMsg 1) 1 l)
   (encL (encMsg 1) 1 (decL decMsg (encL (encMsg 1) 1 l)))) ∧
   (pr141 f (decL decMsg (encL (encMsg 1) 1 l)) (Replica.view r) (Replica.start r)))) ∧
   ((tq (Replica.start r != (-1 : Int) && !Replica.view r == (0 : Int))) ∧
   ((tq (Replica.start r != (-1 : Int))) ∧
   ((((Replica.start r != (-1 : Int)) = true) →
   (((Replica.start r != (-1 : Int)) = true) →
   (((Replica.view r == (0 : Int)) = false) →
   ((Replica.start r != (-1 : Int) && !Replica.view r == (0 : Int)) = true)))) ∧
   (∀ b_2 : Bool,
   ((b_2 =
   bif Replica.view r == (0 : Int) then true
   else
   !decide
   (if Replica.view r = (0 : Int) then Replica.start r = (-1 : Int)
   else
   newOk f (decL decMsg (encL (encMsg 1) 1 l)) (Replica.start r) ∧
   Msg.view (atM (decL decMsg (encL (encMsg 1) 1 l)) (Replica.start r)) = Replica.view r)) →
   (((true = true) →
   (((Replica.start r != (-1 : Int)) = true) →
   ((Replica.start r != (-1 : Int)) = true))) ∧
   (∀ b_3 : Bool,
   ((b_3 = bif Replica.start r != (-1 : Int) then b_2 else false) →
   (((b_3 = true) →
   (VLe (V.int IntKind.i64 (1 : Int)) (V.int IntKind.i64 (repF f l r (↑(List.length (logL f l)) : Int))))) ∧
   ((b_3 = false) →
   ((tq (decide (Replica.done r > (0 : Int)))) ∧
   ((tq (decide (Replica.done r > (0 : Int)))) ∧
   ((tq (decide (Replica.done r > (0 : Int)))) ∧
   ((tq (decide (Replica.done r > (0 : Int)))) ∧
   ((tq (decide (Replica.done r > (0 : Int)))) ∧
   (((decide (Replica.done r > (0 : Int)) = true) →
   ((VLe (encL (encMsg 1) 1 l)
   (encL (encMsg 1) 1 (decL decMsg (encL (encMsg 1) 1 l)))) ∧
   (pr142 f (decL decMsg (encL (encMsg 1) 1 l))))) ∧
   ((tq (decide (Replica.done r > (0 : Int)))) ∧
   ((tq (decide (Replica.done r > (0 : Int)))) ∧
   ((tq (decide (Replica.done r > (0 : Int)))) ∧
   (((true = true) →
   ((decide (Replica.done r > (0 : Int)) = true) →
   (decide (Replica.done r > (0 : Int)) = true))) ∧
   (∀ b_4 : Bool,
   ((b_4 =
   bif decide (Replica.done r > (0 : Int)) then
   decide (Replica.done r > (↑(List.length (logL f (decL decMsg (encL (encMsg 1) 1 l)))) : Int))
   else false) →
   (((b_4 = true) →
   (VLe (V.int IntKind.i64 (8 : Int)) (V.int IntKind.i64 (repF f l r (↑(List.length (logL f l)) : Int))))) ∧
   ((b_4 = false) →
   (VLe (V.int IntKind.i64 (0 : Int)) (V.int IntKind.i64 (repF f l r (↑(List.length (logL f l)) : Int))))))))))))))))))))))))))))))))))))))))))))))))))))))))))))))))) := by
    obtain ⟨hr, hl⟩ := hpre
    simp only [decL_Msg, dec_encPReplica]
    repeat (first | (refine And.intro (fun h _ => h) ?_) | (refine And.intro (fun _ h => h) ?_) | (refine And.intro ?aa ?_; case aa => (exact hr.okf)) | (refine And.intro ?aa ?_; case aa => (exact trivial)) | (refine And.intro ?aa ?_; case aa => (exact fun _ => trivial)) | (refine And.intro ?aa ?_; case aa => (intros; simp_all [pr140, pr52, pr141, pr142]; done)) | (refine And.intro ?aa ?_; case aa => (intros; exact inK64 (by omega))) | (refine And.intro ?aa ?_; case aa => (intros; simp only [decide_eq_true_eq] at *; omega)) | (intro q hq))
    have e0 : q = decide (¬ (inR r.id 1 (3 * f + 1) ∧ inR r.view 0 20 ∧ inR r.done 0 30)) := by
      subst_vars
      rw [Bool.eq_iff_iff, decide_eq_true_eq]
      by_cases a1 : inR r.id 1 (3 * f + 1) <;> by_cases a2 : inR r.view 0 20 <;> by_cases a3 : inR r.done 0 30 <;> simp [a1, a2, a3]
    clear hq
    refine ⟨fun h => ?_, fun h => ?_⟩
    · rw [e0] at h
      exact vle_int (by unfold repF; rw [if_pos (of_decide_eq_true h)])
    rw [e0] at h
    have h1 := of_decide_eq_false h
    clear e0
    repeat (first | (refine And.intro (fun h _ => h) ?_) | (refine And.intro (fun _ h => h) ?_) | (refine And.intro ?aa ?_; case aa => (exact fun _ => ⟨VLe.refl _, hr, hl⟩)) | (refine And.intro ?aa ?_; case aa => (intros; simp_all [pr140, pr52, pr141, pr142]; done)) | (refine And.intro ?aa ?_; case aa => (intros; exact inK64 (by omega))) | (refine And.intro ?aa ?_; case aa => (intros; simp only [decide_eq_true_eq] at *; omega)) | (intro q hq))
    have e1 : q = decide (r.start ≠ -1 ∧ (r.view = 0 ∨ ¬ (newOk f l r.start ∧ (atM l r.start).view = r.view))) := by
      subst_vars
      clear h h1
      rw [Bool.eq_iff_iff, decide_eq_true_eq]
      by_cases a1 : r.start = -1 <;> by_cases a2 : r.view = 0 <;> by_cases a3 : newOk f l r.start <;> simp [a1, a2, a3]
    clear hq
    refine ⟨fun h2 => ?_, fun h2 => ?_⟩
    · rw [e1] at h2
      exact vle_int (by unfold repF; rw [if_neg h1, if_pos (of_decide_eq_true h2)])
    rw [e1] at h2
    have h3 := of_decide_eq_false h2
    clear e1
    repeat (first | (refine And.intro (fun h _ => h) ?_) | (refine And.intro (fun _ h => h) ?_) | (refine And.intro ?aa ?_; case aa => (exact fun _ => ⟨VLe.refl _, hr, hl⟩)) | (refine And.intro ?aa ?_; case aa => (intros; simp_all [pr140, pr52, pr141, pr142]; done)) | (refine And.intro ?aa ?_; case aa => (intros; exact inK64 (by omega))) | (refine And.intro ?aa ?_; case aa => (intros; simp only [decide_eq_true_eq] at *; omega)) | (intro q hq))
    have e2 : q = decide (((logL f l).length : Int) < r.done) := by
      subst_vars
      clear h h1 h2 h3
      rw [Bool.eq_iff_iff, decide_eq_true_eq]
      by_cases a1 : 0 < r.done
      · simp [a1, encL]
      · have : ¬ ((logL f l).length : Int) < r.done := by omega
        simp [a1, this]
    clear hq
    refine ⟨fun h4 => vle_int ?_, fun h4 => vle_int ?_⟩
    · rw [e2] at h4
      unfold repF
      rw [if_neg h1, if_neg h3, if_pos (of_decide_eq_true h4)]
    · rw [e2] at h4
      unfold repF
      rw [if_neg h1, if_neg h3, if_neg (of_decide_eq_false h4)]
  exact Eq.mp (by kernel_rfl) key
theorem so106 : Sound Tryz.prog 106 sp106 := by
  refine sound_of_body hmix (pol := 0) Tryz.func106 rfl (by kernel_rfl) fun args bin ob r bout hDe hob => ?_
  unfold sp106 at hDe
  split at hDe
  · rename_i a0 a1 a2
    cases hDe
    exact ⟨rfl, rfl, Nat.le_of_ble_eq_true (by kernel_rfl), cx106 a0 ((decL decMsg) a1) (decPReplica a2), Eq.mp (by kernel_rfl) htt, Eq.mp (by kernel_rfl) da106, Eq.mp (by kernel_rfl) (noM_sound (P := Tryz.prog)), by kernel_rfl, [.int .i64 (a0), encL (encMsg 1) 1 (((decL decMsg) a1)), encPReplica 1 ((decPReplica a2))], args_of_vles (⟨VLe.refl _, hob.1, hob.2.1, trivial⟩), Eq.mp (by kernel_rfl) (bd106 a0 ((decL decMsg) a1) (decPReplica a2) (hob.2.2))⟩
  · cases hDe

/-! ### spec.l11Asked -/
def pr63 (f : Int) (l : List Msg) (r : Replica) : Prop := bdL l
noncomputable def rs63 (f : Int) (l : List Msg) (r : Replica) : V := .int .i64 (replicaFault f l r)
noncomputable def sp63 : FSpec := fun args bin => match args, bin with
  | [.int .i64 a0, a1, a2], [] => some (VLe a1 (encL (encMsg 1) 1 (((decL decMsg) a1))) ∧ VLe a2 (encPReplica 1 ((decPReplica a2))) ∧ pr63 a0 ((decL decMsg) a1) (decPReplica a2), rs63 a0 ((decL decMsg) a1) (decPReplica a2), [])
  | _, _ => none
noncomputable def D63 : Nat → Option (Bool × FSpec) := lk [(48, (false, sp48)), (106, (false, sp106))]
theorem da63 : SoundAll Tryz.prog D63 := soundAll_cons so48 (soundAll_cons so106 (soundAll_nil))
noncomputable def cx63 (f : Int) (l : List Msg) (r : Replica) : Cx := ⟨tt, D63, Tryz.f63.ntmps, [0, 1, 2, 6, 7, 12], [], [], fun _ => none, [], noM, []⟩
theorem bd63 (f : Int) (l : List Msg) (r : Replica) (hpre : pr63 f l r) : bodyP (cx63 f l r) Tryz.f63 0 [.int .i64 (f), encL (encMsg 1) 1 (l), encPReplica 1 (r)] (fun rr => VLe rr (rs63 f l r)) := by
  have key :
      (((VLe (encL (encMsg 1) 1 l)
   (encL (encMsg 1) 1 (decL decMsg (encL (encMsg 1) 1 l)))) ∧
   (pr48 f (decL decMsg (encL (encMsg 1) 1 l)))) ∧
   ((((ledgerFault f (decL decMsg (encL (encMsg 1) 1 l)) != (0 : Int)) = true) →
   (VLe (V.int IntKind.i64 (ledgerFault f (decL decMsg (encL (encMsg 1) 1 l))))
   (V.int IntKind.i64 (replicaFault f l r)))) ∧
   (((ledgerFault f (decL decMsg (encL (encMsg 1) 1 l)) != (0 : Int)) = false) →
   (((VLe (encL (encMsg 1) 1 l)
   (encL (encMsg 1) 1 (decL decMsg (encL (encMsg 1) 1 l)))) ∧
   ((VLe (encPReplica 1 r) (encPReplica 1 (decPReplica (encPReplica 1 r)))) ∧
   (pr106 f (decL decMsg (encL (encMsg 1) 1 l)) (decPReplica (encPReplica 1 r))))) ∧
   (VLe
   (V.int IntKind.i64
   (repF f (decL decMsg (encL (encMsg 1) 1 l)) (decPReplica (encPReplica 1 r))
   (↑(List.length (logL f (decL decMsg (encL (encMsg 1) 1 l)))) : Int)))
   (V.int IntKind.i64 (replicaFault f l r))))))) := by
    simp only [decL_Msg, dec_encPReplica]
    refine ⟨⟨VLe.refl _, hpre⟩, fun h => ?_, fun h => ?_⟩
    · exact vle_int (by unfold replicaFault; rw [if_pos (by simpa using h)])
    · have h0 : ledgerFault f l = 0 := by simpa using h
      have hr := right_of h0
      exact ⟨⟨VLe.refl _, VLe.refl _, hr, hpre⟩, vle_int (by unfold replicaFault; rw [if_neg (not_not_intro h0)])⟩
  exact Eq.mp (by kernel_rfl) key
theorem so63 : Sound Tryz.prog 63 sp63 := by
  refine sound_of_body hmix (pol := 0) Tryz.func63 rfl (by kernel_rfl) fun args bin ob r bout hDe hob => ?_
  unfold sp63 at hDe
  split at hDe
  · rename_i a0 a1 a2
    cases hDe
    exact ⟨rfl, rfl, Nat.le_of_ble_eq_true (by kernel_rfl), cx63 a0 ((decL decMsg) a1) (decPReplica a2), Eq.mp (by kernel_rfl) htt, Eq.mp (by kernel_rfl) da63, Eq.mp (by kernel_rfl) (noM_sound (P := Tryz.prog)), by kernel_rfl, [.int .i64 (a0), encL (encMsg 1) 1 (((decL decMsg) a1)), encPReplica 1 ((decPReplica a2))], args_of_vles (⟨VLe.refl _, hob.1, hob.2.1, trivial⟩), Eq.mp (by kernel_rfl) (bd63 a0 ((decL decMsg) a1) (decPReplica a2) (hob.2.2))⟩
  · cases hDe

/-! ### spec.ReplicaFault -/
def pr21 (f : Int) (l : List Msg) (r : Replica) : Prop := bdL l
noncomputable def rs21 (f : Int) (l : List Msg) (r : Replica) : V := .int .i64 (replicaFault f l r)
noncomputable def sp21 : FSpec := fun args bin => match args, bin with
  | [.int .i64 a0, a1, a2], [] => some (VLe a1 (encL (encMsg 1) 1 (((decL decMsg) a1))) ∧ VLe a2 (encReplica 1 ((decReplica a2))) ∧ pr21 a0 ((decL decMsg) a1) (decReplica a2), rs21 a0 ((decL decMsg) a1) (decReplica a2), [])
  | _, _ => none
noncomputable def D21 : Nat → Option (Bool × FSpec) := lk [(63, (false, sp63))]
theorem da21 : SoundAll Tryz.prog D21 := soundAll_cons so63 (soundAll_nil)
noncomputable def cx21 (f : Int) (l : List Msg) (r : Replica) : Cx := ⟨tt, D21, Tryz.f21.ntmps, [0, 1, 2, 5, 6], [], [], fun _ => none, [], noM, []⟩
theorem bd21 (f : Int) (l : List Msg) (r : Replica) (hpre : pr21 f l r) : bodyP (cx21 f l r) Tryz.f21 0 [.int .i64 (f), encL (encMsg 1) 1 (l), encReplica 1 (r)] (fun rr => VLe rr (rs21 f l r)) := by
  have key :
      (((VLe (encL (encMsg 1) 1 l)
   (encL (encMsg 1) 1 (decL decMsg (encL (encMsg 1) 1 l)))) ∧
   ((VLe (encPReplica 1 r) (encPReplica 1 (decPReplica (encPReplica 1 r)))) ∧
   (pr63 f (decL decMsg (encL (encMsg 1) 1 l)) (decPReplica (encPReplica 1 r))))) ∧
   (VLe
   (V.int IntKind.i64
   (replicaFault f (decL decMsg (encL (encMsg 1) 1 l)) (decPReplica (encPReplica 1 r))))
   (V.int IntKind.i64 (replicaFault f l r)))) := by
    simp only [decL_Msg, dec_encPReplica, dec_encReplica]
    exact ⟨⟨VLe.refl _, VLe.refl _, hpre⟩, VLe.refl _⟩
  exact Eq.mp (by kernel_rfl) key
theorem so21 : Sound Tryz.prog 21 sp21 := by
  refine sound_of_body hmix (pol := 0) Tryz.func21 rfl (by kernel_rfl) fun args bin ob r bout hDe hob => ?_
  unfold sp21 at hDe
  split at hDe
  · rename_i a0 a1 a2
    cases hDe
    exact ⟨rfl, rfl, Nat.le_of_ble_eq_true (by kernel_rfl), cx21 a0 ((decL decMsg) a1) (decReplica a2), Eq.mp (by kernel_rfl) htt, Eq.mp (by kernel_rfl) da21, Eq.mp (by kernel_rfl) (noM_sound (P := Tryz.prog)), by kernel_rfl, [.int .i64 (a0), encL (encMsg 1) 1 (((decL decMsg) a1)), encReplica 1 ((decReplica a2))], args_of_vles (⟨VLe.refl _, hob.1, hob.2.1, trivial⟩), Eq.mp (by kernel_rfl) (bd21 a0 ((decL decMsg) a1) (decReplica a2) (hob.2.2))⟩
  · cases hDe

end Go.Av
