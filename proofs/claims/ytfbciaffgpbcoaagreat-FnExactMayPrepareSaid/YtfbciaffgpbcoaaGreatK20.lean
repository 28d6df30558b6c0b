/- What is wrong with a replica. -/
import Derived.Test.YtfbciaffgpbcoaaGreatK7
import Derived.Test.YtfbciaffgpbcoaaGreatF2
namespace Go.Av
open Go.Proofs
set_option maxRecDepth 100000
set_option linter.unusedVariables false
set_option linter.unusedSimpArgs false

noncomputable def repF (f : Int) (l : List Msg) (r : Replica) (long : Int) : Int :=
  if ¬ (inR r.id 1 (3 * f + 1) ∧ inR r.view 0 20 ∧ inR r.done 0 30) then 3
  else if r.start ≠ -1 ∧ (r.view = 0 ∨ ¬ (newOk f l r.start ∧ (atM l r.start).view = r.view)) then 1
  else if long < r.done then 8 else 0
noncomputable def replicaFault (f : Int) (l : List Msg) (r : Replica) : Int :=
  if ledgerFault f l ≠ 0 then ledgerFault f l else repF f l r (logL f l).length

theorem nd {p : Prop} [Decidable p] (h : (!decide p) = true) : ¬ p := by simpa using h
theorem pd {p : Prop} [Decidable p] (h : (!decide p) = false) : p := by simpa using h
theorem replica_right {f : Int} {l : List Msg} {r : Replica} (h : replicaFault f l r = 0) : Right f l ∧ inR r.view 0 20 := by
  unfold replicaFault at h
  split at h
  · contradiction
  · rename_i h0
    refine ⟨right_of (Classical.not_not.1 h0), ?_⟩
    unfold repF at h
    split at h
    · simp at h
    · rename_i h1
      exact (Classical.not_not.1 h1).2.1


/-! ### impl.replicaFault -/
def pr26 (f : Int) (l : List Msg) (r : Replica) (long : Int) : Prop := Right f l ∧ bdL l
noncomputable def rs26 (f : Int) (l : List Msg) (r : Replica) (long : Int) : V := .int .i64 (repF f l r long)
noncomputable def sp26 : FSpec := fun args bin => match args, bin with
  | [.int .i64 a0, a1, a2, .int .i64 a3], [] => some (VLe a1 (encL (encMsg 1) 1 (((decL decMsg) a1))) ∧ VLe a2 (encReplica 1 ((decReplica a2))) ∧ pr26 a0 ((decL decMsg) a1) (decReplica a2) a3, rs26 a0 ((decL decMsg) a1) (decReplica a2) a3, [])
  | _, _ => none
noncomputable def D26 : Nat → Option (Bool × FSpec) := lk [(46, (false, sp46)), (47, (false, sp47)), (48, (false, sp48)), (49, (false, sp49))]
theorem da26 : SoundAll Tryz.prog D26 := soundAll_cons so46 (soundAll_cons so47 (soundAll_cons so48 (soundAll_cons so49 (soundAll_nil))))
noncomputable def cx26 (f : Int) (l : List Msg) (r : Replica) (long : Int) : Cx := ⟨tt, D26, Tryz.f26.ntmps, [0, 1, 2, 3, 6, 8, 9, 27, 55], [], [], fun _ => none, [], noM, []⟩
theorem bd26 (f : Int) (l : List Msg) (r : Replica) (long : Int) (hpre : pr26 f l r long) : bodyP (cx26 f l r long) Tryz.f26 0 [.int .i64 (f), encL (encMsg 1) 1 (l), encReplica 1 (r), .int .i64 (long)] (fun rr => VLe rr (rs26 f l r long)) := by
  have key :
      ((pr46 f (Replica.id r)) ∧
   ((tq (!!decide (inR (Replica.id r) (1 : Int) ((3 : Int) * f + (1 : Int))))) ∧
   ((tq (!!decide (inR (Replica.id r) (1 : Int) ((3 : Int) * f + (1 : Int))))) ∧
   ((((!!decide (inR (Replica.id r) (1 : Int) ((3 : Int) * f + (1 : Int)))) = true) →
   (pr47 (Replica.view r))) ∧
   ((tq (!!decide (inR (Replica.id r) (1 : Int) ((3 : Int) * f + (1 : Int))))) ∧
   (((true = true) →
   (((!decide (inR (Replica.id r) (1 : Int) ((3 : Int) * f + (1 : Int)))) = false) →
   ((!!decide (inR (Replica.id r) (1 : Int) ((3 : Int) * f + (1 : Int)))) = true))) ∧
   (∀ b : Bool,
   ((b =
   bif !decide (inR (Replica.id r) (1 : Int) ((3 : Int) * f + (1 : Int))) then true
   else !decide (inR (Replica.view r) (0 : Int) (20 : Int))) →
   ((tq (!b)) ∧
   ((tq (!b)) ∧
   ((((!b) = true) →
   (pr48 (Replica.done r) (0 : Int) (30 : Int))) ∧
   ((tq (!b)) ∧
   (((true = true) →
   ((b = false) →
   ((!b) = true))) ∧
   (∀ b_1 : Bool,
   ((b_1 = bif b then true else !decide (inR (Replica.done r) (0 : Int) (30 : Int))) →
   (((b_1 = true) →
   (VLe (V.int IntKind.i64 (3 : Int)) (V.int IntKind.i64 (repF f l r long)))) ∧
   ((b_1 = false) →
   ((tq (Replica.start r != (-1 : Int))) ∧
   ((tq (Replica.start r != (-1 : Int))) ∧
   ((tq (Replica.start r != (-1 : Int))) ∧
   ((tq (Replica.start r != (-1 : Int) && !Replica.view r == (0 : Int))) ∧
   ((tq (Replica.start r != (-1 : Int) && !Replica.view r == (0 : Int))) ∧
   ((tq (Replica.start r != (-1 : Int) && !Replica.view r == (0 : Int))) ∧
   ((tq (Replica.start r != (-1 : Int) && !Replica.view r == (0 : Int))) ∧
   ((((Replica.start r != (-1 : Int) && !Replica.view r == (0 : Int)) = true) →
   ((VLe (encL (encMsg 1) 1 l)
   (encL (encMsg 1) 1 (decL decMsg (encL (encMsg 1) 1 l)))) ∧
   (pr49 f (decL decMsg (encL (encMsg 1) 1 l)) (Replica.start r)))) ∧
   ((tq (Replica.start r != (-1 : Int) && !Replica.view r == (0 : Int))) ∧
   ((tq (Replica.start r != (-1 : Int))) ∧
   ((((Replica.start r != (-1 : Int)) = true) →
   (((Replica.start r != (-1 : Int)) = true) →
   (((Replica.view r == (0 : Int)) = false) →
   ((Replica.start r != (-1 : Int) && !Replica.view r == (0 : Int)) = true)))) ∧
   (∀ b_2 : Bool,
   ((b_2 =
   bif Replica.view r == (0 : Int) then true
   else !decide (newOk f (decL decMsg (encL (encMsg 1) 1 l)) (Replica.start r))) →
   ((tq (Replica.start r != (-1 : Int))) ∧
   ((tq (Replica.start r != (-1 : Int) && !b_2)) ∧
   ((tq (Replica.start r != (-1 : Int) && !b_2)) ∧
   ((tq (Replica.start r != (-1 : Int) && !b_2)) ∧
   ((((Replica.start r != (-1 : Int) && !b_2) = true) →
   (((0 : Int) ≤ Replica.start r) ∧
   (Replica.start r < (↑(List.length l) : Int)))) ∧
   ((tq (Replica.start r != (-1 : Int) && !b_2)) ∧
   ((tq (Replica.start r != (-1 : Int) && !b_2)) ∧
   ((tq (Replica.start r != (-1 : Int) && !b_2)) ∧
   ((tq (Replica.start r != (-1 : Int) && !b_2)) ∧
   ((tq (Replica.start r != (-1 : Int) && !b_2)) ∧
   ((tq (Replica.start r != (-1 : Int))) ∧
   ((((Replica.start r != (-1 : Int)) = true) →
   (((Replica.start r != (-1 : Int)) = true) →
   ((b_2 = false) →
   ((Replica.start r != (-1 : Int) && !b_2) = true)))) ∧
   (∀ b_3 : Bool,
   ((b_3 = bif b_2 then true else Msg.view (List.getD l (Int.toNat (Replica.start r)) default) != Replica.view r) →
   (((true = true) →
   (((Replica.start r != (-1 : Int)) = true) →
   ((Replica.start r != (-1 : Int)) = true))) ∧
   (∀ b_4 : Bool,
   ((b_4 = bif Replica.start r != (-1 : Int) then b_3 else false) →
   (((b_4 = true) →
   (VLe (V.int IntKind.i64 (1 : Int)) (V.int IntKind.i64 (repF f l r long)))) ∧
   ((b_4 = false) →
   (((decide (Replica.done r > long) = true) →
   (VLe (V.int IntKind.i64 (8 : Int)) (V.int IntKind.i64 (repF f l r long)))) ∧
   ((decide (Replica.done r > long) = false) →
   (VLe (V.int IntKind.i64 (0 : Int)) (V.int IntKind.i64 (repF f l r long)))))))))))))))))))))))))))))))))))))))))))))))))))))) := by
    obtain ⟨hr, hl⟩ := hpre
    simp only [decL_Msg, dec_encReplica]
    repeat (first | (refine And.intro (fun h _ => h) ?_) | (refine And.intro (fun _ h => h) ?_) | (refine And.intro ?aa ?_; case aa => (exact hr.okf)) | (refine And.intro ?aa ?_; case aa => (exact trivial)) | (refine And.intro ?aa ?_; case aa => (exact fun _ => trivial)) | (refine And.intro ?aa ?_; case aa => (intros; simp_all [pr46, pr47, pr48, pr49]; done)) | (refine And.intro ?aa ?_; case aa => (intros; exact inK64 (by omega))) | (refine And.intro ?aa ?_; case aa => (intros; simp only [decide_eq_true_eq] at *; omega)) | (intro q hq))
    have e0 : q = decide (¬ (inR r.id 1 (3 * f + 1) ∧ inR r.view 0 20 ∧ inR r.done 0 30)) := by
      subst_vars
      rw [Bool.eq_iff_iff, decide_eq_true_eq]
      by_cases a1 : inR r.id 1 (3 * f + 1) <;> by_cases a2 : inR r.view 0 20 <;> by_cases a3 : inR r.done 0 30 <;> simp [a1, a2, a3]
    clear hq
    refine ⟨fun h => ?_, fun h => ?_⟩
    · rw [e0] at h
      exact vle_int (by unfold repF; rw [if_pos (of_decide_eq_true h)])
    rw [e0] at h
    have h1 := of_decide_eq_false h
    clear e0
    repeat (first | (refine And.intro (fun h _ => h) ?_) | (refine And.intro (fun _ h => h) ?_) | (refine And.intro ?aa ?_; case aa => (exact fun _ => ⟨VLe.refl _, hr, hl⟩)) | (refine And.intro ?aa ?_; case aa => (intros; simp_all [pr46, pr47, pr48, pr49]; done)) | (refine And.intro ?aa ?_; case aa => (intros; exact inK64 (by omega))) | (refine And.intro ?aa ?_; case aa => (intros; simp only [decide_eq_true_eq] at *; omega)) | (intro q hq))
    have hin : (r.start != -1 && !q) = true → 0 ≤ r.start ∧ r.start < l.length := by
      intro h2
      have h3 : newOk f l r.start := by
        rw [hq] at h2
        by_cases a1 : r.view = 0 <;> by_cases a2 : newOk f l r.start <;> simp_all
      have h4 := h3.1.1
      unfold inL inR at h4
      omega
    repeat (first | (refine And.intro (fun h _ => h) ?_) | (refine And.intro (fun _ h => h) ?_) | (refine And.intro ?aa ?_; case aa => (exact hin)) | (refine And.intro ?aa ?_; case aa => (intros; simp_all [pr46, pr47, pr48, pr49]; done)) | (refine And.intro ?aa ?_; case aa => (intros; exact inK64 (by omega))) | (refine And.intro ?aa ?_; case aa => (intros; simp only [decide_eq_true_eq] at *; omega)) | (intro q hq))
    have e1 : q = decide (r.start ≠ -1 ∧ (r.view = 0 ∨ ¬ (newOk f l r.start ∧ (atM l r.start).view = r.view))) := by
      subst_vars
      clear h h1
      rw [Bool.eq_iff_iff, decide_eq_true_eq]
      by_cases a1 : r.start = -1 <;> by_cases a2 : r.view = 0 <;> by_cases a3 : newOk f l r.start <;> simp [a1, a2, a3, atM]
    clear hq
    refine ⟨fun h2 => ?_, fun h2 => ?_⟩
    · rw [e1] at h2
      exact vle_int (by unfold repF; rw [if_neg h1, if_pos (of_decide_eq_true h2)])
    rw [e1] at h2
    have h3 := of_decide_eq_false h2
    clear e1
    refine ⟨fun h4 => vle_int ?_, fun h4 => vle_int ?_⟩
    · unfold repF
      rw [if_neg h1, if_neg h3, if_pos (by simpa using h4)]
    · unfold repF
      rw [if_neg h1, if_neg h3, if_neg (by simpa using h4)]
  exact Eq.mp (by kernel_rfl) key
theorem so26 : Sound Tryz.prog 26 sp26 := by
  refine sound_of_body hmix (pol := 0) Tryz.func26 rfl (by kernel_rfl) fun args bin ob r bout hDe hob => ?_
  unfold sp26 at hDe
  split at hDe
  · rename_i a0 a1 a2 a3
    cases hDe
    exact ⟨rfl, rfl, Nat.le_of_ble_eq_true (by kernel_rfl), cx26 a0 ((decL decMsg) a1) (decReplica a2) a3, Eq.mp (by kernel_rfl) htt, Eq.mp (by kernel_rfl) da26, Eq.mp (by kernel_rfl) (noM_sound (P := Tryz.prog)), by kernel_rfl, [.int .i64 (a0), encL (encMsg 1) 1 (((decL decMsg) a1)), encReplica 1 ((decReplica a2)), .int .i64 (a3)], args_of_vles (⟨VLe.refl _, hob.1, hob.2.1, VLe.refl _, trivial⟩), Eq.mp (by kernel_rfl) (bd26 a0 ((decL decMsg) a1) (decReplica a2) a3 (hob.2.2))⟩
  · cases hDe

/-! ### impl.ReplicaFault -/
def pr14 (f : Int) (l : List Msg) (r : Replica) : Prop := bdL l
noncomputable def rs14 (f : Int) (l : List Msg) (r : Replica) : V := .int .i64 (replicaFault f l r)
noncomputable def sp14 : FSpec := fun args bin => match args, bin with
  | [.int .i64 a0, a1, a2], [] => some (VLe a1 (encL (encMsg 1) 1 (((decL decMsg) a1))) ∧ VLe a2 (encReplica 1 ((decReplica a2))) ∧ pr14 a0 ((decL decMsg) a1) (decReplica a2), rs14 a0 ((decL decMsg) a1) (decReplica a2), [])
  | _, _ => none
noncomputable def D14 : Nat → Option (Bool × FSpec) := lk [(25, (false, sp25)), (27, (false, sp27o)), (26, (false, sp26))]
theorem da14 : SoundAll Tryz.prog D14 := soundAll_cons so25 (soundAll_cons so27o (soundAll_cons so26 (soundAll_nil)))
noncomputable def cx14 (f : Int) (l : List Msg) (r : Replica) : Cx := ⟨tt, D14, Tryz.f14.ntmps, [0, 1, 2, 5, 6, 7, 12], [], [], fun _ => none, [], noM, []⟩
theorem bd14 (f : Int) (l : List Msg) (r : Replica) (hpre : pr14 f l r) : bodyP (cx14 f l r) Tryz.f14 0 [.int .i64 (f), encL (encMsg 1) 1 (l), encReplica 1 (r)] (fun rr => VLe rr (rs14 f l r)) := by
  have key :
      (((VLe (encL (encMsg 1) 1 l)
   (encL (encMsg 1) 1 (decL decMsg (encL (encMsg 1) 1 l)))) ∧
   (pr25 f (decL decMsg (encL (encMsg 1) 1 l)))) ∧
   ((((ledgerFault f (decL decMsg (encL (encMsg 1) 1 l)) != (0 : Int)) = true) →
   (VLe (V.int IntKind.i64 (ledgerFault f (decL decMsg (encL (encMsg 1) 1 l))))
   (V.int IntKind.i64 (replicaFault f l r)))) ∧
   (((ledgerFault f (decL decMsg (encL (encMsg 1) 1 l)) != (0 : Int)) = false) →
   (((VLe (encL (encMsg 1) 1 l)
   (encL (encMsg 1) 1 (decL decMsg (encL (encMsg 1) 1 l)))) ∧
   (pr27o f (decL decMsg (encL (encMsg 1) 1 l)))) ∧
   (((VLe (encL (encMsg 1) 1 l)
   (encL (encMsg 1) 1 (decL decMsg (encL (encMsg 1) 1 l)))) ∧
   ((VLe (encReplica 1 r) (encReplica 1 (decReplica (encReplica 1 r)))) ∧
   (pr26 f (decL decMsg (encL (encMsg 1) 1 l)) (decReplica (encReplica 1 r))
   (↑(List.length (ro27o f (decL decMsg (encL (encMsg 1) 1 l)))) : Int)))) ∧
   (VLe
   (V.int IntKind.i64
   (repF f (decL decMsg (encL (encMsg 1) 1 l)) (decReplica (encReplica 1 r))
   (↑(List.length (ro27o f (decL decMsg (encL (encMsg 1) 1 l)))) : Int)))
   (V.int IntKind.i64 (replicaFault f l r)))))))) := by
    simp only [decL_Msg, dec_encReplica]
    refine ⟨⟨VLe.refl _, hpre⟩, fun h => ?_, fun h => ?_⟩
    · exact vle_int (by unfold replicaFault; rw [if_pos (by simpa using h)])
    · have h0 : ledgerFault f l = 0 := by simpa using h
      have hr := right_of h0
      exact ⟨⟨VLe.refl _, hr, hpre⟩, ⟨VLe.refl _, VLe.refl _, hr, hpre⟩, vle_int (by unfold replicaFault; rw [if_neg (not_not_intro h0)]; rfl)⟩
  exact Eq.mp (by kernel_rfl) key
theorem so14 : Sound Tryz.prog 14 sp14 := by
  refine sound_of_body hmix (pol := 0) Tryz.func14 rfl (by kernel_rfl) fun args bin ob r bout hDe hob => ?_
  unfold sp14 at hDe
  split at hDe
  · rename_i a0 a1 a2
    cases hDe
    exact ⟨rfl, rfl, Nat.le_of_ble_eq_true (by kernel_rfl), cx14 a0 ((decL decMsg) a1) (decReplica a2), Eq.mp (by kernel_rfl) htt, Eq.mp (by kernel_rfl) da14, Eq.mp (by kernel_rfl) (noM_sound (P := Tryz.prog)), by kernel_rfl, [.int .i64 (a0), encL (encMsg 1) 1 (((decL decMsg) a1)), encReplica 1 ((decReplica a2))], args_of_vles (⟨VLe.refl _, hob.1, hob.2.1, trivial⟩), Eq.mp (by kernel_rfl) (bd14 a0 ((decL decMsg) a1) (decReplica a2) (hob.2.2))⟩
  · cases hDe

/-! ### spec.l9Log -/
def pr37 (f : Int) (l : List Msg) : Prop := Right f l ∧ bdL l
noncomputable def rs37 (f : Int) (l : List Msg) : V := encL encI 2 (logL f l)
noncomputable def sp37 : FSpec := fun args bin => match args, bin with
  | [.int .i64 a0, a1], [] => some (VLe a1 (encL (encMsg 1) 1 (((decL decMsg) a1))) ∧ pr37 a0 ((decL decMsg) a1), rs37 a0 ((decL decMsg) a1), [])
  | _, _ => none
noncomputable def in37_3 (f : Int) (l : List Msg) : LoopInv :=
  ⟨Nat × List Int, fun p => ⟨[(0, .int .i64 f), (1, encL (encMsg 1) 1 l), (4, .nil), (5, .osl (canonT 5) p.2.length), (6, .int .i64 (p.1 + 1))], [(canonT 5, .arr 1 p.2.length (gL encI p.2) tagS)]⟩,
    fun p => p.1 ≤ 30 ∧ p.2.length ≤ p.1 ∧ logL f l = p.2 ++ logFrom f l (p.1 + 1) (30 - p.1), fun p => 30 - p.1⟩
noncomputable def iv37 (f : Int) (l : List Msg) : Nat → Option LoopInv := fun rg_ => match rg_ with
  | 3 => some (in37_3 f l)
  | _ => none
noncomputable def D37 : Nat → Option (Bool × FSpec) := lk [(60, (false, sp60o))]
theorem da37 : SoundAll Tryz.prog D37 := soundAll_cons so60o (soundAll_nil)
noncomputable def cx37 (f : Int) (l : List Msg) : Cx := ⟨tt, D37, Tryz.f37.ntmps, [0, 1, 4, 5, 6, 7, 10, 19], [(3, ⟨[(0, none), (1, none), (4, none), (5, some 1), (6, none)], []⟩)], [], iv37 f l, [], noM, []⟩
theorem bd37 (f : Int) (l : List Msg) (hpre : pr37 f l) : bodyP (cx37 f l) Tryz.f37 1 [.int .i64 (f), encL (encMsg 1) 1 (l)] (fun rr => VLe rr (rs37 f l)) := by
  have key :
      ((∃ x : Nat × List Int, ((SLe
   (AS.mk
   [(0, V.int IntKind.i64 f), (1, encL (encMsg 1) 1 l), (4, V.nil),
   (5, V.osl 32000384 0), (6, V.int IntKind.i64 (1 : Int))]
   [(32000384, Blk.arr 1 0 (rowg []) 100)])
   (AS.mk
   [(0, V.int IntKind.i64 f), (1, encL (encMsg 1) 1 l), (4, V.nil),
   (5, V.osl 32000384 (List.length (Prod.snd x))),
   (6, V.int IntKind.i64 ((↑(Prod.fst x) : Int) + (1 : Int)))]
   [(32000384, Blk.arr 1 (List.length (Prod.snd x)) (gL encI (Prod.snd x)) 100)])) ∧
   ((Prod.fst x ≤ 30) ∧
   ((List.length (Prod.snd x) ≤ Prod.fst x) ∧
   (logL f l = Prod.snd x ++ logFrom f l (Prod.fst x + 1) (30 - Prod.fst x)))))) ∧
   (∀ x : Nat × List Int,
   (((Prod.fst x ≤ 30) ∧
   ((List.length (Prod.snd x) ≤ Prod.fst x) ∧
   (logL f l = Prod.snd x ++ logFrom f l (Prod.fst x + 1) (30 - Prod.fst x)))) →
   (((decide ((↑(Prod.fst x) : Int) + (1 : Int) ≤ (30 : Int)) = true) →
   (((VLe (encL (encMsg 1) 1 l)
   (encL (encMsg 1) 1 (decL decMsg (encL (encMsg 1) 1 l)))) ∧
   (pr60o f (decL decMsg (encL (encMsg 1) 1 l)) ((↑(Prod.fst x) : Int) + (1 : Int)))) ∧
   (((((↑(List.length (ro60o f (decL decMsg (encL (encMsg 1) 1 l)) ((↑(Prod.fst x) : Int) + (1 : Int)))) :
   Int) ==
   (0 : Int)) =
   true) →
   (VLe (encL encI 2 (Prod.snd x)) (encL encI 2 (logL f l)))) ∧
   ((((↑(List.length (ro60o f (decL decMsg (encL (encMsg 1) 1 l)) ((↑(Prod.fst x) : Int) + (1 : Int)))) :
   Int) ==
   (0 : Int)) =
   false) →
   ((((0 : Int) ≤ (0 : Int)) ∧
   ((0 : Int) <
   (↑(List.length (ro60o f (decL decMsg (encL (encMsg 1) 1 l)) ((↑(Prod.fst x) : Int) + (1 : Int)))) :
   Int))) ∧
   ((0 <
   List.length (ro60o f (decL decMsg (encL (encMsg 1) 1 l)) ((↑(Prod.fst x) : Int) + (1 : Int)))) ∧
   ((List.length (Prod.snd x) = List.length (Prod.snd x)) ∧
   ((List.length (Prod.snd x) + 1 ≤ 1073741824) ∧
   ((sizedL 1 1
   (rowg
   [V.int IntKind.i64
   (List.getD (ro60o f (decL decMsg (encL (encMsg 1) 1 l)) ((↑(Prod.fst x) : Int) + (1 : Int)))
   0 default)])) ∧
   ((inK IntKind.i64 ((↑(Prod.fst x) : Int) + (1 : Int) + (1 : Int))) ∧
   (∃ y : Nat × List Int, ((SLe
   (AS.mk
   [(0, V.int IntKind.i64 f), (1, encL (encMsg 1) 1 l), (4, V.nil),
   (5, V.osl 32000384 (List.length (Prod.snd x) + 1)),
   (6, V.int IntKind.i64 ((↑(Prod.fst x) : Int) + (1 : Int) + (1 : Int)))]
   [(32000384,
   Blk.arr 1 (List.length (Prod.snd x) + 1)
   (appg (List.length (Prod.snd x)) (gL encI (Prod.snd x))
   (rowg
   [V.int IntKind.i64
   (List.getD
   (ro60o f (decL decMsg (encL (encMsg 1) 1 l)) ((↑(Prod.fst x) : Int) + (1 : Int)))
   0 default)]))
   100)])
   (AS.mk
   [(0, V.int IntKind.i64 f), (1, encL (encMsg 1) 1 l), (4, V.nil),
   (5, V.osl 32000384 (List.length (Prod.snd y))),
   (6, V.int IntKind.i64 ((↑(Prod.fst y) : Int) + (1 : Int)))]
   [(32000384, Blk.arr 1 (List.length (Prod.snd y)) (gL encI (Prod.snd y)) 100)])) ∧
   (((Prod.fst y ≤ 30) ∧
   ((List.length (Prod.snd y) ≤ Prod.fst y) ∧
   (logL f l = Prod.snd y ++ logFrom f l (Prod.fst y + 1) (30 - Prod.fst y)))) ∧
   (30 - Prod.fst y < 30 - Prod.fst x)))))))))))))) ∧
   ((decide ((↑(Prod.fst x) : Int) + (1 : Int) ≤ (30 : Int)) = false) →
   (VLe (encL encI 2 (Prod.snd x)) (encL encI 2 (logL f l)))))))) := by
    obtain ⟨hr, hl⟩ := hpre
    simp only [decL_Msg, ro60o]
    refine ⟨⟨(0, []), sle_of ⟨rfl, VLe.refl _, rfl, VLe.refl _, rfl, VLe.refl _, rfl, VLe.refl _, rfl, VLe.refl _, trivial⟩ ⟨rfl, ble_nil _, trivial⟩, by simp, by simp, by simp [logL]⟩, ?_⟩
    rintro ⟨i, out⟩ ⟨hi, ho, hj⟩
    simp only at hi ho hj ⊢
    refine ⟨fun h => ?_, fun h => ?_⟩
    · have hlt : i < 30 := by simp at h; omega
      have hs : logFrom f l (i + 1) (30 - i) = match decidedL f l ((i : Int) + 1) with
        | [] => []
        | v :: _ => v :: logFrom f l (i + 1 + 1) (30 - (i + 1)) := by
        have e1 : 30 - i = (30 - (i + 1)) + 1 := by omega
        rw [e1]
        rfl
      refine ⟨⟨VLe.refl _, hr, hl⟩, fun h2 => ?_, fun h2 => ?_⟩
      · have hn : decidedL f l ((i : Int) + 1) = [] := List.length_eq_zero_iff.1 (by simpa using h2)
        rw [hn] at hs
        rw [hj, hs, List.append_nil]
        exact VLe.refl _
      · have hn : decidedL f l ((i : Int) + 1) ≠ [] := fun e => by rw [e] at h2; simp at h2
        obtain ⟨v, r, he⟩ : ∃ v r, decidedL f l ((i : Int) + 1) = v :: r := by
          cases hc : decidedL f l ((i : Int) + 1) with
          | nil => exact absurd hc hn
          | cons v r => exact ⟨v, r, rfl⟩
        rw [he] at hs ⊢
        simp only at hs
        refine ⟨⟨by omega, by simp only [List.length_cons]; omega⟩, by simp, trivial, by omega, fun k hk => ?_, inK64 (by omega), (i + 1, out ++ [v]), ?_, ⟨by simp only; omega, by simp only [List.length_append, List.length_singleton]; omega, ?_⟩, by simp only; omega⟩
        · have hk0 : k = 0 := by omega
          subst hk0
          exact ⟨rfl, rfl⟩
        · simp only [List.length_append, List.length_singleton]
          exact sle_of ⟨rfl, VLe.refl _, rfl, VLe.refl _, rfl, VLe.refl _, rfl, VLe.refl _, rfl, vle_int (by simp only [Int.natCast_add, Int.cast_ofNat_Int]), trivial⟩ ⟨rfl, ble_push rfl rfl, trivial⟩
        · simp only
          rw [hj, hs]
          simp
    · have : i = 30 := by simp at h; omega
      subst this
      have e : logL f l = out := by rw [hj]; simp [logFrom]
      rw [e]
      exact VLe.refl _
  exact Eq.mp (by kernel_rfl) key
theorem so37 : Sound Tryz.prog 37 sp37 := by
  refine sound_of_body hmix (pol := 1) Tryz.func37 rfl (by kernel_rfl) fun args bin ob r bout hDe hob => ?_
  unfold sp37 at hDe
  split at hDe
  · rename_i a0 a1
    cases hDe
    exact ⟨rfl, rfl, Nat.le_of_ble_eq_true (by kernel_rfl), cx37 a0 ((decL decMsg) a1), Eq.mp (by kernel_rfl) htt, Eq.mp (by kernel_rfl) da37, Eq.mp (by kernel_rfl) (noM_sound (P := Tryz.prog)), by kernel_rfl, [.int .i64 (a0), encL (encMsg 1) 1 (((decL decMsg) a1))], args_of_vles (⟨VLe.refl _, hob.1, trivial⟩), Eq.mp (by kernel_rfl) (bd37 a0 ((decL decMsg) a1) (hob.2))⟩
  · cases hDe

/-! ### spec.l11Fault -/
def pr20 (f : Int) (l : List Msg) (r : Replica) : Prop := Right f l ∧ bdL l
noncomputable def rs20 (f : Int) (l : List Msg) (r : Replica) : V := .int .i64 (repF f l r (logL f l).length)
noncomputable def sp20 : FSpec := fun args bin => match args, bin with
  | [.int .i64 a0, a1, a2], [] => some (VLe a1 (encL (encMsg 1) 1 (((decL decMsg) a1))) ∧ VLe a2 (encPReplica 1 ((decPReplica a2))) ∧ pr20 a0 ((decL decMsg) a1) (decPReplica a2), rs20 a0 ((decL decMsg) a1) (decPReplica a2), [])
  | _, _ => none
noncomputable def D20 : Nat → Option (Bool × FSpec) := lk [(34, (false, sp34)), (35, (false, sp35)), (36, (false, sp36)), (37, (false, sp37))]
theorem da20 : SoundAll Tryz.prog D20 := soundAll_cons so34 (soundAll_cons so35 (soundAll_cons so36 (soundAll_cons so37 (soundAll_nil))))
noncomputable def cx20 (f : Int) (l : List Msg) (r : Replica) : Cx := ⟨tt, D20, Tryz.f20.ntmps, [0, 1, 2, 6, 29, 55, 71], [], [], fun _ => none, [], noM, []⟩
theorem bd20 (f : Int) (l : List Msg) (r : Replica) (hpre : pr20 f l r) : bodyP (cx20 f l r) Tryz.f20 0 [.int .i64 (f), encL (encMsg 1) 1 (l), encPReplica 1 (r)] (fun rr => VLe rr (rs20 f l r)) := by
  have key :
      ((pr34 f (Replica.id r)) ∧
   ((tq (!!decide (inR (Replica.id r) (1 : Int) ((3 : Int) * f + (1 : Int))))) ∧
   ((tq (!!decide (inR (Replica.id r) (1 : Int) ((3 : Int) * f + (1 : Int))))) ∧
   ((tq (!!decide (inR (Replica.id r) (1 : Int) ((3 : Int) * f + (1 : Int))))) ∧
   ((tq (!!decide (inR (Replica.id r) (1 : Int) ((3 : Int) * f + (1 : Int))))) ∧
   ((((!!decide (inR (Replica.id r) (1 : Int) ((3 : Int) * f + (1 : Int)))) = true) →
   (pr35 (Replica.view r) (0 : Int) (20 : Int))) ∧
   ((tq (!!decide (inR (Replica.id r) (1 : Int) ((3 : Int) * f + (1 : Int))))) ∧
   (((true = true) →
   (((!decide (inR (Replica.id r) (1 : Int) ((3 : Int) * f + (1 : Int)))) = false) →
   ((!!decide (inR (Replica.id r) (1 : Int) ((3 : Int) * f + (1 : Int)))) = true))) ∧
   (∀ b : Bool,
   ((b =
   bif !decide (inR (Replica.id r) (1 : Int) ((3 : Int) * f + (1 : Int))) then true
   else !decide (inR (Replica.view r) (0 : Int) (20 : Int))) →
   ((tq (!b)) ∧
   ((tq (!b)) ∧
   ((tq (!b)) ∧
   ((tq (!b)) ∧
   ((((!b) = true) →
   (pr35 (Replica.done r) (0 : Int) (30 : Int))) ∧
   ((tq (!b)) ∧
   (((true = true) →
   ((b = false) →
   ((!b) = true))) ∧
   (∀ b_1 : Bool,
   ((b_1 = bif b then true else !decide (inR (Replica.done r) (0 : Int) (30 : Int))) →
   (((b_1 = true) →
   (VLe (V.int IntKind.i64 (3 : Int)) (V.int IntKind.i64 (repF f l r (↑(List.length (logL f l)) : Int))))) ∧
   ((b_1 = false) →
   ((tq (Replica.start r != (-1 : Int))) ∧
   ((tq (Replica.start r != (-1 : Int))) ∧
   ((tq (Replica.start r != (-1 : Int))) ∧
   ((tq (Replica.start r != (-1 : Int))) ∧
   ((tq (Replica.start r != (-1 : Int))) ∧
   ((tq (Replica.start r != (-1 : Int) && !Replica.view r == (0 : Int))) ∧
   ((tq (Replica.start r != (-1 : Int) && !Replica.view r == (0 : Int))) ∧
   ((tq (Replica.start r != (-1 : Int) && !Replica.view r == (0 : Int))) ∧
   ((tq (Replica.start r != (-1 : Int) && !Replica.view r == (0 : Int))) ∧
   ((tq (Replica.start r != (-1 : Int) && !Replica.view r == (0 : Int))) ∧
   ((tq (Replica.start r != (-1 : Int) && !Replica.view r == (0 : Int))) ∧
   ((tq (Replica.start r != (-1 : Int) && !Replica.view r == (0 : Int))) ∧
   ((tq (Replica.start r != (-1 : Int) && !Replica.view r == (0 : Int))) ∧
   ((tq (Replica.start r != (-1 : Int) && !Replica.view r == (0 : Int))) ∧
   ((tq (Replica.start r != (-1 : Int) && !Replica.view r == (0 : Int))) ∧
   ((((Replica.start r != (-1 : Int) && !Replica.view r == (0 : Int)) = true) →
   ((VLe (encL (encMsg 1) 1 l)
   (encL (encMsg 1) 1 (decL decMsg (encL (encMsg 1) 1 l)))) ∧
   (pr36 f (decL decMsg (encL (encMsg 1) 1 l)) (Replica.view r) (Replica.start r)))) ∧
   ((tq (Replica.start r != (-1 : Int) && !Replica.view r == (0 : Int))) ∧
   ((tq (Replica.start r != (-1 : Int))) ∧
   ((((Replica.start r != (-1 : Int)) = true) →
   (((Replica.start r != (-1 : Int)) = true) →
   (((Replica.view r == (0 : Int)) = false) →
   ((Replica.start r != (-1 : Int) && !Replica.view r == (0 : Int)) = true)))) ∧
   (∀ b_2 : Bool,
   ((b_2 =
   bif Replica.view r == (0 : Int) then true
   else
   !decide
   (if Replica.view r = (0 : Int) then Replica.start r = (-1 : Int)
   else
   newOk f (decL decMsg (encL (encMsg 1) 1 l)) (Replica.start r) ∧
   Msg.view (atM (decL decMsg (encL (encMsg 1) 1 l)) (Replica.start r)) = Replica.view r)) →
   (((true = true) →
   (((Replica.start r != (-1 : Int)) = true) →
   ((Replica.start r != (-1 : Int)) = true))) ∧
   (∀ b_3 : Bool,
   ((b_3 = bif Replica.start r != (-1 : Int) then b_2 else false) →
   (((b_3 = true) →
   (VLe (V.int IntKind.i64 (1 : Int)) (V.int IntKind.i64 (repF f l r (↑(List.length (logL f l)) : Int))))) ∧
   ((b_3 = false) →
   ((tq (decide (Replica.done r > (0 : Int)))) ∧
   ((tq (decide (Replica.done r > (0 : Int)))) ∧
   ((tq (decide (Replica.done r > (0 : Int)))) ∧
   ((tq (decide (Replica.done r > (0 : Int)))) ∧
   ((tq (decide (Replica.done r > (0 : Int)))) ∧
   (((decide (Replica.done r > (0 : Int)) = true) →
   ((VLe (encL (encMsg 1) 1 l)
   (encL (encMsg 1) 1 (decL decMsg (encL (encMsg 1) 1 l)))) ∧
   (pr37 f (decL decMsg (encL (encMsg 1) 1 l))))) ∧
   ((tq (decide (Replica.done r > (0 : Int)))) ∧
   ((tq (decide (Replica.done r > (0 : Int)))) ∧
   ((tq (decide (Replica.done r > (0 : Int)))) ∧
   (((true = true) →
   ((decide (Replica.done r > (0 : Int)) = true) →
   (decide (Replica.done r > (0 : Int)) = true))) ∧
   (∀ b_4 : Bool,
   ((b_4 =
   bif decide (Replica.done r > (0 : Int)) then
   decide (Replica.done r > (↑(List.length (logL f (decL decMsg (encL (encMsg 1) 1 l)))) : Int))
   else false) →
   (((b_4 = true) →
   (VLe (V.int IntKind.i64 (8 : Int)) (V.int IntKind.i64 (repF f l r (↑(List.length (logL f l)) : Int))))) ∧
   ((b_4 = false) →
   (VLe (V.int IntKind.i64 (0 : Int)) (V.int IntKind.i64 (repF f l r (↑(List.length (logL f l)) : Int))))))))))))))))))))))))))))))))))))))))))))))))))))))))))))))))) := by
    obtain ⟨hr, hl⟩ := hpre
    simp only [decL_Msg, dec_encPReplica]
    repeat (first | (refine And.intro (fun h _ => h) ?_) | (refine And.intro (fun _ h => h) ?_) | (refine And.intro ?aa ?_; case aa => (exact hr.okf)) | (refine And.intro ?aa ?_; case aa => (exact trivial)) | (refine And.intro ?aa ?_; case aa => (exact fun _ => trivial)) | (refine And.intro ?aa ?_; case aa => (intros; simp_all [pr34, pr35, pr36, pr37]; done)) | (refine And.intro ?aa ?_; case aa => (intros; exact inK64 (by omega))) | (refine And.intro ?aa ?_; case aa => (intros; simp only [decide_eq_true_eq] at *; omega)) | (intro q hq))
    have e0 : q = decide (¬ (inR r.id 1 (3 * f + 1) ∧ inR r.view 0 20 ∧ inR r.done 0 30)) := by
      subst_vars
      rw [Bool.eq_iff_iff, decide_eq_true_eq]
      by_cases a1 : inR r.id 1 (3 * f + 1) <;> by_cases a2 : inR r.view 0 20 <;> by_cases a3 : inR r.done 0 30 <;> simp [a1, a2, a3]
    clear hq
    refine ⟨fun h => ?_, fun h => ?_⟩
    · rw [e0] at h
      exact vle_int (by unfold repF; rw [if_pos (of_decide_eq_true h)])
    rw [e0] at h
    have h1 := of_decide_eq_false h
    clear e0
    repeat (first | (refine And.intro (fun h _ => h) ?_) | (refine And.intro (fun _ h => h) ?_) | (refine And.intro ?aa ?_; case aa => (exact fun _ => ⟨VLe.refl _, hr, hl⟩)) | (refine And.intro ?aa ?_; case aa => (intros; simp_all [pr34, pr35, pr36, pr37]; done)) | (refine And.intro ?aa ?_; case aa => (intros; exact inK64 (by omega))) | (refine And.intro ?aa ?_; case aa => (intros; simp only [decide_eq_true_eq] at *; omega)) | (intro q hq))
    have e1 : q = decide (r.start ≠ -1 ∧ (r.view = 0 ∨ ¬ (newOk f l r.start ∧ (atM l r.start).view = r.view))) := by
      subst_vars
      clear h h1
      rw [Bool.eq_iff_iff, decide_eq_true_eq]
      by_cases a1 : r.start = -1 <;> by_cases a2 : r.view = 0 <;> by_cases a3 : newOk f l r.start <;> simp [a1, a2, a3]
    clear hq
    refine ⟨fun h2 => ?_, fun h2 => ?_⟩
    · rw [e1] at h2
      exact vle_int (by unfold repF; rw [if_neg h1, if_pos (of_decide_eq_true h2)])
    rw [e1] at h2
    have h3 := of_decide_eq_false h2
    clear e1
    repeat (first | (refine And.intro (fun h _ => h) ?_) | (refine And.intro (fun _ h => h) ?_) | (refine And.intro ?aa ?_; case aa => (exact fun _ => ⟨VLe.refl _, hr, hl⟩)) | (refine And.intro ?aa ?_; case aa => (intros; simp_all [pr34, pr35, pr36, pr37]; done)) | (refine And.intro ?aa ?_; case aa => (intros; exact inK64 (by omega))) | (refine And.intro ?aa ?_; case aa => (intros; simp only [decide_eq_true_eq] at *; omega)) | (intro q hq))
    have e2 : q = decide (((logL f l).length : Int) < r.done) := by
      subst_vars
      clear h h1 h2 h3
      rw [Bool.eq_iff_iff, decide_eq_true_eq]
      by_cases a1 : 0 < r.done
      · simp [a1, encL]
      · have : ¬ ((logL f l).length : Int) < r.done := by omega
        simp [a1, this]
    clear hq
    refine ⟨fun h4 => vle_int ?_, fun h4 => vle_int ?_⟩
    · rw [e2] at h4
      unfold repF
      rw [if_neg h1, if_neg h3, if_pos (of_decide_eq_true h4)]
    · rw [e2] at h4
      unfold repF
      rw [if_neg h1, if_neg h3, if_neg (of_decide_eq_false h4)]
  exact Eq.mp (by kernel_rfl) key
theorem so20 : Sound Tryz.prog 20 sp20 := by
  refine sound_of_body hmix (pol := 0) Tryz.func20 rfl (by kernel_rfl) fun args bin ob r bout hDe hob => ?_
  unfold sp20 at hDe
  split at hDe
  · rename_i a0 a1 a2
    cases hDe
    exact ⟨rfl, rfl, Nat.le_of_ble_eq_true (by kernel_rfl), cx20 a0 ((decL decMsg) a1) (decPReplica a2), Eq.mp (by kernel_rfl) htt, Eq.mp (by kernel_rfl) da20, Eq.mp (by kernel_rfl) (noM_sound (P := Tryz.prog)), by kernel_rfl, [.int .i64 (a0), encL (encMsg 1) 1 (((decL decMsg) a1)), encPReplica 1 ((decPReplica a2))], args_of_vles (⟨VLe.refl _, hob.1, hob.2.1, trivial⟩), Eq.mp (by kernel_rfl) (bd20 a0 ((decL decMsg) a1) (decPReplica a2) (hob.2.2))⟩
  · cases hDe

/-! ### spec.l11Asked -/
def pr11 (f : Int) (l : List Msg) (r : Replica) : Prop := bdL l
noncomputable def rs11 (f : Int) (l : List Msg) (r : Replica) : V := .int .i64 (replicaFault f l r)
noncomputable def sp11 : FSpec := fun args bin => match args, bin with
  | [.int .i64 a0, a1, a2], [] => some (VLe a1 (encL (encMsg 1) 1 (((decL decMsg) a1))) ∧ VLe a2 (encPReplica 1 ((decPReplica a2))) ∧ pr11 a0 ((decL decMsg) a1) (decPReplica a2), rs11 a0 ((decL decMsg) a1) (decPReplica a2), [])
  | _, _ => none
noncomputable def D11 : Nat → Option (Bool × FSpec) := lk [(19, (false, sp19)), (20, (false, sp20))]
theorem da11 : SoundAll Tryz.prog D11 := soundAll_cons so19 (soundAll_cons so20 (soundAll_nil))
noncomputable def cx11 (f : Int) (l : List Msg) (r : Replica) : Cx := ⟨tt, D11, Tryz.f11.ntmps, [0, 1, 2, 6, 7, 12], [], [], fun _ => none, [], noM, []⟩
theorem bd11 (f : Int) (l : List Msg) (r : Replica) (hpre : pr11 f l r) : bodyP (cx11 f l r) Tryz.f11 0 [.int .i64 (f), encL (encMsg 1) 1 (l), encPReplica 1 (r)] (fun rr => VLe rr (rs11 f l r)) := by
  have key :
      (((VLe (encL (encMsg 1) 1 l)
   (encL (encMsg 1) 1 (decL decMsg (encL (encMsg 1) 1 l)))) ∧
   (pr19 f (decL decMsg (encL (encMsg 1) 1 l)))) ∧
   ((((ledgerFault f (decL decMsg (encL (encMsg 1) 1 l)) != (0 : Int)) = true) →
   (VLe (V.int IntKind.i64 (ledgerFault f (decL decMsg (encL (encMsg 1) 1 l))))
   (V.int IntKind.i64 (replicaFault f l r)))) ∧
   (((ledgerFault f (decL decMsg (encL (encMsg 1) 1 l)) != (0 : Int)) = false) →
   (((VLe (encL (encMsg 1) 1 l)
   (encL (encMsg 1) 1 (decL decMsg (encL (encMsg 1) 1 l)))) ∧
   ((VLe (encPReplica 1 r) (encPReplica 1 (decPReplica (encPReplica 1 r)))) ∧
   (pr20 f (decL decMsg (encL (encMsg 1) 1 l)) (decPReplica (encPReplica 1 r))))) ∧
   (VLe
   (V.int IntKind.i64
   (repF f (decL decMsg (encL (encMsg 1) 1 l)) (decPReplica (encPReplica 1 r))
   (↑(List.length (logL f (decL decMsg (encL (encMsg 1) 1 l)))) : Int)))
   (V.int IntKind.i64 (replicaFault f l r))))))) := by
    simp only [decL_Msg, dec_encPReplica]
    refine ⟨⟨VLe.refl _, hpre⟩, fun h => ?_, fun h => ?_⟩
    · exact vle_int (by unfold replicaFault; rw [if_pos (by simpa using h)])
    · have h0 : ledgerFault f l = 0 := by simpa using h
      have hr := right_of h0
      exact ⟨⟨VLe.refl _, VLe.refl _, hr, hpre⟩, vle_int (by unfold replicaFault; rw [if_neg (not_not_intro h0)])⟩
  exact Eq.mp (by kernel_rfl) key
theorem so11 : Sound Tryz.prog 11 sp11 := by
  refine sound_of_body hmix (pol := 0) Tryz.func11 rfl (by kernel_rfl) fun args bin ob r bout hDe hob => ?_
  unfold sp11 at hDe
  split at hDe
  · rename_i a0 a1 a2
    cases hDe
    exact ⟨rfl, rfl, Nat.le_of_ble_eq_true (by kernel_rfl), cx11 a0 ((decL decMsg) a1) (decPReplica a2), Eq.mp (by kernel_rfl) htt, Eq.mp (by kernel_rfl) da11, Eq.mp (by kernel_rfl) (noM_sound (P := Tryz.prog)), by kernel_rfl, [.int .i64 (a0), encL (encMsg 1) 1 (((decL decMsg) a1)), encPReplica 1 ((decPReplica a2))], args_of_vles (⟨VLe.refl _, hob.1, hob.2.1, trivial⟩), Eq.mp (by kernel_rfl) (bd11 a0 ((decL decMsg) a1) (decPReplica a2) (hob.2.2))⟩
  · cases hDe

end Go.Av
