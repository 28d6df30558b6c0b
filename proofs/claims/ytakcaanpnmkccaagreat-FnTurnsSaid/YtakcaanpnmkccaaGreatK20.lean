/- What is wrong with a replica. -/
import Derived.Test.YtakcaanpnmkccaaGreatK7
import Derived.Test.YtakcaanpnmkccaaGreatF2
namespace Go.Av
open Go.Proofs
set_option maxRecDepth 100000
set_option linter.unusedVariables false
set_option linter.unusedSimpArgs false

noncomputable def repF (f : Int) (l : List Msg) (r : Replica) (long : Int) : Int :=
  if ¬ (inR r.id 1 (3 * f + 1) ∧ inR r.view 0 20 ∧ inR r.done 0 30) then 3
  else if r.start ≠ -1 ∧ (r.view = 0 ∨ ¬ (newOk f l r.start ∧ (atM l r.start).view = r.view)) then 1
  else if long < r.done then 8 else 0
noncomputable def replicaFault (f : Int) (l : List Msg) (r : Replica) : Int :=
  if ledgerFault f l ≠ 0 then ledgerFault f l else repF f l r (logL f l).length

theorem nd {p : Prop} [Decidable p] (h : (!decide p) = true) : ¬ p := by simpa using h
theorem pd {p : Prop} [Decidable p] (h : (!decide p) = false) : p := by simpa using h
theorem replica_right {f : Int} {l : List Msg} {r : Replica} (h : replicaFault f l r = 0) : Right f l ∧ inR r.view 0 20 := by
  unfold replicaFault at h
  split at h
  · contradiction
  · rename_i h0
    refine ⟨right_of (Classical.not_not.1 h0), ?_⟩
    unfold repF at h
    split at h
    · simp at h
    · rename_i h1
      exact (Classical.not_not.1 h1).2.1


/-! ### impl.replicaFault -/
def pr74 (f : Int) (l : List Msg) (r : Replica) (long : Int) : Prop := Right f l ∧ bdL l
noncomputable def rs74 (f : Int) (l : List Msg) (r : Replica) (long : Int) : V := .int .i64 (repF f l r long)
noncomputable def sp74 : FSpec := fun args bin => match args, bin with
  | [.int .i64 a0, a1, a2, .int .i64 a3], [] => some (VLe a1 (encL (encMsg 1) 1 (((decL decMsg) a1))) ∧ VLe a2 (encReplica 1 ((decReplica a2))) ∧ pr74 a0 ((decL decMsg) a1) (decReplica a2) a3, rs74 a0 ((decL decMsg) a1) (decReplica a2) a3, [])
  | _, _ => none
noncomputable def D74 : Nat → Option (Bool × FSpec) := lk [(50, (false, sp50)), (31, (false, sp31)), (41, (false, sp41)), (28, (false, sp28))]
theorem da74 : SoundAll Tryz.prog D74 := soundAll_cons so50 (soundAll_cons so31 (soundAll_cons so41 (soundAll_cons so28 (soundAll_nil))))
noncomputable def cx74 (f : Int) (l : List Msg) (r : Replica) (long : Int) : Cx := ⟨tt, D74, Tryz.f74.ntmps, [0, 1, 2, 3, 6, 8, 9, 27, 55], [], [], fun _ => none, [], noM, []⟩
theorem bd74 (f : Int) (l : List Msg) (r : Replica) (long : Int) (hpre : pr74 f l r long) : bodyP (cx74 f l r long) Tryz.f74 0 [.int .i64 (f), encL (encMsg 1) 1 (l), encReplica 1 (r), .int .i64 (long)] (fun rr => VLe rr (rs74 f l r long)) := by
  have key : ((pr50 f (Replica.id r)) ∧ ((tq (!!decide (inR (Replica.id r) (1 : Int) ((3 : Int) * f + (1 : Int))))) ∧ ((tq (!!decide (inR (Replica.id r) (1 : Int) ((3 : Int) * f + (1 : Int))))) ∧ ((((!!decide (inR (Replica.id r) (1 : Int) ((3 : Int) * f + (1 : Int)))) = true) → (pr31 (Replica.view r))) ∧ ((tq (!!decide (inR (Replica.id r) (1 : Int) ((3 : Int) * f + (1 : Int))))) ∧ (((true = true) → (((!decide (inR (Replica.id r) (1 : Int) ((3 : Int) * f + (1 : Int)))) = false) → ((!!decide (inR (Replica.id r) (1 : Int) ((3 : Int) * f + (1 : Int)))) = true))) ∧ (∀ b : Bool, ((b = bif !decide (inR (Replica.id r) (1 : Int) ((3 : Int) * f + (1 : Int))) then true else !decide (inR (Replica.view r) (0 : Int) (20 : Int))) → ((tq (!b)) ∧ ((tq (!b)) ∧ ((((!b) = true) → (pr41 (Replica.done r) (0 : Int) (30 : Int))) ∧ ((tq (!b)) ∧ (((true = true) → ((b = false) → ((!b) = true))) ∧ (∀ b_1 : Bool, ((b_1 = bif b then true else !decide (inR (Replica.done r) (0 : Int) (30 : Int))) → (((b_1 = true) → (VLe (vi (3 : Int)) (vi (repF f l r long)))) ∧ ((b_1 = false) → ((tq (Replica.start r != (-1 : Int))) ∧ ((tq (Replica.start r != (-1 : Int))) ∧ ((tq (Replica.start r != (-1 : Int))) ∧ ((tq (Replica.start r != (-1 : Int) && !Replica.view r == (0 : Int))) ∧ ((tq (Replica.start r != (-1 : Int) && !Replica.view r == (0 : Int))) ∧ ((tq (Replica.start r != (-1 : Int) && !Replica.view r == (0 : Int))) ∧ ((tq (Replica.start r != (-1 : Int) && !Replica.view r == (0 : Int))) ∧ ((((Replica.start r != (-1 : Int) && !Replica.view r == (0 : Int)) = true) → ((VLe (encL (encMsg 1) 1 l) (encL (encMsg 1) 1 (decL decMsg (encL (encMsg 1) 1 l)))) ∧ (pr28 f (decL decMsg (encL (encMsg 1) 1 l)) (Replica.start r)))) ∧ ((tq (Replica.start r != (-1 : Int) && !Replica.view r == (0 : Int))) ∧ ((tq (Replica.start r != (-1 : Int))) ∧ ((((Replica.start r != (-1 : Int)) = true) → (((Replica.start r != (-1 : Int)) = true) → (((Replica.view r == (0 : Int)) = false) → ((Replica.start r != (-1 : Int) && !Replica.view r == (0 : Int)) = true)))) ∧ (∀ b_2 : Bool, ((b_2 = bif Replica.view r == (0 : Int) then true else !decide (newOk f (decL decMsg (encL (encMsg 1) 1 l)) (Replica.start r))) → ((tq (Replica.start r != (-1 : Int))) ∧ ((tq (Replica.start r != (-1 : Int) && !b_2)) ∧ ((tq (Replica.start r != (-1 : Int) && !b_2)) ∧ ((tq (Replica.start r != (-1 : Int) && !b_2)) ∧ ((((Replica.start r != (-1 : Int) && !b_2) = true) → (((0 : Int) ≤ Replica.start r) ∧ (Replica.start r < (↑(List.length l) : Int)))) ∧ ((tq (Replica.start r != (-1 : Int) && !b_2)) ∧ ((tq (Replica.start r != (-1 : Int) && !b_2)) ∧ ((tq (Replica.start r != (-1 : Int) && !b_2)) ∧ ((tq (Replica.start r != (-1 : Int) && !b_2)) ∧ ((tq (Replica.start r != (-1 : Int) && !b_2)) ∧ ((tq (Replica.start r != (-1 : Int))) ∧ ((((Replica.start r != (-1 : Int)) = true) → (((Replica.start r != (-1 : Int)) = true) → ((b_2 = false) → ((Replica.start r != (-1 : Int) && !b_2) = true)))) ∧ (∀ b_3 : Bool, ((b_3 = bif b_2 then true else Msg.view (List.getD l (Int.toNat (Replica.start r)) default) != Replica.view r) → (((true = true) → (((Replica.start r != (-1 : Int)) = true) → ((Replica.start r != (-1 : Int)) = true))) ∧ (∀ b_4 : Bool, ((b_4 = bif Replica.start r != (-1 : Int) then b_3 else false) → (((b_4 = true) → (VLe (vi (1 : Int)) (vi (repF f l r long)))) ∧ ((b_4 = false) → (((decide (Replica.done r > long) = true) → (VLe (vi (8 : Int)) (vi (repF f l r long)))) ∧ ((decide (Replica.done r > long) = false) → (VLe (vi (0 : Int)) (vi (repF f l r long)))))))))))))))))))))))))))))))))))))))))))))))))))))) := by
    delta vi
    obtain ⟨hr, hl⟩ := hpre
    simp only [decL_Msg, dec_encReplica]
    repeat (first | (refine And.intro (fun h _ => h) ?_) | (refine And.intro (fun _ h => h) ?_) | (refine And.intro ?aa ?_; case aa => (exact hr.okf)) | (refine And.intro ?aa ?_; case aa => (exact trivial)) | (refine And.intro ?aa ?_; case aa => (exact fun _ => trivial)) | (refine And.intro ?aa ?_; case aa => (intros; simp_all [pr50, pr31, pr41, pr28]; done)) | (refine And.intro ?aa ?_; case aa => (intros; exact inK64 (by omega))) | (refine And.intro ?aa ?_; case aa => (intros; simp only [decide_eq_true_eq] at *; omega)) | (intro q hq))
    have e0 : q = decide (¬ (inR r.id 1 (3 * f + 1) ∧ inR r.view 0 20 ∧ inR r.done 0 30)) := by
      subst_vars
      rw [Bool.eq_iff_iff, decide_eq_true_eq]
      by_cases a1 : inR r.id 1 (3 * f + 1) <;> by_cases a2 : inR r.view 0 20 <;> by_cases a3 : inR r.done 0 30 <;> simp [a1, a2, a3]
    clear hq
    refine ⟨fun h => ?_, fun h => ?_⟩
    · rw [e0] at h
      exact vle_int (by unfold repF; rw [if_pos (of_decide_eq_true h)])
    rw [e0] at h
    have h1 := of_decide_eq_false h
    clear e0
    repeat (first | (refine And.intro (fun h _ => h) ?_) | (refine And.intro (fun _ h => h) ?_) | (refine And.intro ?aa ?_; case aa => (exact fun _ => ⟨VLe.refl _, hr, hl⟩)) | (refine And.intro ?aa ?_; case aa => (intros; simp_all [pr50, pr31, pr41, pr28]; done)) | (refine And.intro ?aa ?_; case aa => (intros; exact inK64 (by omega))) | (refine And.intro ?aa ?_; case aa => (intros; simp only [decide_eq_true_eq] at *; omega)) | (intro q hq))
    have hin : (r.start != -1 && !q) = true → 0 ≤ r.start ∧ r.start < l.length := by
      intro h2
      have h3 : newOk f l r.start := by
        rw [hq] at h2
        by_cases a1 : r.view = 0 <;> by_cases a2 : newOk f l r.start <;> simp_all
      have h4 := h3.1.1
      unfold inL inR at h4
      omega
    repeat (first | (refine And.intro (fun h _ => h) ?_) | (refine And.intro (fun _ h => h) ?_) | (refine And.intro ?aa ?_; case aa => (exact hin)) | (refine And.intro ?aa ?_; case aa => (intros; simp_all [pr50, pr31, pr41, pr28]; done)) | (refine And.intro ?aa ?_; case aa => (intros; exact inK64 (by omega))) | (refine And.intro ?aa ?_; case aa => (intros; simp only [decide_eq_true_eq] at *; omega)) | (intro q hq))
    have e1 : q = decide (r.start ≠ -1 ∧ (r.view = 0 ∨ ¬ (newOk f l r.start ∧ (atM l r.start).view = r.view))) := by
      subst_vars
      clear h h1
      rw [Bool.eq_iff_iff, decide_eq_true_eq]
      by_cases a1 : r.start = -1 <;> by_cases a2 : r.view = 0 <;> by_cases a3 : newOk f l r.start <;> simp [a1, a2, a3, atM]
    clear hq
    refine ⟨fun h2 => ?_, fun h2 => ?_⟩
    · rw [e1] at h2
      exact vle_int (by unfold repF; rw [if_neg h1, if_pos (of_decide_eq_true h2)])
    rw [e1] at h2
    have h3 := of_decide_eq_false h2
    clear e1
    refine ⟨fun h4 => vle_int ?_, fun h4 => vle_int ?_⟩
    · unfold repF
      rw [if_neg h1, if_neg h3, if_pos (by simpa using h4)]
    · unfold repF
      rw [if_neg h1, if_neg h3, if_neg (by simpa using h4)]
  exact Eq.mp (by kernel_rfl) key
theorem so74 : Sound Tryz.prog 74 sp74 := by
  refine sound_of_body hmix (pol := 0) Tryz.func74 rfl (by kernel_rfl) fun args bin ob r bout hDe hob => ?_
  unfold sp74 at hDe
  split at hDe
  · rename_i a0 a1 a2 a3
    cases hDe
    exact ⟨rfl, rfl, Nat.le_of_ble_eq_true (by kernel_rfl), cx74 a0 ((decL decMsg) a1) (decReplica a2) a3, Eq.mp (by kernel_rfl) htt, Eq.mp (by kernel_rfl) da74, Eq.mp (by kernel_rfl) (noM_sound (P := Tryz.prog)), by kernel_rfl, [.int .i64 (a0), encL (encMsg 1) 1 (((decL decMsg) a1)), encReplica 1 ((decReplica a2)), .int .i64 (a3)], args_of_vles (⟨VLe.refl _, hob.1, hob.2.1, VLe.refl _, trivial⟩), Eq.mp (by kernel_rfl) (bd74 a0 ((decL decMsg) a1) (decReplica a2) a3 (hob.2.2))⟩
  · cases hDe

/-! ### impl.ReplicaFault -/
def pr46 (f : Int) (l : List Msg) (r : Replica) : Prop := bdL l
noncomputable def rs46 (f : Int) (l : List Msg) (r : Replica) : V := .int .i64 (replicaFault f l r)
noncomputable def sp46 : FSpec := fun args bin => match args, bin with
  | [.int .i64 a0, a1, a2], [] => some (VLe a1 (encL (encMsg 1) 1 (((decL decMsg) a1))) ∧ VLe a2 (encReplica 1 ((decReplica a2))) ∧ pr46 a0 ((decL decMsg) a1) (decReplica a2), rs46 a0 ((decL decMsg) a1) (decReplica a2), [])
  | _, _ => none
noncomputable def D46 : Nat → Option (Bool × FSpec) := lk [(27, (false, sp27)), (75, (false, sp75o)), (74, (false, sp74))]
theorem da46 : SoundAll Tryz.prog D46 := soundAll_cons so27 (soundAll_cons so75o (soundAll_cons so74 (soundAll_nil)))
noncomputable def cx46 (f : Int) (l : List Msg) (r : Replica) : Cx := ⟨tt, D46, Tryz.f46.ntmps, [0, 1, 2, 5, 6, 7, 12], [], [], fun _ => none, [], noM, []⟩
noncomputable def k46_0 (l : List Msg) : Prop := (VLe (encL (encMsg 1) 1 l) (encL (encMsg 1) 1 (decL decMsg (encL (encMsg 1) 1 l))))
theorem bd46 (f : Int) (l : List Msg) (r : Replica) (hpre : pr46 f l r) : bodyP (cx46 f l r) Tryz.f46 0 [.int .i64 (f), encL (encMsg 1) 1 (l), encReplica 1 (r)] (fun rr => VLe rr (rs46 f l r)) := by
  have key : (((k46_0 l) ∧ (pr27 f (decL decMsg (encL (encMsg 1) 1 l)))) ∧ ((((ledgerFault f (decL decMsg (encL (encMsg 1) 1 l)) != (0 : Int)) = true) → (VLe (vi (ledgerFault f (decL decMsg (encL (encMsg 1) 1 l)))) (vi (replicaFault f l r)))) ∧ (((ledgerFault f (decL decMsg (encL (encMsg 1) 1 l)) != (0 : Int)) = false) → (((k46_0 l) ∧ (pr75o f (decL decMsg (encL (encMsg 1) 1 l)))) ∧ (((k46_0 l) ∧ ((VLe (encReplica 1 r) (encReplica 1 (decReplica (encReplica 1 r)))) ∧ (pr74 f (decL decMsg (encL (encMsg 1) 1 l)) (decReplica (encReplica 1 r)) (↑(List.length (ro75o f (decL decMsg (encL (encMsg 1) 1 l)))) : Int)))) ∧ (VLe (vi (repF f (decL decMsg (encL (encMsg 1) 1 l)) (decReplica (encReplica 1 r)) (↑(List.length (ro75o f (decL decMsg (encL (encMsg 1) 1 l)))) : Int))) (vi (replicaFault f l r)))))))) := by
    delta k46_0; delta vi
    simp only [decL_Msg, dec_encReplica]
    refine ⟨⟨VLe.refl _, hpre⟩, fun h => ?_, fun h => ?_⟩
    · exact vle_int (by unfold replicaFault; rw [if_pos (by simpa using h)])
    · have h0 : ledgerFault f l = 0 := by simpa using h
      have hr := right_of h0
      exact ⟨⟨VLe.refl _, hr, hpre⟩, ⟨VLe.refl _, VLe.refl _, hr, hpre⟩, vle_int (by unfold replicaFault; rw [if_neg (not_not_intro h0)]; rfl)⟩
  exact Eq.mp (by kernel_rfl) key
theorem so46 : Sound Tryz.prog 46 sp46 := by
  refine sound_of_body hmix (pol := 0) Tryz.func46 rfl (by kernel_rfl) fun args bin ob r bout hDe hob => ?_
  unfold sp46 at hDe
  split at hDe
  · rename_i a0 a1 a2
    cases hDe
    exact ⟨rfl, rfl, Nat.le_of_ble_eq_true (by kernel_rfl), cx46 a0 ((decL decMsg) a1) (decReplica a2), Eq.mp (by kernel_rfl) htt, Eq.mp (by kernel_rfl) da46, Eq.mp (by kernel_rfl) (noM_sound (P := Tryz.prog)), by kernel_rfl, [.int .i64 (a0), encL (encMsg 1) 1 (((decL decMsg) a1)), encReplica 1 ((decReplica a2))], args_of_vles (⟨VLe.refl _, hob.1, hob.2.1, trivial⟩), Eq.mp (by kernel_rfl) (bd46 a0 ((decL decMsg) a1) (decReplica a2) (hob.2.2))⟩
  · cases hDe

/-! ### spec.l9Log -/
def pr98 (f : Int) (l : List Msg) : Prop := Right f l ∧ bdL l
noncomputable def rs98 (f : Int) (l : List Msg) : V := encL encI 2 (logL f l)
noncomputable def sp98 : FSpec := fun args bin => match args, bin with
  | [.int .i64 a0, a1], [] => some (VLe a1 (encL (encMsg 1) 1 (((decL decMsg) a1))) ∧ pr98 a0 ((decL decMsg) a1), rs98 a0 ((decL decMsg) a1), [])
  | _, _ => none
noncomputable def in98_3 (f : Int) (l : List Msg) : LoopInv :=
  ⟨Nat × List Int, fun p => ⟨[(0, .int .i64 f), (1, encL (encMsg 1) 1 l), (4, .nil), (5, .osl (canonT 5) p.2.length), (6, .int .i64 (p.1 + 1))], [(canonT 5, .arr 1 p.2.length (gL encI p.2) tagS)]⟩,
    fun p => p.1 ≤ 30 ∧ p.2.length ≤ p.1 ∧ logL f l = p.2 ++ logFrom f l (p.1 + 1) (30 - p.1), fun p => 30 - p.1⟩
noncomputable def iv98 (f : Int) (l : List Msg) : Nat → Option LoopInv := fun rg_ => match rg_ with
  | 3 => some (in98_3 f l)
  | _ => none
noncomputable def D98 : Nat → Option (Bool × FSpec) := lk [(108, (false, sp108o))]
theorem da98 : SoundAll Tryz.prog D98 := soundAll_cons so108o (soundAll_nil)
noncomputable def cx98 (f : Int) (l : List Msg) : Cx := ⟨tt, D98, Tryz.f98.ntmps, [0, 1, 4, 5, 6, 7, 10, 19], [(3, ⟨[(0, none), (1, none), (4, none), (5, some 1), (6, none)], []⟩)], [], iv98 f l, [], noM, []⟩
noncomputable def k98_0 (f : Int) (l : List Msg) (x : Nat × List Int) : Nat := (List.length (ro108o f (decL decMsg (encL (encMsg 1) 1 l)) ((↑x.1 : Int) + (1 : Int))))
theorem bd98 (f : Int) (l : List Msg) (hpre : pr98 f l) : bodyP (cx98 f l) Tryz.f98 1 [.int .i64 (f), encL (encMsg 1) 1 (l)] (fun rr => VLe rr (rs98 f l)) := by
  have key : ((∃ x : Nat × List Int, ((SLe (AS.mk [(0, vi f), (1, encL (encMsg 1) 1 l), (4, V.nil), (5, V.osl 32000384 0), (6, vi (1 : Int))] [(32000384, Blk.arr 1 0 (rowg []) 100)]) (AS.mk [(0, vi f), (1, encL (encMsg 1) 1 l), (4, V.nil), (5, V.osl 32000384 (List.length x.2)), (6, vi ((↑x.1 : Int) + (1 : Int)))] [(32000384, Blk.arr 1 (List.length x.2) (gL encI x.2) 100)])) ∧ ((Prod.fst x ≤ 30) ∧ ((List.length x.2 ≤ Prod.fst x) ∧ (logL f l = Prod.snd x ++ logFrom f l (Prod.fst x + 1) (30 - Prod.fst x)))))) ∧ (∀ x : Nat × List Int, (((Prod.fst x ≤ 30) ∧ ((List.length x.2 ≤ Prod.fst x) ∧ (logL f l = Prod.snd x ++ logFrom f l (Prod.fst x + 1) (30 - Prod.fst x)))) → (((decide ((↑x.1 : Int) + (1 : Int) ≤ (30 : Int)) = true) → (((VLe (encL (encMsg 1) 1 l) (encL (encMsg 1) 1 (decL decMsg (encL (encMsg 1) 1 l)))) ∧ (pr108o f (decL decMsg (encL (encMsg 1) 1 l)) ((↑x.1 : Int) + (1 : Int)))) ∧ (((((↑(k98_0 f l x) : Int) == (0 : Int)) = true) → (VLe (encL encI 2 x.2) (encL encI 2 (logL f l)))) ∧ ((((↑(k98_0 f l x) : Int) == (0 : Int)) = false) → ((((0 : Int) ≤ (0 : Int)) ∧ ((0 : Int) < (↑(k98_0 f l x) : Int))) ∧ ((0 < List.length (ro108o f (decL decMsg (encL (encMsg 1) 1 l)) ((↑x.1 : Int) + (1 : Int)))) ∧ ((List.length x.2 = List.length x.2) ∧ ((List.length x.2 + 1 ≤ 1073741824) ∧ ((sizedL 1 1 (rowg [vi (List.getD (ro108o f (decL decMsg (encL (encMsg 1) 1 l)) ((↑x.1 : Int) + (1 : Int))) 0 default)])) ∧ ((inK IntKind.i64 ((↑x.1 : Int) + (1 : Int) + (1 : Int))) ∧ (∃ y : Nat × List Int, ((SLe (AS.mk [(0, vi f), (1, encL (encMsg 1) 1 l), (4, V.nil), (5, V.osl 32000384 (List.length x.2 + 1)), (6, vi ((↑x.1 : Int) + (1 : Int) + (1 : Int)))] [(32000384, Blk.arr 1 (List.length x.2 + 1) (appg (List.length x.2) (gL encI x.2) (rowg [vi (List.getD (ro108o f (decL decMsg (encL (encMsg 1) 1 l)) ((↑x.1 : Int) + (1 : Int))) 0 default)])) 100)]) (AS.mk [(0, vi f), (1, encL (encMsg 1) 1 l), (4, V.nil), (5, V.osl 32000384 (List.length y.2)), (6, vi ((↑y.1 : Int) + (1 : Int)))] [(32000384, Blk.arr 1 (List.length y.2) (gL encI y.2) 100)])) ∧ (((Prod.fst y ≤ 30) ∧ ((List.length y.2 ≤ Prod.fst y) ∧ (logL f l = Prod.snd y ++ logFrom f l (Prod.fst y + 1) (30 - Prod.fst y)))) ∧ (30 - Prod.fst y < 30 - Prod.fst x)))))))))))))) ∧ ((decide ((↑x.1 : Int) + (1 : Int) ≤ (30 : Int)) = false) → (VLe (encL encI 2 x.2) (encL encI 2 (logL f l)))))))) := by
    delta k98_0; delta vi
    obtain ⟨hr, hl⟩ := hpre
    simp only [decL_Msg, ro108o]
    refine ⟨⟨(0, []), sle_of ⟨rfl, VLe.refl _, rfl, VLe.refl _, rfl, VLe.refl _, rfl, VLe.refl _, rfl, VLe.refl _, trivial⟩ ⟨rfl, ble_nil _, trivial⟩, by simp, by simp, by simp [logL]⟩, ?_⟩
    rintro ⟨i, out⟩ ⟨hi, ho, hj⟩
    simp only at hi ho hj ⊢
    refine ⟨fun h => ?_, fun h => ?_⟩
    · have hlt : i < 30 := by simp at h; omega
      have hs : logFrom f l (i + 1) (30 - i) = match decidedL f l ((i : Int) + 1) with
        | [] => []
        | v :: _ => v :: logFrom f l (i + 1 + 1) (30 - (i + 1)) := by
        have e1 : 30 - i = (30 - (i + 1)) + 1 := by omega
        rw [e1]
        rfl
      refine ⟨⟨VLe.refl _, hr, hl⟩, fun h2 => ?_, fun h2 => ?_⟩
      · have hn : decidedL f l ((i : Int) + 1) = [] := List.length_eq_zero_iff.1 (by simpa using h2)
        rw [hn] at hs
        rw [hj, hs, List.append_nil]
        exact VLe.refl _
      · have hn : decidedL f l ((i : Int) + 1) ≠ [] := fun e => by rw [e] at h2; simp at h2
        obtain ⟨v, r, he⟩ : ∃ v r, decidedL f l ((i : Int) + 1) = v :: r := by
          cases hc : decidedL f l ((i : Int) + 1) with
          | nil => exact absurd hc hn
          | cons v r => exact ⟨v, r, rfl⟩
        rw [he] at hs ⊢
        simp only at hs
        refine ⟨⟨by omega, by simp only [List.length_cons]; omega⟩, by simp, trivial, by omega, fun k hk => ?_, inK64 (by omega), (i + 1, out ++ [v]), ?_, ⟨by simp only; omega, by simp only [List.length_append, List.length_singleton]; omega, ?_⟩, by simp only; omega⟩
        · have hk0 : k = 0 := by omega
          subst hk0
          exact ⟨rfl, rfl⟩
        · simp only [List.length_append, List.length_singleton]
          exact sle_of ⟨rfl, VLe.refl _, rfl, VLe.refl _, rfl, VLe.refl _, rfl, VLe.refl _, rfl, vle_int (by simp only [Int.natCast_add, Int.cast_ofNat_Int]), trivial⟩ ⟨rfl, ble_push rfl rfl, trivial⟩
        · simp only
          rw [hj, hs]
          simp
    · have : i = 30 := by simp at h; omega
      subst this
      have e : logL f l = out := by rw [hj]; simp [logFrom]
      rw [e]
      exact VLe.refl _
  exact Eq.mp (by kernel_rfl) key
theorem so98 : Sound Tryz.prog 98 sp98 := by
  refine sound_of_body hmix (pol := 1) Tryz.func98 rfl (by kernel_rfl) fun args bin ob r bout hDe hob => ?_
  unfold sp98 at hDe
  split at hDe
  · rename_i a0 a1
    cases hDe
    exact ⟨rfl, rfl, Nat.le_of_ble_eq_true (by kernel_rfl), cx98 a0 ((decL decMsg) a1), Eq.mp (by kernel_rfl) htt, Eq.mp (by kernel_rfl) da98, Eq.mp (by kernel_rfl) (noM_sound (P := Tryz.prog)), by kernel_rfl, [.int .i64 (a0), encL (encMsg 1) 1 (((decL decMsg) a1))], args_of_vles (⟨VLe.refl _, hob.1, trivial⟩), Eq.mp (by kernel_rfl) (bd98 a0 ((decL decMsg) a1) (hob.2))⟩
  · cases hDe

/-! ### spec.l11Fault -/
def pr76 (f : Int) (l : List Msg) (r : Replica) : Prop := Right f l ∧ bdL l
noncomputable def rs76 (f : Int) (l : List Msg) (r : Replica) : V := .int .i64 (repF f l r (logL f l).length)
noncomputable def sp76 : FSpec := fun args bin => match args, bin with
  | [.int .i64 a0, a1, a2], [] => some (VLe a1 (encL (encMsg 1) 1 (((decL decMsg) a1))) ∧ VLe a2 (encPReplica 1 ((decPReplica a2))) ∧ pr76 a0 ((decL decMsg) a1) (decPReplica a2), rs76 a0 ((decL decMsg) a1) (decPReplica a2), [])
  | _, _ => none
noncomputable def D76 : Nat → Option (Bool × FSpec) := lk [(96, (false, sp96)), (33, (false, sp33)), (97, (false, sp97)), (98, (false, sp98))]
theorem da76 : SoundAll Tryz.prog D76 := soundAll_cons so96 (soundAll_cons so33 (soundAll_cons so97 (soundAll_cons so98 (soundAll_nil))))
noncomputable def cx76 (f : Int) (l : List Msg) (r : Replica) : Cx := ⟨tt, D76, Tryz.f76.ntmps, [0, 1, 2, 6, 29, 55, 71], [], [], fun _ => none, [], noM, []⟩
theorem bd76 (f : Int) (l : List Msg) (r : Replica) (hpre : pr76 f l r) : bodyP (cx76 f l r) Tryz.f76 0 [.int .i64 (f), encL (encMsg 1) 1 (l), encPReplica 1 (r)] (fun rr => VLe rr (rs76 f l r)) := by
  have key : ((pr96 f (Replica.id r)) ∧ ((tq (!!decide (inR (Replica.id r) (1 : Int) ((3 : Int) * f + (1 : Int))))) ∧ ((tq (!!decide (inR (Replica.id r) (1 : Int) ((3 : Int) * f + (1 : Int))))) ∧ ((tq (!!decide (inR (Replica.id r) (1 : Int) ((3 : Int) * f + (1 : Int))))) ∧ ((tq (!!decide (inR (Replica.id r) (1 : Int) ((3 : Int) * f + (1 : Int))))) ∧ ((((!!decide (inR (Replica.id r) (1 : Int) ((3 : Int) * f + (1 : Int)))) = true) → (pr33 (Replica.view r) (0 : Int) (20 : Int))) ∧ ((tq (!!decide (inR (Replica.id r) (1 : Int) ((3 : Int) * f + (1 : Int))))) ∧ (((true = true) → (((!decide (inR (Replica.id r) (1 : Int) ((3 : Int) * f + (1 : Int)))) = false) → ((!!decide (inR (Replica.id r) (1 : Int) ((3 : Int) * f + (1 : Int)))) = true))) ∧ (∀ b : Bool, ((b = bif !decide (inR (Replica.id r) (1 : Int) ((3 : Int) * f + (1 : Int))) then true else !decide (inR (Replica.view r) (0 : Int) (20 : Int))) → ((tq (!b)) ∧ ((tq (!b)) ∧ ((tq (!b)) ∧ ((tq (!b)) ∧ ((((!b) = true) → (pr33 (Replica.done r) (0 : Int) (30 : Int))) ∧ ((tq (!b)) ∧ (((true = true) → ((b = false) → ((!b) = true))) ∧ (∀ b_1 : Bool, ((b_1 = bif b then true else !decide (inR (Replica.done r) (0 : Int) (30 : Int))) → (((b_1 = true) → (VLe (vi (3 : Int)) (vi (repF f l r (↑(List.length (logL f l)) : Int))))) ∧ ((b_1 = false) → ((tq (Replica.start r != (-1 : Int))) ∧ ((tq (Replica.start r != (-1 : Int))) ∧ ((tq (Replica.start r != (-1 : Int))) ∧ ((tq (Replica.start r != (-1 : Int))) ∧ ((tq (Replica.start r != (-1 : Int))) ∧ ((tq (Replica.start r != (-1 : Int) && !Replica.view r == (0 : Int))) ∧ ((tq (Replica.start r != (-1 : Int) && !Replica.view r == (0 : Int))) ∧ ((tq (Replica.start r != (-1 : Int) && !Replica.view r == (0 : Int))) ∧ ((tq (Replica.start r != (-1 : Int) && !Replica.view r == (0 : Int))) ∧ ((tq (Replica.start r != (-1 : Int) && !Replica.view r == (0 : Int))) ∧ ((tq (Replica.start r != (-1 : Int) && !Replica.view r == (0 : Int))) ∧ ((tq (Replica.start r != (-1 : Int) && !Replica.view r == (0 : Int))) ∧ ((tq (Replica.start r != (-1 : Int) && !Replica.view r == (0 : Int))) ∧ ((tq (Replica.start r != (-1 : Int) && !Replica.view r == (0 : Int))) ∧ ((tq (Replica.start r != (-1 : Int) && !Replica.view r == (0 : Int))) ∧ ((((Replica.start r != (-1 : Int) && !Replica.view r == (0 : Int)) = true) → ((VLe (encL (encMsg 1) 1 l) (encL (encMsg 1) 1 (decL decMsg (encL (encMsg 1) 1 l)))) ∧ (pr97 f (decL decMsg (encL (encMsg 1) 1 l)) (Replica.view r) (Replica.start r)))) ∧ ((tq (Replica.start r != (-1 : Int) && !Replica.view r == (0 : Int))) ∧ ((tq (Replica.start r != (-1 : Int))) ∧ ((((Replica.start r != (-1 : Int)) = true) → (((Replica.start r != (-1 : Int)) = true) → (((Replica.view r == (0 : Int)) = false) → ((Replica.start r != (-1 : Int) && !Replica.view r == (0 : Int)) = true)))) ∧ (∀ b_2 : Bool, ((b_2 = bif Replica.view r == (0 : Int) then true else !decide (if Replica.view r = (0 : Int) then Replica.start r = (-1 : Int) else newOk f (decL decMsg (encL (encMsg 1) 1 l)) (Replica.start r) ∧ Msg.view (atM (decL decMsg (encL (encMsg 1) 1 l)) (Replica.start r)) = Replica.view r)) → (((true = true) → (((Replica.start r != (-1 : Int)) = true) → ((Replica.start r != (-1 : Int)) = true))) ∧ (∀ b_3 : Bool, ((b_3 = bif Replica.start r != (-1 : Int) then b_2 else false) → (((b_3 = true) → (VLe (vi (1 : Int)) (vi (repF f l r (↑(List.length (logL f l)) : Int))))) ∧ ((b_3 = false) → ((tq (decide (Replica.done r > (0 : Int)))) ∧ ((tq (decide (Replica.done r > (0 : Int)))) ∧ ((tq (decide (Replica.done r > (0 : Int)))) ∧ ((tq (decide (Replica.done r > (0 : Int)))) ∧ ((tq (decide (Replica.done r > (0 : Int)))) ∧ (((decide (Replica.done r > (0 : Int)) = true) → ((VLe (encL (encMsg 1) 1 l) (encL (encMsg 1) 1 (decL decMsg (encL (encMsg 1) 1 l)))) ∧ (pr98 f (decL decMsg (encL (encMsg 1) 1 l))))) ∧ ((tq (decide (Replica.done r > (0 : Int)))) ∧ ((tq (decide (Replica.done r > (0 : Int)))) ∧ ((tq (decide (Replica.done r > (0 : Int)))) ∧ (((true = true) → ((decide (Replica.done r > (0 : Int)) = true) → (decide (Replica.done r > (0 : Int)) = true))) ∧ (∀ b_4 : Bool, ((b_4 = bif decide (Replica.done r > (0 : Int)) then decide (Replica.done r > (↑(List.length (logL f (decL decMsg (encL (encMsg 1) 1 l)))) : Int)) else false) → (((b_4 = true) → (VLe (vi (8 : Int)) (vi (repF f l r (↑(List.length (logL f l)) : Int))))) ∧ ((b_4 = false) → (VLe (vi (0 : Int)) (vi (repF f l r (↑(List.length (logL f l)) : Int))))))))))))))))))))))))))))))))))))))))))))))))))))))))))))))))) := by
    delta vi
    obtain ⟨hr, hl⟩ := hpre
    simp only [decL_Msg, dec_encPReplica]
    repeat (first | (refine And.intro (fun h _ => h) ?_) | (refine And.intro (fun _ h => h) ?_) | (refine And.intro ?aa ?_; case aa => (exact hr.okf)) | (refine And.intro ?aa ?_; case aa => (exact trivial)) | (refine And.intro ?aa ?_; case aa => (exact fun _ => trivial)) | (refine And.intro ?aa ?_; case aa => (intros; simp_all [pr96, pr33, pr97, pr98]; done)) | (refine And.intro ?aa ?_; case aa => (intros; exact inK64 (by omega))) | (refine And.intro ?aa ?_; case aa => (intros; simp only [decide_eq_true_eq] at *; omega)) | (intro q hq))
    have e0 : q = decide (¬ (inR r.id 1 (3 * f + 1) ∧ inR r.view 0 20 ∧ inR r.done 0 30)) := by
      subst_vars
      rw [Bool.eq_iff_iff, decide_eq_true_eq]
      by_cases a1 : inR r.id 1 (3 * f + 1) <;> by_cases a2 : inR r.view 0 20 <;> by_cases a3 : inR r.done 0 30 <;> simp [a1, a2, a3]
    clear hq
    refine ⟨fun h => ?_, fun h => ?_⟩
    · rw [e0] at h
      exact vle_int (by unfold repF; rw [if_pos (of_decide_eq_true h)])
    rw [e0] at h
    have h1 := of_decide_eq_false h
    clear e0
    repeat (first | (refine And.intro (fun h _ => h) ?_) | (refine And.intro (fun _ h => h) ?_) | (refine And.intro ?aa ?_; case aa => (exact fun _ => ⟨VLe.refl _, hr, hl⟩)) | (refine And.intro ?aa ?_; case aa => (intros; simp_all [pr96, pr33, pr97, pr98]; done)) | (refine And.intro ?aa ?_; case aa => (intros; exact inK64 (by omega))) | (refine And.intro ?aa ?_; case aa => (intros; simp only [decide_eq_true_eq] at *; omega)) | (intro q hq))
    have e1 : q = decide (r.start ≠ -1 ∧ (r.view = 0 ∨ ¬ (newOk f l r.start ∧ (atM l r.start).view = r.view))) := by
      subst_vars
      clear h h1
      rw [Bool.eq_iff_iff, decide_eq_true_eq]
      by_cases a1 : r.start = -1 <;> by_cases a2 : r.view = 0 <;> by_cases a3 : newOk f l r.start <;> simp [a1, a2, a3]
    clear hq
    refine ⟨fun h2 => ?_, fun h2 => ?_⟩
    · rw [e1] at h2
      exact vle_int (by unfold repF; rw [if_neg h1, if_pos (of_decide_eq_true h2)])
    rw [e1] at h2
    have h3 := of_decide_eq_false h2
    clear e1
    repeat (first | (refine And.intro (fun h _ => h) ?_) | (refine And.intro (fun _ h => h) ?_) | (refine And.intro ?aa ?_; case aa => (exact fun _ => ⟨VLe.refl _, hr, hl⟩)) | (refine And.intro ?aa ?_; case aa => (intros; simp_all [pr96, pr33, pr97, pr98]; done)) | (refine And.intro ?aa ?_; case aa => (intros; exact inK64 (by omega))) | (refine And.intro ?aa ?_; case aa => (intros; simp only [decide_eq_true_eq] at *; omega)) | (intro q hq))
    have e2 : q = decide (((logL f l).length : Int) < r.done) := by
      subst_vars
      clear h h1 h2 h3
      rw [Bool.eq_iff_iff, decide_eq_true_eq]
      by_cases a1 : 0 < r.done
      · simp [a1, encL]
      · have : ¬ ((logL f l).length : Int) < r.done := by omega
        simp [a1, this]
    clear hq
    refine ⟨fun h4 => vle_int ?_, fun h4 => vle_int ?_⟩
    · rw [e2] at h4
      unfold repF
      rw [if_neg h1, if_neg h3, if_pos (of_decide_eq_true h4)]
    · rw [e2] at h4
      unfold repF
      rw [if_neg h1, if_neg h3, if_neg (of_decide_eq_false h4)]
  exact Eq.mp (by kernel_rfl) key
theorem so76 : Sound Tryz.prog 76 sp76 := by
  refine sound_of_body hmix (pol := 0) Tryz.func76 rfl (by kernel_rfl) fun args bin ob r bout hDe hob => ?_
  unfold sp76 at hDe
  split at hDe
  · rename_i a0 a1 a2
    cases hDe
    exact ⟨rfl, rfl, Nat.le_of_ble_eq_true (by kernel_rfl), cx76 a0 ((decL decMsg) a1) (decPReplica a2), Eq.mp (by kernel_rfl) htt, Eq.mp (by kernel_rfl) da76, Eq.mp (by kernel_rfl) (noM_sound (P := Tryz.prog)), by kernel_rfl, [.int .i64 (a0), encL (encMsg 1) 1 (((decL decMsg) a1)), encPReplica 1 ((decPReplica a2))], args_of_vles (⟨VLe.refl _, hob.1, hob.2.1, trivial⟩), Eq.mp (by kernel_rfl) (bd76 a0 ((decL decMsg) a1) (decPReplica a2) (hob.2.2))⟩
  · cases hDe

/-! ### spec.l11Asked -/
def pr48 (f : Int) (l : List Msg) (r : Replica) : Prop := bdL l
noncomputable def rs48 (f : Int) (l : List Msg) (r : Replica) : V := .int .i64 (replicaFault f l r)
noncomputable def sp48 : FSpec := fun args bin => match args, bin with
  | [.int .i64 a0, a1, a2], [] => some (VLe a1 (encL (encMsg 1) 1 (((decL decMsg) a1))) ∧ VLe a2 (encPReplica 1 ((decPReplica a2))) ∧ pr48 a0 ((decL decMsg) a1) (decPReplica a2), rs48 a0 ((decL decMsg) a1) (decPReplica a2), [])
  | _, _ => none
noncomputable def D48 : Nat → Option (Bool × FSpec) := lk [(29, (false, sp29)), (76, (false, sp76))]
theorem da48 : SoundAll Tryz.prog D48 := soundAll_cons so29 (soundAll_cons so76 (soundAll_nil))
noncomputable def cx48 (f : Int) (l : List Msg) (r : Replica) : Cx := ⟨tt, D48, Tryz.f48.ntmps, [0, 1, 2, 6, 7, 12], [], [], fun _ => none, [], noM, []⟩
theorem bd48 (f : Int) (l : List Msg) (r : Replica) (hpre : pr48 f l r) : bodyP (cx48 f l r) Tryz.f48 0 [.int .i64 (f), encL (encMsg 1) 1 (l), encPReplica 1 (r)] (fun rr => VLe rr (rs48 f l r)) := by
  have key : (((VLe (encL (encMsg 1) 1 l) (encL (encMsg 1) 1 (decL decMsg (encL (encMsg 1) 1 l)))) ∧ (pr29 f (decL decMsg (encL (encMsg 1) 1 l)))) ∧ ((((ledgerFault f (decL decMsg (encL (encMsg 1) 1 l)) != (0 : Int)) = true) → (VLe (vi (ledgerFault f (decL decMsg (encL (encMsg 1) 1 l)))) (vi (replicaFault f l r)))) ∧ (((ledgerFault f (decL decMsg (encL (encMsg 1) 1 l)) != (0 : Int)) = false) → (((VLe (encL (encMsg 1) 1 l) (encL (encMsg 1) 1 (decL decMsg (encL (encMsg 1) 1 l)))) ∧ ((VLe (encPReplica 1 r) (encPReplica 1 (decPReplica (encPReplica 1 r)))) ∧ (pr76 f (decL decMsg (encL (encMsg 1) 1 l)) (decPReplica (encPReplica 1 r))))) ∧ (VLe (vi (repF f (decL decMsg (encL (encMsg 1) 1 l)) (decPReplica (encPReplica 1 r)) (↑(List.length (logL f (decL decMsg (encL (encMsg 1) 1 l)))) : Int))) (vi (replicaFault f l r))))))) := by
    delta vi
    simp only [decL_Msg, dec_encPReplica]
    refine ⟨⟨VLe.refl _, hpre⟩, fun h => ?_, fun h => ?_⟩
    · exact vle_int (by unfold replicaFault; rw [if_pos (by simpa using h)])
    · have h0 : ledgerFault f l = 0 := by simpa using h
      have hr := right_of h0
      exact ⟨⟨VLe.refl _, VLe.refl _, hr, hpre⟩, vle_int (by unfold replicaFault; rw [if_neg (not_not_intro h0)])⟩
  exact Eq.mp (by kernel_rfl) key
theorem so48 : Sound Tryz.prog 48 sp48 := by
  refine sound_of_body hmix (pol := 0) Tryz.func48 rfl (by kernel_rfl) fun args bin ob r bout hDe hob => ?_
  unfold sp48 at hDe
  split at hDe
  · rename_i a0 a1 a2
    cases hDe
    exact ⟨rfl, rfl, Nat.le_of_ble_eq_true (by kernel_rfl), cx48 a0 ((decL decMsg) a1) (decPReplica a2), Eq.mp (by kernel_rfl) htt, Eq.mp (by kernel_rfl) da48, Eq.mp (by kernel_rfl) (noM_sound (P := Tryz.prog)), by kernel_rfl, [.int .i64 (a0), encL (encMsg 1) 1 (((decL decMsg) a1)), encPReplica 1 ((decPReplica a2))], args_of_vles (⟨VLe.refl _, hob.1, hob.2.1, trivial⟩), Eq.mp (by kernel_rfl) (bd48 a0 ((decL decMsg) a1) (decPReplica a2) (hob.2.2))⟩
  · cases hDe

end Go.Av
