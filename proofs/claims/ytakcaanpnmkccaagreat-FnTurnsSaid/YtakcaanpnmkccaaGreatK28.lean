/- The new view of a primary. -/
import Derived.Test.YtakcaanpnmkccaaGreatK10
import Derived.Test.YtakcaanpnmkccaaGreatK20
namespace Go.Av
open Go.Proofs
set_option maxRecDepth 100000
set_option linter.unusedVariables false
set_option linter.unusedSimpArgs false

noncomputable def newF (f : Int) (l : List Msg) (r : Replica) : MsgResult :=
  if r.view = 0 ∨ r.id ≠ primaryF f r.view ∨ r.start ≠ -1 then ⟨8, default⟩ else if ((chL f l r.view).length : Int) < 2 * f + 1 then ⟨10, default⟩ else ⟨0, ⟨5, r.view, r.id, 0, 0, [], chL f l r.view⟩⟩
noncomputable def newMsgF (f : Int) (l : List Msg) (r : Replica) : MsgResult :=
  if replicaFault f l r ≠ 0 then ⟨replicaFault f l r, default⟩ else newF f l r



/-! ### Replica).newMsg%o -/
def pr53o (r : Replica) (f : Int) (l : List Msg) : Prop := Right f l ∧ bdL l ∧ inR r.view 0 20
noncomputable def ro53o (r : Replica) (f : Int) (l : List Msg) : MsgResult := newF f l r
noncomputable def rb53o (r : Replica) (f : Int) (l : List Msg) : List Blk := [(.arr 3 (((ro53o r f l).msg).certs).length (gL (encCert 1) (((ro53o r f l).msg).certs)) tagS), (.arr 1 (((ro53o r f l).msg).refs).length (gL encI (((ro53o r f l).msg).refs)) tagS)]
noncomputable def rs53o (r : Replica) (f : Int) (l : List Msg) : V := .agg [.int .i64 ((ro53o r f l).code), .int .i64 (((ro53o r f l).msg).kind), .int .i64 (((ro53o r f l).msg).view), .int .i64 (((ro53o r f l).msg).sender), .int .i64 (((ro53o r f l).msg).slot), .int .i64 (((ro53o r f l).msg).value), .osl 0 (((ro53o r f l).msg).certs).length, .osl 1 (((ro53o r f l).msg).refs).length]
noncomputable def sp53o : FSpec := fun args bin => match args, bin with
  | [a0, .int .i64 a1, a2], [] => some (VLe a0 (encPReplica 1 ((decPReplica a0))) ∧ VLe a2 (encL (encMsg 1) 1 (((decL decMsg) a2))) ∧ pr53o (decPReplica a0) a1 ((decL decMsg) a2), rs53o (decPReplica a0) a1 ((decL decMsg) a2), rb53o (decPReplica a0) a1 ((decL decMsg) a2))
  | _, _ => none
noncomputable def D53o : Nat → Option (Bool × FSpec) := lk [(37, (false, sp37)), (32, (false, sp32o))]
theorem da53o : SoundAll Tryz.prog D53o := soundAll_cons so37 (soundAll_cons so32o (soundAll_nil))
noncomputable def cx53o (r : Replica) (f : Int) (l : List Msg) : Cx := ⟨tt, D53o, Tryz.f53.ntmps, [0, 1, 2, 6, 7, 32, 46], [], [], fun _ => none, [], noM, []⟩
noncomputable def k53o_0 (r : Replica) (f : Int) (l : List Msg) : V := (V.agg [vi (MsgResult.code (ro53o r f l)), vi (Msg.kind (MsgResult.msg (ro53o r f l))), vi (Msg.view (MsgResult.msg (ro53o r f l))), vi (Msg.sender (MsgResult.msg (ro53o r f l))), vi (Msg.slot (MsgResult.msg (ro53o r f l))), vi (Msg.value (MsgResult.msg (ro53o r f l))), V.osl 0 (List.length (Msg.certs (MsgResult.msg (ro53o r f l)))), V.osl 1 (List.length (Msg.refs (MsgResult.msg (ro53o r f l))))])
noncomputable def k53o_1 (r : Replica) (f : Int) (l : List Msg) : Prop := (BLe (Blk.arr 3 0 (fun (x : Nat) ↦ V.undef) 100) (Blk.arr 3 (List.length (Msg.certs (MsgResult.msg (ro53o r f l)))) (gL (encCert 1) (Msg.certs (MsgResult.msg (ro53o r f l)))) 100))
noncomputable def k53o_2 (r : Replica) (f : Int) (l : List Msg) : Blk := (Blk.arr 1 (List.length (Msg.refs (MsgResult.msg (ro53o r f l)))) (gL encI (Msg.refs (MsgResult.msg (ro53o r f l)))) 100)
noncomputable def k53o_3 (r : Replica) (f : Int) (l : List Msg) : Nat := (List.length (ro32o f (decL decMsg (encL (encMsg 1) 1 l)) (Replica.view r)))
theorem bd53o (r : Replica) (f : Int) (l : List Msg) (hpre : pr53o r f l) : bodyO (cx53o r f l) Tryz.f53 [(6, 3), (7, 1)] [encPReplica 1 (r), .int .i64 (f), encL (encMsg 1) 1 (l)] [] (fun rr bs => VLe rr (rs53o r f l) ∧ BinLe bs (rb53o r f l)) := by
  have key : ((tq (!Replica.view r == (0 : Int))) ∧ ((tq (!Replica.view r == (0 : Int))) ∧ ((tq (!Replica.view r == (0 : Int))) ∧ ((tq (!Replica.view r == (0 : Int))) ∧ ((tq (!Replica.view r == (0 : Int))) ∧ ((tq (!Replica.view r == (0 : Int))) ∧ ((tq (!Replica.view r == (0 : Int))) ∧ ((tq (!Replica.view r == (0 : Int))) ∧ ((((!Replica.view r == (0 : Int)) = true) → (pr37 f (Replica.view r))) ∧ ((tq (!Replica.view r == (0 : Int))) ∧ ((tq (!Replica.view r == (0 : Int))) ∧ (((true = true) → (((Replica.view r == (0 : Int)) = false) → ((!Replica.view r == (0 : Int)) = true))) ∧ (∀ b : Bool, ((b = bif Replica.view r == (0 : Int) then true else Replica.id r != primaryF f (Replica.view r)) → ((tq (!b)) ∧ ((tq (!b)) ∧ ((tq (!b)) ∧ ((tq (!b)) ∧ (((true = true) → ((b = false) → ((!b) = true))) ∧ (∀ b_1 : Bool, ((b_1 = bif b then true else Replica.start r != (-1 : Int)) → (((b_1 = true) → ((VLe (V.agg [vi (8 : Int), vi (0 : Int), vi (0 : Int), vi (0 : Int), vi (0 : Int), vi (0 : Int), V.osl 0 0, V.osl 1 0]) (k53o_0 r f l)) ∧ ((k53o_1 r f l) ∧ ((BLe (Blk.arr 1 0 (fun (x : Nat) ↦ V.undef) 100) (k53o_2 r f l)) ∧ (True))))) ∧ ((b_1 = false) → (((VLe (encL (encMsg 1) 1 l) (encL (encMsg 1) 1 (decL decMsg (encL (encMsg 1) 1 l)))) ∧ (pr32o f (decL decMsg (encL (encMsg 1) 1 l)) (Replica.view r))) ∧ ((inK IntKind.i64 ((2 : Int) * f)) ∧ ((inK IntKind.i64 ((2 : Int) * f + (1 : Int))) ∧ (((decide ((↑(k53o_3 r f l) : Int) < (2 : Int) * f + (1 : Int)) = true) → ((VLe (V.agg [vi (10 : Int), vi (0 : Int), vi (0 : Int), vi (0 : Int), vi (0 : Int), vi (0 : Int), V.osl 0 0, V.osl 1 0]) (k53o_0 r f l)) ∧ ((k53o_1 r f l) ∧ ((BLe (Blk.arr 1 0 (fun (x : Nat) ↦ V.undef) 100) (k53o_2 r f l)) ∧ (True))))) ∧ ((decide ((↑(k53o_3 r f l) : Int) < (2 : Int) * f + (1 : Int)) = false) → ((VLe (V.agg [vi (0 : Int), vi (5 : Int), vi (Replica.view r), vi (Replica.id r), vi (0 : Int), vi (0 : Int), V.osl 0 0, V.osl 1 (k53o_3 r f l)]) (k53o_0 r f l)) ∧ ((k53o_1 r f l) ∧ ((BLe (Blk.arr 1 (k53o_3 r f l) (gL encI (ro32o f (decL decMsg (encL (encMsg 1) 1 l)) (Replica.view r))) 100) (k53o_2 r f l)) ∧ (True)))))))))))))))))))))))))))))))) := by
    delta k53o_3; delta k53o_2; delta k53o_1; delta k53o_0; delta vi
    obtain ⟨hr, hl, hv⟩ := hpre
    simp only [decL_Msg, ro53o, ro32o]
    repeat (first | (refine And.intro (fun h _ => h) ?_) | (refine And.intro (fun _ h => h) ?_) | (refine And.intro ?aa ?_; case aa => (exact fun _ => ⟨hr.okf, hv⟩)) | (refine And.intro ?aa ?_; case aa => (intros; simp_all [pr37, pr32o]; done)) | (refine And.intro ?aa ?_; case aa => (intros; exact inK64 (by omega))) | (refine And.intro ?aa ?_; case aa => (intros; simp only [decide_eq_true_eq] at *; omega)) | (intro q hq))
    have e0 : q = decide (r.view = 0 ∨ r.id ≠ primaryF f r.view ∨ r.start ≠ -1) := by
      subst_vars
      rw [Bool.eq_iff_iff, decide_eq_true_eq]
      by_cases a1 : r.view = 0 <;> by_cases a2 : r.id = primaryF f r.view <;> simp [a1, a2]
    clear hq
    subst e0
    refine ⟨fun h => ?_, fun h => ?_⟩
    · have e : newF f l r = ⟨8, default⟩ := if_pos (of_decide_eq_true h)
      rw [e]
      exact ⟨VLe.refl _, ble_nil _, ble_nil _, trivial⟩
    have h1 := of_decide_eq_false h
    have hf : 1 ≤ f ∧ f ≤ 2 := by have := hr.okf; unfold okF at this; omega
  
    refine ⟨⟨VLe.refl _, hr, hl⟩, inK64 (by omega), inK64 (by omega), fun h2 => ?_, fun h2 => ?_⟩
    · have e : newF f l r = ⟨10, default⟩ := by unfold newF; rw [if_neg h1, if_pos (of_decide_eq_true h2)]
      rw [e]
      exact ⟨VLe.refl _, ble_nil _, ble_nil _, trivial⟩
    · have e : newF f l r = ⟨0, ⟨5, r.view, r.id, 0, 0, [], chL f l r.view⟩⟩ := by unfold newF; rw [if_neg h1, if_neg (of_decide_eq_false h2)]
      rw [e]
      exact ⟨VLe.refl _, ble_nil _, BLe.refl _, trivial⟩
  exact Eq.mp (by kernel_rfl) key
theorem so53o : Sound Tryz.prog 53 sp53o := by
  refine sound_of_bodyO hmix (tpl := [(6, 3), (7, 1)]) Tryz.func53 rfl (by kernel_rfl) fun args bin ob r bout hDe hob => ?_
  unfold sp53o at hDe
  split at hDe
  · rename_i a0 a1 a2
    cases hDe
    exact ⟨Nat.le_of_ble_eq_true (by kernel_rfl), cx53o (decPReplica a0) a1 ((decL decMsg) a2), Eq.mp (by kernel_rfl) htt, Eq.mp (by kernel_rfl) da53o, Eq.mp (by kernel_rfl) (noM_sound (P := Tryz.prog)), by kernel_rfl, [encPReplica 1 ((decPReplica a0)), .int .i64 (a1), encL (encMsg 1) 1 (((decL decMsg) a2))], [], args_of_vles (⟨hob.1, VLe.refl _, hob.2.1, trivial⟩), trivial, Eq.mp (by kernel_rfl) (bd53o (decPReplica a0) a1 ((decL decMsg) a2) (hob.2.2))⟩
  · cases hDe

/-! ### impl.NewMsg%o -/
def pr20o (f : Int) (l : List Msg) (r : Replica) : Prop := bdL l
noncomputable def ro20o (f : Int) (l : List Msg) (r : Replica) : MsgResult := newMsgF f l r
noncomputable def rb20o (f : Int) (l : List Msg) (r : Replica) : List Blk := [(.arr 3 (((ro20o f l r).msg).certs).length (gL (encCert 1) (((ro20o f l r).msg).certs)) tagS), (.arr 1 (((ro20o f l r).msg).refs).length (gL encI (((ro20o f l r).msg).refs)) tagS)]
noncomputable def rs20o (f : Int) (l : List Msg) (r : Replica) : V := .agg [.int .i64 ((ro20o f l r).code), .int .i64 (((ro20o f l r).msg).kind), .int .i64 (((ro20o f l r).msg).view), .int .i64 (((ro20o f l r).msg).sender), .int .i64 (((ro20o f l r).msg).slot), .int .i64 (((ro20o f l r).msg).value), .osl 0 (((ro20o f l r).msg).certs).length, .osl 1 (((ro20o f l r).msg).refs).length]
noncomputable def sp20o : FSpec := fun args bin => match args, bin with
  | [.int .i64 a0, a1, a2], [] => some (VLe a1 (encL (encMsg 1) 1 (((decL decMsg) a1))) ∧ VLe a2 (encReplica 1 ((decReplica a2))) ∧ pr20o a0 ((decL decMsg) a1) (decReplica a2), rs20o a0 ((decL decMsg) a1) (decReplica a2), rb20o a0 ((decL decMsg) a1) (decReplica a2))
  | _, _ => none
noncomputable def D20o : Nat → Option (Bool × FSpec) := lk [(46, (false, sp46)), (53, (false, sp53o))]
theorem da20o : SoundAll Tryz.prog D20o := soundAll_cons so46 (soundAll_cons so53o (soundAll_nil))
noncomputable def cx20o (f : Int) (l : List Msg) (r : Replica) : Cx := ⟨tt, D20o, Tryz.f20.ntmps, [0, 1, 2, 5, 6, 7, 13], [], [], fun _ => none, [], noM, []⟩
noncomputable def k20o_0 (f : Int) (l : List Msg) (r : Replica) : V := (V.agg [vi (MsgResult.code (ro20o f l r)), vi (Msg.kind (MsgResult.msg (ro20o f l r))), vi (Msg.view (MsgResult.msg (ro20o f l r))), vi (Msg.sender (MsgResult.msg (ro20o f l r))), vi (Msg.slot (MsgResult.msg (ro20o f l r))), vi (Msg.value (MsgResult.msg (ro20o f l r))), V.osl 0 (List.length (Msg.certs (MsgResult.msg (ro20o f l r)))), V.osl 1 (List.length (Msg.refs (MsgResult.msg (ro20o f l r))))])
theorem bd20o (f : Int) (l : List Msg) (r : Replica) (hpre : pr20o f l r) : bodyO (cx20o f l r) Tryz.f20 [(6, 3), (7, 1)] [.int .i64 (f), encL (encMsg 1) 1 (l), encReplica 1 (r)] [] (fun rr bs => VLe rr (rs20o f l r) ∧ BinLe bs (rb20o f l r)) := by
  have key : (((VLe (encL (encMsg 1) 1 l) (encL (encMsg 1) 1 (decL decMsg (encL (encMsg 1) 1 l)))) ∧ ((VLe (encReplica 1 r) (encReplica 1 (decReplica (encReplica 1 r)))) ∧ (pr46 f (decL decMsg (encL (encMsg 1) 1 l)) (decReplica (encReplica 1 r))))) ∧ ((((replicaFault f (decL decMsg (encL (encMsg 1) 1 l)) (decReplica (encReplica 1 r)) != (0 : Int)) = true) → ((VLe (V.agg [vi (replicaFault f (decL decMsg (encL (encMsg 1) 1 l)) (decReplica (encReplica 1 r))), vi (0 : Int), vi (0 : Int), vi (0 : Int), vi (0 : Int), vi (0 : Int), V.osl 0 0, V.osl 1 0]) (k20o_0 f l r)) ∧ ((BLe (Blk.arr 3 0 (fun (x : Nat) ↦ V.undef) 100) (Blk.arr 3 (List.length (Msg.certs (MsgResult.msg (ro20o f l r)))) (gL (encCert 1) (Msg.certs (MsgResult.msg (ro20o f l r)))) 100)) ∧ ((BLe (Blk.arr 1 0 (fun (x : Nat) ↦ V.undef) 100) (Blk.arr 1 (List.length (Msg.refs (MsgResult.msg (ro20o f l r)))) (gL encI (Msg.refs (MsgResult.msg (ro20o f l r)))) 100)) ∧ (True))))) ∧ (((replicaFault f (decL decMsg (encL (encMsg 1) 1 l)) (decReplica (encReplica 1 r)) != (0 : Int)) = false) → (((VLe (encPReplica 1 r) (encPReplica 1 (decPReplica (encPReplica 1 r)))) ∧ ((VLe (encL (encMsg 1) 1 l) (encL (encMsg 1) 1 (decL decMsg (encL (encMsg 1) 1 l)))) ∧ (pr53o (decPReplica (encPReplica 1 r)) f (decL decMsg (encL (encMsg 1) 1 l))))) ∧ ((VLe (V.agg [vi (MsgResult.code (ro53o (decPReplica (encPReplica 1 r)) f (decL decMsg (encL (encMsg 1) 1 l)))), vi (Msg.kind (MsgResult.msg (ro53o (decPReplica (encPReplica 1 r)) f (decL decMsg (encL (encMsg 1) 1 l))))), vi (Msg.view (MsgResult.msg (ro53o (decPReplica (encPReplica 1 r)) f (decL decMsg (encL (encMsg 1) 1 l))))), vi (Msg.sender (MsgResult.msg (ro53o (decPReplica (encPReplica 1 r)) f (decL decMsg (encL (encMsg 1) 1 l))))), vi (Msg.slot (MsgResult.msg (ro53o (decPReplica (encPReplica 1 r)) f (decL decMsg (encL (encMsg 1) 1 l))))), vi (Msg.value (MsgResult.msg (ro53o (decPReplica (encPReplica 1 r)) f (decL decMsg (encL (encMsg 1) 1 l))))), V.osl 0 (List.length (Msg.certs (MsgResult.msg (ro53o (decPReplica (encPReplica 1 r)) f (decL decMsg (encL (encMsg 1) 1 l)))))), V.osl 1 (List.length (Msg.refs (MsgResult.msg (ro53o (decPReplica (encPReplica 1 r)) f (decL decMsg (encL (encMsg 1) 1 l))))))]) (k20o_0 f l r)) ∧ ((BLe (Blk.arr 3 (List.length (Msg.certs (MsgResult.msg (ro53o (decPReplica (encPReplica 1 r)) f (decL decMsg (encL (encMsg 1) 1 l)))))) (gL (encCert 1) (Msg.certs (MsgResult.msg (ro53o (decPReplica (encPReplica 1 r)) f (decL decMsg (encL (encMsg 1) 1 l)))))) 100) (Blk.arr 3 (List.length (Msg.certs (MsgResult.msg (ro20o f l r)))) (gL (encCert 1) (Msg.certs (MsgResult.msg (ro20o f l r)))) 100)) ∧ ((BLe (Blk.arr 1 (List.length (Msg.refs (MsgResult.msg (ro53o (decPReplica (encPReplica 1 r)) f (decL decMsg (encL (encMsg 1) 1 l)))))) (gL encI (Msg.refs (MsgResult.msg (ro53o (decPReplica (encPReplica 1 r)) f (decL decMsg (encL (encMsg 1) 1 l)))))) 100) (Blk.arr 1 (List.length (Msg.refs (MsgResult.msg (ro20o f l r)))) (gL encI (Msg.refs (MsgResult.msg (ro20o f l r)))) 100)) ∧ (True)))))))) := by
    delta k20o_0; delta vi
    simp only [decL_Msg, dec_encReplica, dec_encPReplica, ro20o, ro53o]
    refine ⟨⟨VLe.refl _, VLe.refl _, hpre⟩, fun h => ?_, fun h => ?_⟩
    · have e : newMsgF f l r = ⟨replicaFault f l r, default⟩ := if_pos (by simpa using h)
      rw [e]
      exact ⟨VLe.refl _, ble_nil _, ble_nil _, trivial⟩
    have h0 : replicaFault f l r = 0 := by simpa using h
    obtain ⟨hr, hv⟩ := replica_right h0
    have e' : newMsgF f l r = newF f l r := if_neg (not_not_intro h0)
    rw [e']
    exact ⟨⟨VLe.refl _, VLe.refl _, hr, hpre, hv⟩, VLe.refl _, BLe.refl _, BLe.refl _, trivial⟩
  exact Eq.mp (by kernel_rfl) key
theorem so20o : Sound Tryz.prog 20 sp20o := by
  refine sound_of_bodyO hmix (tpl := [(6, 3), (7, 1)]) Tryz.func20 rfl (by kernel_rfl) fun args bin ob r bout hDe hob => ?_
  unfold sp20o at hDe
  split at hDe
  · rename_i a0 a1 a2
    cases hDe
    exact ⟨Nat.le_of_ble_eq_true (by kernel_rfl), cx20o a0 ((decL decMsg) a1) (decReplica a2), Eq.mp (by kernel_rfl) htt, Eq.mp (by kernel_rfl) da20o, Eq.mp (by kernel_rfl) (noM_sound (P := Tryz.prog)), by kernel_rfl, [.int .i64 (a0), encL (encMsg 1) 1 (((decL decMsg) a1)), encReplica 1 ((decReplica a2))], [], args_of_vles (⟨VLe.refl _, hob.1, hob.2.1, trivial⟩), trivial, Eq.mp (by kernel_rfl) (bd20o a0 ((decL decMsg) a1) (decReplica a2) (hob.2.2))⟩
  · cases hDe

/-! ### spec.NewMsg%o -/
def pr22o (f : Int) (l : List Msg) (r : Replica) : Prop := bdL l
noncomputable def ro22o (f : Int) (l : List Msg) (r : Replica) : MsgResult := newMsgF f l r
noncomputable def rb22o (f : Int) (l : List Msg) (r : Replica) : List Blk := [(.arr 3 (((ro22o f l r).msg).certs).length (gL (encCert 1) (((ro22o f l r).msg).certs)) tagS), (.arr 1 (((ro22o f l r).msg).refs).length (gL encI (((ro22o f l r).msg).refs)) tagS)]
noncomputable def rs22o (f : Int) (l : List Msg) (r : Replica) : V := .agg [.int .i64 ((ro22o f l r).code), .int .i64 (((ro22o f l r).msg).kind), .int .i64 (((ro22o f l r).msg).view), .int .i64 (((ro22o f l r).msg).sender), .int .i64 (((ro22o f l r).msg).slot), .int .i64 (((ro22o f l r).msg).value), .osl 0 (((ro22o f l r).msg).certs).length, .osl 1 (((ro22o f l r).msg).refs).length]
noncomputable def sp22o : FSpec := fun args bin => match args, bin with
  | [.int .i64 a0, a1, a2], [] => some (VLe a1 (encL (encMsg 1) 1 (((decL decMsg) a1))) ∧ VLe a2 (encReplica 1 ((decReplica a2))) ∧ pr22o a0 ((decL decMsg) a1) (decReplica a2), rs22o a0 ((decL decMsg) a1) (decReplica a2), rb22o a0 ((decL decMsg) a1) (decReplica a2))
  | _, _ => none
noncomputable def D22o : Nat → Option (Bool × FSpec) := lk [(48, (false, sp48)), (55, (false, sp55)), (34, (false, sp34o)), (56, (false, sp56))]
theorem da22o : SoundAll Tryz.prog D22o := soundAll_cons so48 (soundAll_cons so55 (soundAll_cons so34o (soundAll_cons so56 (soundAll_nil))))
noncomputable def cx22o (f : Int) (l : List Msg) (r : Replica) : Cx := ⟨tt, D22o, Tryz.f22.ntmps, [0, 1, 2, 5, 6, 7, 8, 13, 32, 43], [], [], fun _ => none, [], noM, []⟩
noncomputable def k22o_0 (f : Int) (l : List Msg) (r : Replica) : V := (V.agg [vi (MsgResult.code (ro22o f l r)), vi (Msg.kind (MsgResult.msg (ro22o f l r))), vi (Msg.view (MsgResult.msg (ro22o f l r))), vi (Msg.sender (MsgResult.msg (ro22o f l r))), vi (Msg.slot (MsgResult.msg (ro22o f l r))), vi (Msg.value (MsgResult.msg (ro22o f l r))), V.osl 0 (List.length (Msg.certs (MsgResult.msg (ro22o f l r)))), V.osl 1 (List.length (Msg.refs (MsgResult.msg (ro22o f l r))))])
noncomputable def k22o_1 (f : Int) (l : List Msg) (r : Replica) : Prop := (BLe (Blk.arr 3 0 (fun (x : Nat) ↦ V.undef) 100) (Blk.arr 3 (List.length (Msg.certs (MsgResult.msg (ro22o f l r)))) (gL (encCert 1) (Msg.certs (MsgResult.msg (ro22o f l r)))) 100))
noncomputable def k22o_2 (f : Int) (l : List Msg) (r : Replica) : Blk := (Blk.arr 1 (List.length (Msg.refs (MsgResult.msg (ro22o f l r)))) (gL encI (Msg.refs (MsgResult.msg (ro22o f l r)))) 100)
noncomputable def k22o_3 (f : Int) (l : List Msg) (r : Replica) : Nat := (List.length (ro34o f (decL decMsg (encL (encMsg 1) 1 l)) (Replica.view r)))
theorem bd22o (f : Int) (l : List Msg) (r : Replica) (hpre : pr22o f l r) : bodyO (cx22o f l r) Tryz.f22 [(6, 3), (7, 1)] [.int .i64 (f), encL (encMsg 1) 1 (l), encReplica 1 (r)] [] (fun rr bs => VLe rr (rs22o f l r) ∧ BinLe bs (rb22o f l r)) := by
  have key : (((VLe (encL (encMsg 1) 1 l) (encL (encMsg 1) 1 (decL decMsg (encL (encMsg 1) 1 l)))) ∧ ((VLe (encPReplica 1 r) (encPReplica 1 (decPReplica (encPReplica 1 r)))) ∧ (pr48 f (decL decMsg (encL (encMsg 1) 1 l)) (decPReplica (encPReplica 1 r))))) ∧ ((((replicaFault f (decL decMsg (encL (encMsg 1) 1 l)) (decPReplica (encPReplica 1 r)) != (0 : Int)) = true) → ((VLe (V.agg [vi (replicaFault f (decL decMsg (encL (encMsg 1) 1 l)) (decPReplica (encPReplica 1 r))), vi (0 : Int), vi (0 : Int), vi (0 : Int), vi (0 : Int), vi (0 : Int), V.osl 0 0, V.osl 1 0]) (k22o_0 f l r)) ∧ ((k22o_1 f l r) ∧ ((BLe (Blk.arr 1 0 (fun (x : Nat) ↦ V.undef) 100) (k22o_2 f l r)) ∧ (True))))) ∧ (((replicaFault f (decL decMsg (encL (encMsg 1) 1 l)) (decPReplica (encPReplica 1 r)) != (0 : Int)) = false) → ((tq (!Replica.view r == (0 : Int))) ∧ ((tq (!Replica.view r == (0 : Int))) ∧ ((tq (!Replica.view r == (0 : Int))) ∧ ((tq (!Replica.view r == (0 : Int))) ∧ ((((!Replica.view r == (0 : Int)) = true) → (pr55 f (Replica.view r))) ∧ ((tq (!Replica.view r == (0 : Int))) ∧ ((tq (!Replica.view r == (0 : Int))) ∧ (((true = true) → (((Replica.view r == (0 : Int)) = false) → ((!Replica.view r == (0 : Int)) = true))) ∧ (∀ b : Bool, ((b = bif Replica.view r == (0 : Int) then true else Replica.id r != primaryF f (Replica.view r)) → ((tq (!b)) ∧ ((tq (!b)) ∧ (((true = true) → ((b = false) → ((!b) = true))) ∧ (∀ b_1 : Bool, ((b_1 = bif b then true else Replica.start r != (-1 : Int)) → (((b_1 = true) → ((VLe (V.agg [vi (8 : Int), vi (0 : Int), vi (0 : Int), vi (0 : Int), vi (0 : Int), vi (0 : Int), V.osl 0 0, V.osl 1 0]) (k22o_0 f l r)) ∧ ((k22o_1 f l r) ∧ ((BLe (Blk.arr 1 0 (fun (x : Nat) ↦ V.undef) 100) (k22o_2 f l r)) ∧ (True))))) ∧ ((b_1 = false) → (((VLe (encL (encMsg 1) 1 l) (encL (encMsg 1) 1 (decL decMsg (encL (encMsg 1) 1 l)))) ∧ (pr34o f (decL decMsg (encL (encMsg 1) 1 l)) (Replica.view r))) ∧ ((pr56 f) ∧ (((decide ((↑(k22o_3 f l r) : Int) < (2 : Int) * f + (1 : Int)) = true) → ((VLe (V.agg [vi (10 : Int), vi (0 : Int), vi (0 : Int), vi (0 : Int), vi (0 : Int), vi (0 : Int), V.osl 0 0, V.osl 1 0]) (k22o_0 f l r)) ∧ ((k22o_1 f l r) ∧ ((BLe (Blk.arr 1 0 (fun (x : Nat) ↦ V.undef) 100) (k22o_2 f l r)) ∧ (True))))) ∧ ((decide ((↑(k22o_3 f l r) : Int) < (2 : Int) * f + (1 : Int)) = false) → ((VLe (V.agg [vi (0 : Int), vi (5 : Int), vi (Replica.view r), vi (Replica.id r), vi (0 : Int), vi (0 : Int), V.osl 0 0, V.osl 1 (k22o_3 f l r)]) (k22o_0 f l r)) ∧ ((k22o_1 f l r) ∧ ((BLe (Blk.arr 1 (k22o_3 f l r) (gL encI (ro34o f (decL decMsg (encL (encMsg 1) 1 l)) (Replica.view r))) 100) (k22o_2 f l r)) ∧ (True)))))))))))))))))))))))))))) := by
    delta k22o_3; delta k22o_2; delta k22o_1; delta k22o_0; delta vi
    simp only [decL_Msg, dec_encReplica, dec_encPReplica, ro22o, ro34o]
    refine ⟨⟨VLe.refl _, VLe.refl _, hpre⟩, fun h => ?_, fun h => ?_⟩
    · have e : newMsgF f l r = ⟨replicaFault f l r, default⟩ := if_pos (by simpa using h)
      rw [e]
      exact ⟨VLe.refl _, ble_nil _, ble_nil _, trivial⟩
    have h0 : replicaFault f l r = 0 := by simpa using h
    obtain ⟨hr, hv⟩ := replica_right h0
    have e' : newMsgF f l r = newF f l r := if_neg (not_not_intro h0)
    rw [e']
    repeat (first | (refine And.intro (fun h _ => h) ?_) | (refine And.intro (fun _ h => h) ?_) | (refine And.intro ?aa ?_; case aa => (exact fun _ => ⟨hr.okf, hv⟩)) | (refine And.intro ?aa ?_; case aa => (intros; simp_all [pr48, pr55, pr34o, pr56]; done)) | (refine And.intro ?aa ?_; case aa => (intros; exact inK64 (by omega))) | (refine And.intro ?aa ?_; case aa => (intros; simp only [decide_eq_true_eq] at *; omega)) | (intro q hq))
    have e0 : q = decide (r.view = 0 ∨ r.id ≠ primaryF f r.view ∨ r.start ≠ -1) := by
      subst_vars
      rw [Bool.eq_iff_iff, decide_eq_true_eq]
      by_cases a1 : r.view = 0 <;> by_cases a2 : r.id = primaryF f r.view <;> simp [a1, a2]
    clear hq
    subst e0
    refine ⟨fun h => ?_, fun h => ?_⟩
    · have e : newF f l r = ⟨8, default⟩ := if_pos (of_decide_eq_true h)
      rw [e]
      exact ⟨VLe.refl _, ble_nil _, ble_nil _, trivial⟩
    have h1 := of_decide_eq_false h
    have hf : 1 ≤ f ∧ f ≤ 2 := by have := hr.okf; unfold okF at this; omega
    refine ⟨⟨VLe.refl _, hr, hpre⟩, hr.okf, fun h2 => ?_, fun h2 => ?_⟩
    · have e : newF f l r = ⟨10, default⟩ := by unfold newF; rw [if_neg h1, if_pos (of_decide_eq_true h2)]
      rw [e]
      exact ⟨VLe.refl _, ble_nil _, ble_nil _, trivial⟩
    · have e : newF f l r = ⟨0, ⟨5, r.view, r.id, 0, 0, [], chL f l r.view⟩⟩ := by unfold newF; rw [if_neg h1, if_neg (of_decide_eq_false h2)]
      rw [e]
      exact ⟨VLe.refl _, ble_nil _, BLe.refl _, trivial⟩
  exact Eq.mp (by kernel_rfl) key
theorem so22o : Sound Tryz.prog 22 sp22o := by
  refine sound_of_bodyO hmix (tpl := [(6, 3), (7, 1)]) Tryz.func22 rfl (by kernel_rfl) fun args bin ob r bout hDe hob => ?_
  unfold sp22o at hDe
  split at hDe
  · rename_i a0 a1 a2
    cases hDe
    exact ⟨Nat.le_of_ble_eq_true (by kernel_rfl), cx22o a0 ((decL decMsg) a1) (decReplica a2), Eq.mp (by kernel_rfl) htt, Eq.mp (by kernel_rfl) da22o, Eq.mp (by kernel_rfl) (noM_sound (P := Tryz.prog)), by kernel_rfl, [.int .i64 (a0), encL (encMsg 1) 1 (((decL decMsg) a1)), encReplica 1 ((decReplica a2))], [], args_of_vles (⟨VLe.refl _, hob.1, hob.2.1, trivial⟩), trivial, Eq.mp (by kernel_rfl) (bd22o a0 ((decL decMsg) a1) (decReplica a2) (hob.2.2))⟩
  · cases hDe

end Go.Av
