/- The new view of a primary. -/
import Derived.Test.YtnfelcpanphhlaaGreatK10
import Derived.Test.YtnfelcpanphhlaaGreatK20
namespace Go.Av
open Go.Proofs
set_option maxRecDepth 100000
set_option linter.unusedVariables false
set_option linter.unusedSimpArgs false

noncomputable def newF (f : Int) (l : List Msg) (r : Replica) : MsgResult :=
  if r.view = 0 ∨ r.id ≠ primaryF f r.view ∨ r.start ≠ -1 then ⟨8, default⟩ else if ((chL f l r.view).length : Int) < 2 * f + 1 then ⟨10, default⟩ else ⟨0, ⟨5, r.view, r.id, 0, 0, [], chL f l r.view⟩⟩
noncomputable def newMsgF (f : Int) (l : List Msg) (r : Replica) : MsgResult :=
  if replicaFault f l r ≠ 0 then ⟨replicaFault f l r, default⟩ else newF f l r



/-! ### Replica).newMsg%o -/
def pr80o (r : Replica) (f : Int) (l : List Msg) : Prop := Right f l ∧ bdL l ∧ inR r.view 0 20
noncomputable def ro80o (r : Replica) (f : Int) (l : List Msg) : MsgResult := newF f l r
noncomputable def rb80o (r : Replica) (f : Int) (l : List Msg) : List Blk := [(.arr 3 (((ro80o r f l).msg).certs).length (gL (encCert 1) (((ro80o r f l).msg).certs)) tagS), (.arr 1 (((ro80o r f l).msg).refs).length (gL encI (((ro80o r f l).msg).refs)) tagS)]
noncomputable def rs80o (r : Replica) (f : Int) (l : List Msg) : V := .agg [.int .i64 ((ro80o r f l).code), .int .i64 (((ro80o r f l).msg).kind), .int .i64 (((ro80o r f l).msg).view), .int .i64 (((ro80o r f l).msg).sender), .int .i64 (((ro80o r f l).msg).slot), .int .i64 (((ro80o r f l).msg).value), .osl 0 (((ro80o r f l).msg).certs).length, .osl 1 (((ro80o r f l).msg).refs).length]
noncomputable def sp80o : FSpec := fun args bin => match args, bin with
  | [a0, .int .i64 a1, a2], [] => some (VLe a0 (encPReplica 1 ((decPReplica a0))) ∧ VLe a2 (encL (encMsg 1) 1 (((decL decMsg) a2))) ∧ pr80o (decPReplica a0) a1 ((decL decMsg) a2), rs80o (decPReplica a0) a1 ((decL decMsg) a2), rb80o (decPReplica a0) a1 ((decL decMsg) a2))
  | _, _ => none
noncomputable def D80o : Nat → Option (Bool × FSpec) := lk [(56, (false, sp56)), (51, (false, sp51o))]
theorem da80o : SoundAll Tryz.prog D80o := soundAll_cons so56 (soundAll_cons so51o (soundAll_nil))
noncomputable def cx80o (r : Replica) (f : Int) (l : List Msg) : Cx := ⟨tt, D80o, Tryz.f80.ntmps, [0, 1, 2, 6, 7, 32, 46], [], [], fun _ => none, [], noM, []⟩
theorem bd80o (r : Replica) (f : Int) (l : List Msg) (hpre : pr80o r f l) : bodyO (cx80o r f l) Tryz.f80 [(6, 3), (7, 1)] [encPReplica 1 (r), .int .i64 (f), encL (encMsg 1) 1 (l)] [] (fun rr bs => VLe rr (rs80o r f l) ∧ BinLe bs (rb80o r f l)) := by
  have key :
      ((tq (!Replica.view r == (0 : Int))) ∧
   ((tq (!Replica.view r == (0 : Int))) ∧
   ((tq (!Replica.view r == (0 : Int))) ∧
   ((tq (!Replica.view r == (0 : Int))) ∧
   ((tq (!Replica.view r == (0 : Int))) ∧
   ((tq (!Replica.view r == (0 : Int))) ∧
   ((tq (!Replica.view r == (0 : Int))) ∧
   ((tq (!Replica.view r == (0 : Int))) ∧
   ((((!Replica.view r == (0 : Int)) = true) →
   (pr56 f (Replica.view r))) ∧
   ((tq (!Replica.view r == (0 : Int))) ∧
   ((tq (!Replica.view r == (0 : Int))) ∧
   (((true = true) →
   (((Replica.view r == (0 : Int)) = false) →
   ((!Replica.view r == (0 : Int)) = true))) ∧
   (∀ b : Bool,
   ((b = bif Replica.view r == (0 : Int) then true else Replica.id r != primaryF f (Replica.view r)) →
   ((tq (!b)) ∧
   ((tq (!b)) ∧
   ((tq (!b)) ∧
   ((tq (!b)) ∧
   (((true = true) →
   ((b = false) →
   ((!b) = true))) ∧
   (∀ b_1 : Bool,
   ((b_1 = bif b then true else Replica.start r != (-1 : Int)) →
   (((b_1 = true) →
   ((VLe
   (V.agg
   [V.int IntKind.i64 (8 : Int), V.int IntKind.i64 (0 : Int), V.int IntKind.i64 (0 : Int), V.int IntKind.i64 (0 : Int),
   V.int IntKind.i64 (0 : Int), V.int IntKind.i64 (0 : Int), V.osl 0 0, V.osl 1 0])
   (V.agg
   [V.int IntKind.i64 (MsgResult.code (ro80o r f l)), V.int IntKind.i64 (Msg.kind (MsgResult.msg (ro80o r f l))),
   V.int IntKind.i64 (Msg.view (MsgResult.msg (ro80o r f l))),
   V.int IntKind.i64 (Msg.sender (MsgResult.msg (ro80o r f l))),
   V.int IntKind.i64 (Msg.slot (MsgResult.msg (ro80o r f l))),
   V.int IntKind.i64 (Msg.value (MsgResult.msg (ro80o r f l))),
   V.osl 0 (List.length (Msg.certs (MsgResult.msg (ro80o r f l)))),
   V.osl 1 (List.length (Msg.refs (MsgResult.msg (ro80o r f l))))])) ∧
   ((BLe (Blk.arr 3 0 (fun (x : Nat) ↦ V.undef) 100)
   (Blk.arr 3 (List.length (Msg.certs (MsgResult.msg (ro80o r f l))))
   (gL (encCert 1) (Msg.certs (MsgResult.msg (ro80o r f l)))) 100)) ∧
   ((BLe (Blk.arr 1 0 (fun (x : Nat) ↦ V.undef) 100)
   (Blk.arr 1 (List.length (Msg.refs (MsgResult.msg (ro80o r f l))))
   (gL encI (Msg.refs (MsgResult.msg (ro80o r f l)))) 100)) ∧
   (True))))) ∧
   ((b_1 = false) →
   (((VLe (encL (encMsg 1) 1 l)
   (encL (encMsg 1) 1 (decL decMsg (encL (encMsg 1) 1 l)))) ∧
   (pr51o f (decL decMsg (encL (encMsg 1) 1 l)) (Replica.view r))) ∧
   ((inK IntKind.i64 ((2 : Int) * f)) ∧
   ((inK IntKind.i64 ((2 : Int) * f + (1 : Int))) ∧
   (((decide
   ((↑(List.length (ro51o f (decL decMsg (encL (encMsg 1) 1 l)) (Replica.view r))) : Int) <
   (2 : Int) * f + (1 : Int)) =
   true) →
   ((VLe
   (V.agg
   [V.int IntKind.i64 (10 : Int), V.int IntKind.i64 (0 : Int), V.int IntKind.i64 (0 : Int),
   V.int IntKind.i64 (0 : Int), V.int IntKind.i64 (0 : Int), V.int IntKind.i64 (0 : Int), V.osl 0 0,
   V.osl 1 0])
   (V.agg
   [V.int IntKind.i64 (MsgResult.code (ro80o r f l)), V.int IntKind.i64 (Msg.kind (MsgResult.msg (ro80o r f l))),
   V.int IntKind.i64 (Msg.view (MsgResult.msg (ro80o r f l))),
   V.int IntKind.i64 (Msg.sender (MsgResult.msg (ro80o r f l))),
   V.int IntKind.i64 (Msg.slot (MsgResult.msg (ro80o r f l))),
   V.int IntKind.i64 (Msg.value (MsgResult.msg (ro80o r f l))),
   V.osl 0 (List.length (Msg.certs (MsgResult.msg (ro80o r f l)))),
   V.osl 1 (List.length (Msg.refs (MsgResult.msg (ro80o r f l))))])) ∧
   ((BLe (Blk.arr 3 0 (fun (x : Nat) ↦ V.undef) 100)
   (Blk.arr 3 (List.length (Msg.certs (MsgResult.msg (ro80o r f l))))
   (gL (encCert 1) (Msg.certs (MsgResult.msg (ro80o r f l)))) 100)) ∧
   ((BLe (Blk.arr 1 0 (fun (x : Nat) ↦ V.undef) 100)
   (Blk.arr 1 (List.length (Msg.refs (MsgResult.msg (ro80o r f l))))
   (gL encI (Msg.refs (MsgResult.msg (ro80o r f l)))) 100)) ∧
   (True))))) ∧
   ((decide
   ((↑(List.length (ro51o f (decL decMsg (encL (encMsg 1) 1 l)) (Replica.view r))) : Int) <
   (2 : Int) * f + (1 : Int)) =
   false) →
   ((VLe
   (V.agg
   [V.int IntKind.i64 (0 : Int), V.int IntKind.i64 (5 : Int), V.int IntKind.i64 (Replica.view r),
   V.int IntKind.i64 (Replica.id r), V.int IntKind.i64 (0 : Int), V.int IntKind.i64 (0 : Int),
   V.osl 0 0,
   V.osl 1 (List.length (ro51o f (decL decMsg (encL (encMsg 1) 1 l)) (Replica.view r)))])
   (V.agg
   [V.int IntKind.i64 (MsgResult.code (ro80o r f l)), V.int IntKind.i64 (Msg.kind (MsgResult.msg (ro80o r f l))),
   V.int IntKind.i64 (Msg.view (MsgResult.msg (ro80o r f l))),
   V.int IntKind.i64 (Msg.sender (MsgResult.msg (ro80o r f l))),
   V.int IntKind.i64 (Msg.slot (MsgResult.msg (ro80o r f l))),
   V.int IntKind.i64 (Msg.value (MsgResult.msg (ro80o r f l))),
   V.osl 0 (List.length (Msg.certs (MsgResult.msg (ro80o r f l)))),
   V.osl 1 (List.length (Msg.refs (MsgResult.msg (ro80o r f l))))])) ∧
   ((BLe (Blk.arr 3 0 (fun (x : Nat) ↦ V.undef) 100)
   (Blk.arr 3 (List.length (Msg.certs (MsgResult.msg (ro80o r f l))))
   (gL (encCert 1) (Msg.certs (MsgResult.msg (ro80o r f l)))) 100)) ∧
   ((BLe
   (Blk.arr 1 (List.length (ro51o f (decL decMsg (encL (encMsg 1) 1 l)) (Replica.view r)))
   (gL encI (ro51o f (decL decMsg (encL (encMsg 1) 1 l)) (Replica.view r))) 100)
   (Blk.arr 1 (List.length (Msg.refs (MsgResult.msg (ro80o r f l))))
   (gL encI (Msg.refs (MsgResult.msg (ro80o r f l)))) 100)) ∧
   (True)))))))))))))))))))))))))))))))) := by
    obtain ⟨hr, hl, hv⟩ := hpre
    simp only [decL_Msg, ro80o, ro51o]
    repeat (first | (refine And.intro (fun h _ => h) ?_) | (refine And.intro (fun _ h => h) ?_) | (refine And.intro ?aa ?_; case aa => (exact fun _ => ⟨hr.okf, hv⟩)) | (refine And.intro ?aa ?_; case aa => (intros; simp_all [pr56, pr51o]; done)) | (refine And.intro ?aa ?_; case aa => (intros; exact inK64 (by omega))) | (refine And.intro ?aa ?_; case aa => (intros; simp only [decide_eq_true_eq] at *; omega)) | (intro q hq))
    have e0 : q = decide (r.view = 0 ∨ r.id ≠ primaryF f r.view ∨ r.start ≠ -1) := by
      subst_vars
      rw [Bool.eq_iff_iff, decide_eq_true_eq]
      by_cases a1 : r.view = 0 <;> by_cases a2 : r.id = primaryF f r.view <;> simp [a1, a2]
    clear hq
    subst e0
    refine ⟨fun h => ?_, fun h => ?_⟩
    · have e : newF f l r = ⟨8, default⟩ := if_pos (of_decide_eq_true h)
      rw [e]
      exact ⟨VLe.refl _, ble_nil _, ble_nil _, trivial⟩
    have h1 := of_decide_eq_false h
    have hf : 1 ≤ f ∧ f ≤ 2 := by have := hr.okf; unfold okF at this; omega
  
    refine ⟨⟨VLe.refl _, hr, hl⟩, inK64 (by omega), inK64 (by omega), fun h2 => ?_, fun h2 => ?_⟩
    · have e : newF f l r = ⟨10, default⟩ := by unfold newF; rw [if_neg h1, if_pos (of_decide_eq_true h2)]
      rw [e]
      exact ⟨VLe.refl _, ble_nil _, ble_nil _, trivial⟩
    · have e : newF f l r = ⟨0, ⟨5, r.view, r.id, 0, 0, [], chL f l r.view⟩⟩ := by unfold newF; rw [if_neg h1, if_neg (of_decide_eq_false h2)]
      rw [e]
      exact ⟨VLe.refl _, ble_nil _, BLe.refl _, trivial⟩
  exact Eq.mp (by kernel_rfl) key
theorem so80o : Sound Tryz.prog 80 sp80o := by
  refine sound_of_bodyO hmix (tpl := [(6, 3), (7, 1)]) Tryz.func80 rfl (by kernel_rfl) fun args bin ob r bout hDe hob => ?_
  unfold sp80o at hDe
  split at hDe
  · rename_i a0 a1 a2
    cases hDe
    exact ⟨Nat.le_of_ble_eq_true (by kernel_rfl), cx80o (decPReplica a0) a1 ((decL decMsg) a2), Eq.mp (by kernel_rfl) htt, Eq.mp (by kernel_rfl) da80o, Eq.mp (by kernel_rfl) (noM_sound (P := Tryz.prog)), by kernel_rfl, [encPReplica 1 ((decPReplica a0)), .int .i64 (a1), encL (encMsg 1) 1 (((decL decMsg) a2))], [], args_of_vles (⟨hob.1, VLe.refl _, hob.2.1, trivial⟩), trivial, Eq.mp (by kernel_rfl) (bd80o (decPReplica a0) a1 ((decL decMsg) a2) (hob.2.2))⟩
  · cases hDe

/-! ### impl.NewMsg%o -/
def pr35o (f : Int) (l : List Msg) (r : Replica) : Prop := bdL l
noncomputable def ro35o (f : Int) (l : List Msg) (r : Replica) : MsgResult := newMsgF f l r
noncomputable def rb35o (f : Int) (l : List Msg) (r : Replica) : List Blk := [(.arr 3 (((ro35o f l r).msg).certs).length (gL (encCert 1) (((ro35o f l r).msg).certs)) tagS), (.arr 1 (((ro35o f l r).msg).refs).length (gL encI (((ro35o f l r).msg).refs)) tagS)]
noncomputable def rs35o (f : Int) (l : List Msg) (r : Replica) : V := .agg [.int .i64 ((ro35o f l r).code), .int .i64 (((ro35o f l r).msg).kind), .int .i64 (((ro35o f l r).msg).view), .int .i64 (((ro35o f l r).msg).sender), .int .i64 (((ro35o f l r).msg).slot), .int .i64 (((ro35o f l r).msg).value), .osl 0 (((ro35o f l r).msg).certs).length, .osl 1 (((ro35o f l r).msg).refs).length]
noncomputable def sp35o : FSpec := fun args bin => match args, bin with
  | [.int .i64 a0, a1, a2], [] => some (VLe a1 (encL (encMsg 1) 1 (((decL decMsg) a1))) ∧ VLe a2 (encReplica 1 ((decReplica a2))) ∧ pr35o a0 ((decL decMsg) a1) (decReplica a2), rs35o a0 ((decL decMsg) a1) (decReplica a2), rb35o a0 ((decL decMsg) a1) (decReplica a2))
  | _, _ => none
noncomputable def D35o : Nat → Option (Bool × FSpec) := lk [(24, (false, sp24)), (80, (false, sp80o))]
theorem da35o : SoundAll Tryz.prog D35o := soundAll_cons so24 (soundAll_cons so80o (soundAll_nil))
noncomputable def cx35o (f : Int) (l : List Msg) (r : Replica) : Cx := ⟨tt, D35o, Tryz.f35.ntmps, [0, 1, 2, 5, 6, 7, 13], [], [], fun _ => none, [], noM, []⟩
theorem bd35o (f : Int) (l : List Msg) (r : Replica) (hpre : pr35o f l r) : bodyO (cx35o f l r) Tryz.f35 [(6, 3), (7, 1)] [.int .i64 (f), encL (encMsg 1) 1 (l), encReplica 1 (r)] [] (fun rr bs => VLe rr (rs35o f l r) ∧ BinLe bs (rb35o f l r)) := by
  have key :
      (((VLe (encL (encMsg 1) 1 l)
   (encL (encMsg 1) 1 (decL decMsg (encL (encMsg 1) 1 l)))) ∧
   ((VLe (encReplica 1 r) (encReplica 1 (decReplica (encReplica 1 r)))) ∧
   (pr24 f (decL decMsg (encL (encMsg 1) 1 l)) (decReplica (encReplica 1 r))))) ∧
   ((((replicaFault f (decL decMsg (encL (encMsg 1) 1 l)) (decReplica (encReplica 1 r)) !=
   (0 : Int)) =
   true) →
   ((VLe
   (V.agg
   [V.int IntKind.i64
   (replicaFault f (decL decMsg (encL (encMsg 1) 1 l)) (decReplica (encReplica 1 r))),
   V.int IntKind.i64 (0 : Int), V.int IntKind.i64 (0 : Int), V.int IntKind.i64 (0 : Int),
   V.int IntKind.i64 (0 : Int), V.int IntKind.i64 (0 : Int), V.osl 0 0, V.osl 1 0])
   (V.agg
   [V.int IntKind.i64 (MsgResult.code (ro35o f l r)), V.int IntKind.i64 (Msg.kind (MsgResult.msg (ro35o f l r))),
   V.int IntKind.i64 (Msg.view (MsgResult.msg (ro35o f l r))),
   V.int IntKind.i64 (Msg.sender (MsgResult.msg (ro35o f l r))),
   V.int IntKind.i64 (Msg.slot (MsgResult.msg (ro35o f l r))),
   V.int IntKind.i64 (Msg.value (MsgResult.msg (ro35o f l r))),
   V.osl 0 (List.length (Msg.certs (MsgResult.msg (ro35o f l r)))),
   V.osl 1 (List.length (Msg.refs (MsgResult.msg (ro35o f l r))))])) ∧
   ((BLe (Blk.arr 3 0 (fun (x : Nat) ↦ V.undef) 100)
   (Blk.arr 3 (List.length (Msg.certs (MsgResult.msg (ro35o f l r))))
   (gL (encCert 1) (Msg.certs (MsgResult.msg (ro35o f l r)))) 100)) ∧
   ((BLe (Blk.arr 1 0 (fun (x : Nat) ↦ V.undef) 100)
   (Blk.arr 1 (List.length (Msg.refs (MsgResult.msg (ro35o f l r))))
   (gL encI (Msg.refs (MsgResult.msg (ro35o f l r)))) 100)) ∧
   (True))))) ∧
   (((replicaFault f (decL decMsg (encL (encMsg 1) 1 l)) (decReplica (encReplica 1 r)) !=
   (0 : Int)) =
   false) →
   (((VLe (encPReplica 1 r) (encPReplica 1 (decPReplica (encPReplica 1 r)))) ∧
   ((VLe (encL (encMsg 1) 1 l)
   (encL (encMsg 1) 1 (decL decMsg (encL (encMsg 1) 1 l)))) ∧
   (pr80o (decPReplica (encPReplica 1 r)) f (decL decMsg (encL (encMsg 1) 1 l))))) ∧
   ((VLe
   (V.agg
   [V.int IntKind.i64
   (MsgResult.code
   (ro80o (decPReplica (encPReplica 1 r)) f (decL decMsg (encL (encMsg 1) 1 l)))),
   V.int IntKind.i64
   (Msg.kind
   (MsgResult.msg
   (ro80o (decPReplica (encPReplica 1 r)) f (decL decMsg (encL (encMsg 1) 1 l))))),
   V.int IntKind.i64
   (Msg.view
   (MsgResult.msg
   (ro80o (decPReplica (encPReplica 1 r)) f (decL decMsg (encL (encMsg 1) 1 l))))),
   V.int IntKind.i64
   (Msg.sender
   (MsgResult.msg
   (ro80o (decPReplica (encPReplica 1 r)) f (decL decMsg (encL (encMsg 1) 1 l))))),
   V.int IntKind.i64
   (Msg.slot
   (MsgResult.msg
   (ro80o (decPReplica (encPReplica 1 r)) f (decL decMsg (encL (encMsg 1) 1 l))))),
   V.int IntKind.i64
   (Msg.value
   (MsgResult.msg
   (ro80o (decPReplica (encPReplica 1 r)) f (decL decMsg (encL (encMsg 1) 1 l))))),
   V.osl 0
   (List.length
   (Msg.certs
   (MsgResult.msg
   (ro80o (decPReplica (encPReplica 1 r)) f (decL decMsg (encL (encMsg 1) 1 l)))))),
   V.osl 1
   (List.length
   (Msg.refs
   (MsgResult.msg
   (ro80o (decPReplica (encPReplica 1 r)) f (decL decMsg (encL (encMsg 1) 1 l))))))])
   (V.agg
   [V.int IntKind.i64 (MsgResult.code (ro35o f l r)), V.int IntKind.i64 (Msg.kind (MsgResult.msg (ro35o f l r))),
   V.int IntKind.i64 (Msg.view (MsgResult.msg (ro35o f l r))),
   V.int IntKind.i64 (Msg.sender (MsgResult.msg (ro35o f l r))),
   V.int IntKind.i64 (Msg.slot (MsgResult.msg (ro35o f l r))),
   V.int IntKind.i64 (Msg.value (MsgResult.msg (ro35o f l r))),
   V.osl 0 (List.length (Msg.certs (MsgResult.msg (ro35o f l r)))),
   V.osl 1 (List.length (Msg.refs (MsgResult.msg (ro35o f l r))))])) ∧
   ((BLe
   (Blk.arr 3
   (List.length
   (Msg.certs
   (MsgResult.msg
   (ro80o (decPReplica (encPReplica 1 r)) f (decL decMsg (encL (encMsg 1) 1 l))))))
   (gL (encCert 1)
   (Msg.certs
   (MsgResult.msg
   (ro80o (decPReplica (encPReplica 1 r)) f (decL decMsg (encL (encMsg 1) 1 l))))))
   100)
   (Blk.arr 3 (List.length (Msg.certs (MsgResult.msg (ro35o f l r))))
   (gL (encCert 1) (Msg.certs (MsgResult.msg (ro35o f l r)))) 100)) ∧
   ((BLe
   (Blk.arr 1
   (List.length
   (Msg.refs
   (MsgResult.msg
   (ro80o (decPReplica (encPReplica 1 r)) f (decL decMsg (encL (encMsg 1) 1 l))))))
   (gL encI
   (Msg.refs
   (MsgResult.msg
   (ro80o (decPReplica (encPReplica 1 r)) f (decL decMsg (encL (encMsg 1) 1 l))))))
   100)
   (Blk.arr 1 (List.length (Msg.refs (MsgResult.msg (ro35o f l r))))
   (gL encI (Msg.refs (MsgResult.msg (ro35o f l r)))) 100)) ∧
   (True)))))))) := by
    simp only [decL_Msg, dec_encReplica, dec_encPReplica, ro35o, ro80o]
    refine ⟨⟨VLe.refl _, VLe.refl _, hpre⟩, fun h => ?_, fun h => ?_⟩
    · have e : newMsgF f l r = ⟨replicaFault f l r, default⟩ := if_pos (by simpa using h)
      rw [e]
      exact ⟨VLe.refl _, ble_nil _, ble_nil _, trivial⟩
    have h0 : replicaFault f l r = 0 := by simpa using h
    obtain ⟨hr, hv⟩ := replica_right h0
    have e' : newMsgF f l r = newF f l r := if_neg (not_not_intro h0)
    rw [e']
    exact ⟨⟨VLe.refl _, VLe.refl _, hr, hpre, hv⟩, VLe.refl _, BLe.refl _, BLe.refl _, trivial⟩
  exact Eq.mp (by kernel_rfl) key
theorem so35o : Sound Tryz.prog 35 sp35o := by
  refine sound_of_bodyO hmix (tpl := [(6, 3), (7, 1)]) Tryz.func35 rfl (by kernel_rfl) fun args bin ob r bout hDe hob => ?_
  unfold sp35o at hDe
  split at hDe
  · rename_i a0 a1 a2
    cases hDe
    exact ⟨Nat.le_of_ble_eq_true (by kernel_rfl), cx35o a0 ((decL decMsg) a1) (decReplica a2), Eq.mp (by kernel_rfl) htt, Eq.mp (by kernel_rfl) da35o, Eq.mp (by kernel_rfl) (noM_sound (P := Tryz.prog)), by kernel_rfl, [.int .i64 (a0), encL (encMsg 1) 1 (((decL decMsg) a1)), encReplica 1 ((decReplica a2))], [], args_of_vles (⟨VLe.refl _, hob.1, hob.2.1, trivial⟩), trivial, Eq.mp (by kernel_rfl) (bd35o a0 ((decL decMsg) a1) (decReplica a2) (hob.2.2))⟩
  · cases hDe

/-! ### spec.NewMsg%o -/
def pr37o (f : Int) (l : List Msg) (r : Replica) : Prop := bdL l
noncomputable def ro37o (f : Int) (l : List Msg) (r : Replica) : MsgResult := newMsgF f l r
noncomputable def rb37o (f : Int) (l : List Msg) (r : Replica) : List Blk := [(.arr 3 (((ro37o f l r).msg).certs).length (gL (encCert 1) (((ro37o f l r).msg).certs)) tagS), (.arr 1 (((ro37o f l r).msg).refs).length (gL encI (((ro37o f l r).msg).refs)) tagS)]
noncomputable def rs37o (f : Int) (l : List Msg) (r : Replica) : V := .agg [.int .i64 ((ro37o f l r).code), .int .i64 (((ro37o f l r).msg).kind), .int .i64 (((ro37o f l r).msg).view), .int .i64 (((ro37o f l r).msg).sender), .int .i64 (((ro37o f l r).msg).slot), .int .i64 (((ro37o f l r).msg).value), .osl 0 (((ro37o f l r).msg).certs).length, .osl 1 (((ro37o f l r).msg).refs).length]
noncomputable def sp37o : FSpec := fun args bin => match args, bin with
  | [.int .i64 a0, a1, a2], [] => some (VLe a1 (encL (encMsg 1) 1 (((decL decMsg) a1))) ∧ VLe a2 (encReplica 1 ((decReplica a2))) ∧ pr37o a0 ((decL decMsg) a1) (decReplica a2), rs37o a0 ((decL decMsg) a1) (decReplica a2), rb37o a0 ((decL decMsg) a1) (decReplica a2))
  | _, _ => none
noncomputable def D37o : Nat → Option (Bool × FSpec) := lk [(63, (false, sp63)), (82, (false, sp82)), (53, (false, sp53o)), (83, (false, sp83))]
theorem da37o : SoundAll Tryz.prog D37o := soundAll_cons so63 (soundAll_cons so82 (soundAll_cons so53o (soundAll_cons so83 (soundAll_nil))))
noncomputable def cx37o (f : Int) (l : List Msg) (r : Replica) : Cx := ⟨tt, D37o, Tryz.f37.ntmps, [0, 1, 2, 5, 6, 7, 8, 13, 32, 43], [], [], fun _ => none, [], noM, []⟩
theorem bd37o (f : Int) (l : List Msg) (r : Replica) (hpre : pr37o f l r) : bodyO (cx37o f l r) Tryz.f37 [(6, 3), (7, 1)] [.int .i64 (f), encL (encMsg 1) 1 (l), encReplica 1 (r)] [] (fun rr bs => VLe rr (rs37o f l r) ∧ BinLe bs (rb37o f l r)) := by
  have key :
      (((VLe (encL (encMsg 1) 1 l)
   (encL (encMsg 1) 1 (decL decMsg (encL (encMsg 1) 1 l)))) ∧
   ((VLe (encPReplica 1 r) (encPReplica 1 (decPReplica (encPReplica 1 r)))) ∧
   (pr63 f (decL decMsg (encL (encMsg 1) 1 l)) (decPReplica (encPReplica 1 r))))) ∧
   ((((replicaFault f (decL decMsg (encL (encMsg 1) 1 l)) (decPReplica (encPReplica 1 r)) !=
   (0 : Int)) =
   true) →
   ((VLe
   (V.agg
   [V.int IntKind.i64
   (replicaFault f (decL decMsg (encL (encMsg 1) 1 l)) (decPReplica (encPReplica 1 r))),
   V.int IntKind.i64 (0 : Int), V.int IntKind.i64 (0 : Int), V.int IntKind.i64 (0 : Int),
   V.int IntKind.i64 (0 : Int), V.int IntKind.i64 (0 : Int), V.osl 0 0, V.osl 1 0])
   (V.agg
   [V.int IntKind.i64 (MsgResult.code (ro37o f l r)), V.int IntKind.i64 (Msg.kind (MsgResult.msg (ro37o f l r))),
   V.int IntKind.i64 (Msg.view (MsgResult.msg (ro37o f l r))),
   V.int IntKind.i64 (Msg.sender (MsgResult.msg (ro37o f l r))),
   V.int IntKind.i64 (Msg.slot (MsgResult.msg (ro37o f l r))),
   V.int IntKind.i64 (Msg.value (MsgResult.msg (ro37o f l r))),
   V.osl 0 (List.length (Msg.certs (MsgResult.msg (ro37o f l r)))),
   V.osl 1 (List.length (Msg.refs (MsgResult.msg (ro37o f l r))))])) ∧
   ((BLe (Blk.arr 3 0 (fun (x : Nat) ↦ V.undef) 100)
   (Blk.arr 3 (List.length (Msg.certs (MsgResult.msg (ro37o f l r))))
   (gL (encCert 1) (Msg.certs (MsgResult.msg (ro37o f l r)))) 100)) ∧
   ((BLe (Blk.arr 1 0 (fun (x : Nat) ↦ V.undef) 100)
   (Blk.arr 1 (List.length (Msg.refs (MsgResult.msg (ro37o f l r))))
   (gL encI (Msg.refs (MsgResult.msg (ro37o f l r)))) 100)) ∧
   (True))))) ∧
   (((replicaFault f (decL decMsg (encL (encMsg 1) 1 l)) (decPReplica (encPReplica 1 r)) !=
   (0 : Int)) =
   false) →
   ((tq (!Replica.view r == (0 : Int))) ∧
   ((tq (!Replica.view r == (0 : Int))) ∧
   ((tq (!Replica.view r == (0 : Int))) ∧
   ((tq (!Replica.view r == (0 : Int))) ∧
   ((((!Replica.view r == (0 : Int)) = true) →
   (pr82 f (Replica.view r))) ∧
   ((tq (!Replica.view r == (0 : Int))) ∧
   ((tq (!Replica.view r == (0 : Int))) ∧
   (((true = true) →
   (((Replica.view r == (0 : Int)) = false) →
   ((!Replica.view r == (0 : Int)) = true))) ∧
   (∀ b : Bool,
   ((b = bif Replica.view r == (0 : Int) then true else Replica.id r != primaryF f (Replica.view r)) →
   ((tq (!b)) ∧
   ((tq (!b)) ∧
   (((true = true) →
   ((b = false) →
   ((!b) = true))) ∧
   (∀ b_1 : Bool,
   ((b_1 = bif b then true else Replica.start r != (-1 : Int)) →
   (((b_1 = true) →
   ((VLe
   (V.agg
   [V.int IntKind.i64 (8 : Int), V.int IntKind.i64 (0 : Int), V.int IntKind.i64 (0 : Int), V.int IntKind.i64 (0 : Int),
   V.int IntKind.i64 (0 : Int), V.int IntKind.i64 (0 : Int), V.osl 0 0, V.osl 1 0])
   (V.agg
   [V.int IntKind.i64 (MsgResult.code (ro37o f l r)), V.int IntKind.i64 (Msg.kind (MsgResult.msg (ro37o f l r))),
   V.int IntKind.i64 (Msg.view (MsgResult.msg (ro37o f l r))),
   V.int IntKind.i64 (Msg.sender (MsgResult.msg (ro37o f l r))),
   V.int IntKind.i64 (Msg.slot (MsgResult.msg (ro37o f l r))),
   V.int IntKind.i64 (Msg.value (MsgResult.msg (ro37o f l r))),
   V.osl 0 (List.length (Msg.certs (MsgResult.msg (ro37o f l r)))),
   V.osl 1 (List.length (Msg.refs (MsgResult.msg (ro37o f l r))))])) ∧
   ((BLe (Blk.arr 3 0 (fun (x : Nat) ↦ V.undef) 100)
   (Blk.arr 3 (List.length (Msg.certs (MsgResult.msg (ro37o f l r))))
   (gL (encCert 1) (Msg.certs (MsgResult.msg (ro37o f l r)))) 100)) ∧
   ((BLe (Blk.arr 1 0 (fun (x : Nat) ↦ V.undef) 100)
   (Blk.arr 1 (List.length (Msg.refs (MsgResult.msg (ro37o f l r))))
   (gL encI (Msg.refs (MsgResult.msg (ro37o f l r)))) 100)) ∧
   (True))))) ∧
   ((b_1 = false) →
   (((VLe (encL (encMsg 1) 1 l)
   (encL (encMsg 1) 1 (decL decMsg (encL (encMsg 1) 1 l)))) ∧
   (pr53o f (decL decMsg (encL (encMsg 1) 1 l)) (Replica.view r))) ∧
   ((pr83 f) ∧
   (((decide
   ((↑(List.length (ro53o f (decL decMsg (encL (encMsg 1) 1 l)) (Replica.view r))) : Int) <
   (2 : Int) * f + (1 : Int)) =
   true) →
   ((VLe
   (V.agg
   [V.int IntKind.i64 (10 : Int), V.int IntKind.i64 (0 : Int), V.int IntKind.i64 (0 : Int),
   V.int IntKind.i64 (0 : Int), V.int IntKind.i64 (0 : Int), V.int IntKind.i64 (0 : Int), V.osl 0 0,
   V.osl 1 0])
   (V.agg
   [V.int IntKind.i64 (MsgResult.code (ro37o f l r)), V.int IntKind.i64 (Msg.kind (MsgResult.msg (ro37o f l r))),
   V.int IntKind.i64 (Msg.view (MsgResult.msg (ro37o f l r))),
   V.int IntKind.i64 (Msg.sender (MsgResult.msg (ro37o f l r))),
   V.int IntKind.i64 (Msg.slot (MsgResult.msg (ro37o f l r))),
   V.int IntKind.i64 (Msg.value (MsgResult.msg (ro37o f l r))),
   V.osl 0 (List.length (Msg.certs (MsgResult.msg (ro37o f l r)))),
   V.osl 1 (List.length (Msg.refs (MsgResult.msg (ro37o f l r))))])) ∧
   ((BLe (Blk.arr 3 0 (fun (x : Nat) ↦ V.undef) 100)
   (Blk.arr 3 (List.length (Msg.certs (MsgResult.msg (ro37o f l r))))
   (gL (encCert 1) (Msg.certs (MsgResult.msg (ro37o f l r)))) 100)) ∧
   ((BLe (Blk.arr 1 0 (fun (x : Nat) ↦ V.undef) 100)
   (Blk.arr 1 (List.length (Msg.refs (MsgResult.msg (ro37o f l r))))
   (gL encI (Msg.refs (MsgResult.msg (ro37o f l r)))) 100)) ∧
   (True))))) ∧
   ((decide
   ((↑(List.length (ro53o f (decL decMsg (encL (encMsg 1) 1 l)) (Replica.view r))) : Int) <
   (2 : Int) * f + (1 : Int)) =
   false) →
   ((VLe
   (V.agg
   [V.int IntKind.i64 (0 : Int), V.int IntKind.i64 (5 : Int), V.int IntKind.i64 (Replica.view r),
   V.int IntKind.i64 (Replica.id r), V.int IntKind.i64 (0 : Int), V.int IntKind.i64 (0 : Int),
   V.osl 0 0,
   V.osl 1 (List.length (ro53o f (decL decMsg (encL (encMsg 1) 1 l)) (Replica.view r)))])
   (V.agg
   [V.int IntKind.i64 (MsgResult.code (ro37o f l r)), V.int IntKind.i64 (Msg.kind (MsgResult.msg (ro37o f l r))),
   V.int IntKind.i64 (Msg.view (MsgResult.msg (ro37o f l r))),
   V.int IntKind.i64 (Msg.sender (MsgResult.msg (ro37o f l r))),
   V.int IntKind.i64 (Msg.slot (MsgResult.msg (ro37o f l r))),
   V.int IntKind.i64 (Msg.value (MsgResult.msg (ro37o f l r))),
   V.osl 0 (List.length (Msg.certs (MsgResult.msg (ro37o f l r)))),
   V.osl 1 (List.length (Msg.refs (MsgResult.msg (ro37o f l r))))])) ∧
   ((BLe (Blk.arr 3 0 (fun (x : Nat) ↦ V.undef) 100)
   (Blk.arr 3 (List.length (Msg.certs (MsgResult.msg (ro37o f l r))))
   (gL (encCert 1) (Msg.certs (MsgResult.msg (ro37o f l r)))) 100)) ∧
   ((BLe
   (Blk.arr 1 (List.length (ro53o f (decL decMsg (encL (encMsg 1) 1 l)) (Replica.view r)))
   (gL encI (ro53o f (decL decMsg (encL (encMsg 1) 1 l)) (Replica.view r))) 100)
   (Blk.arr 1 (List.length (Msg.refs (MsgResult.msg (ro37o f l r))))
   (gL encI (Msg.refs (MsgResult.msg (ro37o f l r)))) 100)) ∧
   (True)))))))))))))))))))))))))))) := by
    simp only [decL_Msg, dec_encReplica, dec_encPReplica, ro37o, ro53o]
    refine ⟨⟨VLe.refl _, VLe.refl _, hpre⟩, fun h => ?_, fun h => ?_⟩
    · have e : newMsgF f l r = ⟨replicaFault f l r, default⟩ := if_pos (by simpa using h)
      rw [e]
      exact ⟨VLe.refl _, ble_nil _, ble_nil _, trivial⟩
    have h0 : replicaFault f l r = 0 := by simpa using h
    obtain ⟨hr, hv⟩ := replica_right h0
    have e' : newMsgF f l r = newF f l r := if_neg (not_not_intro h0)
    rw [e']
    repeat (first | (refine And.intro (fun h _ => h) ?_) | (refine And.intro (fun _ h => h) ?_) | (refine And.intro ?aa ?_; case aa => (exact fun _ => ⟨hr.okf, hv⟩)) | (refine And.intro ?aa ?_; case aa => (intros; simp_all [pr63, pr82, pr53o, pr83]; done)) | (refine And.intro ?aa ?_; case aa => (intros; exact inK64 (by omega))) | (refine And.intro ?aa ?_; case aa => (intros; simp only [decide_eq_true_eq] at *; omega)) | (intro q hq))
    have e0 : q = decide (r.view = 0 ∨ r.id ≠ primaryF f r.view ∨ r.start ≠ -1) := by
      subst_vars
      rw [Bool.eq_iff_iff, decide_eq_true_eq]
      by_cases a1 : r.view = 0 <;> by_cases a2 : r.id = primaryF f r.view <;> simp [a1, a2]
    clear hq
    subst e0
    refine ⟨fun h => ?_, fun h => ?_⟩
    · have e : newF f l r = ⟨8, default⟩ := if_pos (of_decide_eq_true h)
      rw [e]
      exact ⟨VLe.refl _, ble_nil _, ble_nil _, trivial⟩
    have h1 := of_decide_eq_false h
    have hf : 1 ≤ f ∧ f ≤ 2 := by have := hr.okf; unfold okF at this; omega
    refine ⟨⟨VLe.refl _, hr, hpre⟩, hr.okf, fun h2 => ?_, fun h2 => ?_⟩
    · have e : newF f l r = ⟨10, default⟩ := by unfold newF; rw [if_neg h1, if_pos (of_decide_eq_true h2)]
      rw [e]
      exact ⟨VLe.refl _, ble_nil _, ble_nil _, trivial⟩
    · have e : newF f l r = ⟨0, ⟨5, r.view, r.id, 0, 0, [], chL f l r.view⟩⟩ := by unfold newF; rw [if_neg h1, if_neg (of_decide_eq_false h2)]
      rw [e]
      exact ⟨VLe.refl _, ble_nil _, BLe.refl _, trivial⟩
  exact Eq.mp (by kernel_rfl) key
theorem so37o : Sound Tryz.prog 37 sp37o := by
  refine sound_of_bodyO hmix (tpl := [(6, 3), (7, 1)]) Tryz.func37 rfl (by kernel_rfl) fun args bin ob r bout hDe hob => ?_
  unfold sp37o at hDe
  split at hDe
  · rename_i a0 a1 a2
    cases hDe
    exact ⟨Nat.le_of_ble_eq_true (by kernel_rfl), cx37o a0 ((decL decMsg) a1) (decReplica a2), Eq.mp (by kernel_rfl) htt, Eq.mp (by kernel_rfl) da37o, Eq.mp (by kernel_rfl) (noM_sound (P := Tryz.prog)), by kernel_rfl, [.int .i64 (a0), encL (encMsg 1) 1 (((decL decMsg) a1)), encReplica 1 ((decReplica a2))], [], args_of_vles (⟨VLe.refl _, hob.1, hob.2.1, trivial⟩), trivial, Eq.mp (by kernel_rfl) (bd37o a0 ((decL decMsg) a1) (decReplica a2) (hob.2.2))⟩
  · cases hDe

end Go.Av
