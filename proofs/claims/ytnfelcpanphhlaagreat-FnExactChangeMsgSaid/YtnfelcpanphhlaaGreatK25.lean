/- The change of a replica. -/
import Derived.Test.YtnfelcpanphhlaaGreatK12
import Derived.Test.YtnfelcpanphhlaaGreatK20
namespace Go.Av
open Go.Proofs
set_option maxRecDepth 100000
set_option linter.unusedVariables false
set_option linter.unusedSimpArgs false

noncomputable def changeF (l : List Msg) (r : Replica) (view : Int) : MsgResult :=
  if ¬ inR view 0 20 then ⟨3, default⟩ else if view ≤ r.view then ⟨8, default⟩ else ⟨0, ⟨4, view, r.id, 0, 0, certsL l r.id view, []⟩⟩
noncomputable def changeMsgF (f : Int) (l : List Msg) (r : Replica) (view : Int) : MsgResult :=
  if replicaFault f l r ≠ 0 then ⟨replicaFault f l r, default⟩ else changeF l r view


/-! ### Replica).changeMsg%o -/
def pr75o (r : Replica) (l : List Msg) (view : Int) : Prop := (∃ f, Right f l) ∧ bdL l
noncomputable def ro75o (r : Replica) (l : List Msg) (view : Int) : MsgResult := changeF l r view
noncomputable def rb75o (r : Replica) (l : List Msg) (view : Int) : List Blk := [(.arr 3 (((ro75o r l view).msg).certs).length (gL (encCert 1) (((ro75o r l view).msg).certs)) tagS), (.arr 1 (((ro75o r l view).msg).refs).length (gL encI (((ro75o r l view).msg).refs)) tagS)]
noncomputable def rs75o (r : Replica) (l : List Msg) (view : Int) : V := .agg [.int .i64 ((ro75o r l view).code), .int .i64 (((ro75o r l view).msg).kind), .int .i64 (((ro75o r l view).msg).view), .int .i64 (((ro75o r l view).msg).sender), .int .i64 (((ro75o r l view).msg).slot), .int .i64 (((ro75o r l view).msg).value), .osl 0 (((ro75o r l view).msg).certs).length, .osl 1 (((ro75o r l view).msg).refs).length]
noncomputable def sp75o : FSpec := fun args bin => match args, bin with
  | [a0, a1, .int .i64 a2], [] => some (VLe a0 (encPReplica 1 ((decPReplica a0))) ∧ VLe a1 (encL (encMsg 1) 1 (((decL decMsg) a1))) ∧ pr75o (decPReplica a0) ((decL decMsg) a1) a2, rs75o (decPReplica a0) ((decL decMsg) a1) a2, rb75o (decPReplica a0) ((decL decMsg) a1) a2)
  | _, _ => none
noncomputable def D75o : Nat → Option (Bool × FSpec) := lk [(50, (false, sp50)), (78, (false, sp78o))]
theorem da75o : SoundAll Tryz.prog D75o := soundAll_cons so50 (soundAll_cons so78o (soundAll_nil))
noncomputable def cx75o (r : Replica) (l : List Msg) (view : Int) : Cx := ⟨tt, D75o, Tryz.f75.ntmps, [0, 1, 2, 6, 7, 12], [], [], fun _ => none, [], noM, []⟩
theorem bd75o (r : Replica) (l : List Msg) (view : Int) (hpre : pr75o r l view) : bodyO (cx75o r l view) Tryz.f75 [(6, 3), (7, 1)] [encPReplica 1 (r), encL (encMsg 1) 1 (l), .int .i64 (view)] [] (fun rr bs => VLe rr (rs75o r l view) ∧ BinLe bs (rb75o r l view)) := by
  have key :
      ((pr50 view) ∧
   ((((!decide (inR view (0 : Int) (20 : Int))) = true) →
   ((VLe
   (V.agg
   [V.int IntKind.i64 (3 : Int), V.int IntKind.i64 (0 : Int), V.int IntKind.i64 (0 : Int), V.int IntKind.i64 (0 : Int),
   V.int IntKind.i64 (0 : Int), V.int IntKind.i64 (0 : Int), V.osl 0 0, V.osl 1 0])
   (V.agg
   [V.int IntKind.i64 (MsgResult.code (ro75o r l view)), V.int IntKind.i64 (Msg.kind (MsgResult.msg (ro75o r l view))),
   V.int IntKind.i64 (Msg.view (MsgResult.msg (ro75o r l view))),
   V.int IntKind.i64 (Msg.sender (MsgResult.msg (ro75o r l view))),
   V.int IntKind.i64 (Msg.slot (MsgResult.msg (ro75o r l view))),
   V.int IntKind.i64 (Msg.value (MsgResult.msg (ro75o r l view))),
   V.osl 0 (List.length (Msg.certs (MsgResult.msg (ro75o r l view)))),
   V.osl 1 (List.length (Msg.refs (MsgResult.msg (ro75o r l view))))])) ∧
   ((BLe (Blk.arr 3 0 (fun (x : Nat) ↦ V.undef) 100)
   (Blk.arr 3 (List.length (Msg.certs (MsgResult.msg (ro75o r l view))))
   (gL (encCert 1) (Msg.certs (MsgResult.msg (ro75o r l view)))) 100)) ∧
   ((BLe (Blk.arr 1 0 (fun (x : Nat) ↦ V.undef) 100)
   (Blk.arr 1 (List.length (Msg.refs (MsgResult.msg (ro75o r l view))))
   (gL encI (Msg.refs (MsgResult.msg (ro75o r l view)))) 100)) ∧
   (True))))) ∧
   (((!decide (inR view (0 : Int) (20 : Int))) = false) →
   (((decide (view ≤ Replica.view r) = true) →
   ((VLe
   (V.agg
   [V.int IntKind.i64 (8 : Int), V.int IntKind.i64 (0 : Int), V.int IntKind.i64 (0 : Int), V.int IntKind.i64 (0 : Int),
   V.int IntKind.i64 (0 : Int), V.int IntKind.i64 (0 : Int), V.osl 0 0, V.osl 1 0])
   (V.agg
   [V.int IntKind.i64 (MsgResult.code (ro75o r l view)), V.int IntKind.i64 (Msg.kind (MsgResult.msg (ro75o r l view))),
   V.int IntKind.i64 (Msg.view (MsgResult.msg (ro75o r l view))),
   V.int IntKind.i64 (Msg.sender (MsgResult.msg (ro75o r l view))),
   V.int IntKind.i64 (Msg.slot (MsgResult.msg (ro75o r l view))),
   V.int IntKind.i64 (Msg.value (MsgResult.msg (ro75o r l view))),
   V.osl 0 (List.length (Msg.certs (MsgResult.msg (ro75o r l view)))),
   V.osl 1 (List.length (Msg.refs (MsgResult.msg (ro75o r l view))))])) ∧
   ((BLe (Blk.arr 3 0 (fun (x : Nat) ↦ V.undef) 100)
   (Blk.arr 3 (List.length (Msg.certs (MsgResult.msg (ro75o r l view))))
   (gL (encCert 1) (Msg.certs (MsgResult.msg (ro75o r l view)))) 100)) ∧
   ((BLe (Blk.arr 1 0 (fun (x : Nat) ↦ V.undef) 100)
   (Blk.arr 1 (List.length (Msg.refs (MsgResult.msg (ro75o r l view))))
   (gL encI (Msg.refs (MsgResult.msg (ro75o r l view)))) 100)) ∧
   (True))))) ∧
   ((decide (view ≤ Replica.view r) = false) →
   (((VLe (encL (encMsg 1) 1 l)
   (encL (encMsg 1) 1 (decL decMsg (encL (encMsg 1) 1 l)))) ∧
   (pr78o (decL decMsg (encL (encMsg 1) 1 l)) (Replica.id r) view)) ∧
   ((VLe
   (V.agg
   [V.int IntKind.i64 (0 : Int), V.int IntKind.i64 (4 : Int), V.int IntKind.i64 view, V.int IntKind.i64 (Replica.id r),
   V.int IntKind.i64 (0 : Int), V.int IntKind.i64 (0 : Int),
   V.osl 0 (List.length (ro78o (decL decMsg (encL (encMsg 1) 1 l)) (Replica.id r) view)),
   V.osl 1 0])
   (V.agg
   [V.int IntKind.i64 (MsgResult.code (ro75o r l view)), V.int IntKind.i64 (Msg.kind (MsgResult.msg (ro75o r l view))),
   V.int IntKind.i64 (Msg.view (MsgResult.msg (ro75o r l view))),
   V.int IntKind.i64 (Msg.sender (MsgResult.msg (ro75o r l view))),
   V.int IntKind.i64 (Msg.slot (MsgResult.msg (ro75o r l view))),
   V.int IntKind.i64 (Msg.value (MsgResult.msg (ro75o r l view))),
   V.osl 0 (List.length (Msg.certs (MsgResult.msg (ro75o r l view)))),
   V.osl 1 (List.length (Msg.refs (MsgResult.msg (ro75o r l view))))])) ∧
   ((BLe
   (Blk.arr 3 (List.length (ro78o (decL decMsg (encL (encMsg 1) 1 l)) (Replica.id r) view))
   (gL (encCert 1) (ro78o (decL decMsg (encL (encMsg 1) 1 l)) (Replica.id r) view))
   100)
   (Blk.arr 3 (List.length (Msg.certs (MsgResult.msg (ro75o r l view))))
   (gL (encCert 1) (Msg.certs (MsgResult.msg (ro75o r l view)))) 100)) ∧
   ((BLe (Blk.arr 1 0 (fun (x : Nat) ↦ V.undef) 100)
   (Blk.arr 1 (List.length (Msg.refs (MsgResult.msg (ro75o r l view))))
   (gL encI (Msg.refs (MsgResult.msg (ro75o r l view)))) 100)) ∧
   (True)))))))))) := by
    obtain ⟨hx, hl⟩ := hpre
    simp only [decL_Msg, ro75o, ro78o]
    refine ⟨trivial, fun h => ?_, fun h => ⟨fun h2 => ?_, fun h2 => ?_⟩⟩
    · have e : changeF l r view = ⟨3, default⟩ := by unfold changeF; rw [if_pos (nd h)]
      rw [e]
      exact ⟨VLe.refl _, ble_nil _, ble_nil _, trivial⟩
    · have e : changeF l r view = ⟨8, default⟩ := by unfold changeF; rw [if_neg (not_not_intro (pd h)), if_pos (of_decide_eq_true h2)]
      rw [e]
      exact ⟨VLe.refl _, ble_nil _, ble_nil _, trivial⟩
    · have e : changeF l r view = ⟨0, ⟨4, view, r.id, 0, 0, certsL l r.id view, []⟩⟩ := by unfold changeF; rw [if_neg (not_not_intro (pd h)), if_neg (of_decide_eq_false h2)]
      rw [e]
      exact ⟨⟨VLe.refl _, hx, hl⟩, VLe.refl _, BLe.refl _, ble_nil _, trivial⟩
  exact Eq.mp (by kernel_rfl) key
theorem so75o : Sound Tryz.prog 75 sp75o := by
  refine sound_of_bodyO hmix (tpl := [(6, 3), (7, 1)]) Tryz.func75 rfl (by kernel_rfl) fun args bin ob r bout hDe hob => ?_
  unfold sp75o at hDe
  split at hDe
  · rename_i a0 a1 a2
    cases hDe
    exact ⟨Nat.le_of_ble_eq_true (by kernel_rfl), cx75o (decPReplica a0) ((decL decMsg) a1) a2, Eq.mp (by kernel_rfl) htt, Eq.mp (by kernel_rfl) da75o, Eq.mp (by kernel_rfl) (noM_sound (P := Tryz.prog)), by kernel_rfl, [encPReplica 1 ((decPReplica a0)), encL (encMsg 1) 1 (((decL decMsg) a1)), .int .i64 (a2)], [], args_of_vles (⟨hob.1, hob.2.1, VLe.refl _, trivial⟩), trivial, Eq.mp (by kernel_rfl) (bd75o (decPReplica a0) ((decL decMsg) a1) a2 (hob.2.2))⟩
  · cases hDe

/-! ### impl.ChangeMsg%o -/
def pr31o (f : Int) (l : List Msg) (r : Replica) (view : Int) : Prop := bdL l
noncomputable def ro31o (f : Int) (l : List Msg) (r : Replica) (view : Int) : MsgResult := changeMsgF f l r view
noncomputable def rb31o (f : Int) (l : List Msg) (r : Replica) (view : Int) : List Blk := [(.arr 3 (((ro31o f l r view).msg).certs).length (gL (encCert 1) (((ro31o f l r view).msg).certs)) tagS), (.arr 1 (((ro31o f l r view).msg).refs).length (gL encI (((ro31o f l r view).msg).refs)) tagS)]
noncomputable def rs31o (f : Int) (l : List Msg) (r : Replica) (view : Int) : V := .agg [.int .i64 ((ro31o f l r view).code), .int .i64 (((ro31o f l r view).msg).kind), .int .i64 (((ro31o f l r view).msg).view), .int .i64 (((ro31o f l r view).msg).sender), .int .i64 (((ro31o f l r view).msg).slot), .int .i64 (((ro31o f l r view).msg).value), .osl 0 (((ro31o f l r view).msg).certs).length, .osl 1 (((ro31o f l r view).msg).refs).length]
noncomputable def sp31o : FSpec := fun args bin => match args, bin with
  | [.int .i64 a0, a1, a2, .int .i64 a3], [] => some (VLe a1 (encL (encMsg 1) 1 (((decL decMsg) a1))) ∧ VLe a2 (encReplica 1 ((decReplica a2))) ∧ pr31o a0 ((decL decMsg) a1) (decReplica a2) a3, rs31o a0 ((decL decMsg) a1) (decReplica a2) a3, rb31o a0 ((decL decMsg) a1) (decReplica a2) a3)
  | _, _ => none
noncomputable def D31o : Nat → Option (Bool × FSpec) := lk [(24, (false, sp24)), (75, (false, sp75o))]
theorem da31o : SoundAll Tryz.prog D31o := soundAll_cons so24 (soundAll_cons so75o (soundAll_nil))
noncomputable def cx31o (f : Int) (l : List Msg) (r : Replica) (view : Int) : Cx := ⟨tt, D31o, Tryz.f31.ntmps, [0, 1, 2, 3, 6, 8, 9, 15], [], [], fun _ => none, [], noM, []⟩
theorem bd31o (f : Int) (l : List Msg) (r : Replica) (view : Int) (hpre : pr31o f l r view) : bodyO (cx31o f l r view) Tryz.f31 [(6, 3), (7, 1)] [.int .i64 (f), encL (encMsg 1) 1 (l), encReplica 1 (r), .int .i64 (view)] [] (fun rr bs => VLe rr (rs31o f l r view) ∧ BinLe bs (rb31o f l r view)) := by
  have key :
      (((VLe (encL (encMsg 1) 1 l)
   (encL (encMsg 1) 1 (decL decMsg (encL (encMsg 1) 1 l)))) ∧
   ((VLe (encReplica 1 r) (encReplica 1 (decReplica (encReplica 1 r)))) ∧
   (pr24 f (decL decMsg (encL (encMsg 1) 1 l)) (decReplica (encReplica 1 r))))) ∧
   ((((replicaFault f (decL decMsg (encL (encMsg 1) 1 l)) (decReplica (encReplica 1 r)) !=
   (0 : Int)) =
   true) →
   ((VLe
   (V.agg
   [V.int IntKind.i64
   (replicaFault f (decL decMsg (encL (encMsg 1) 1 l)) (decReplica (encReplica 1 r))),
   V.int IntKind.i64 (0 : Int), V.int IntKind.i64 (0 : Int), V.int IntKind.i64 (0 : Int),
   V.int IntKind.i64 (0 : Int), V.int IntKind.i64 (0 : Int), V.osl 0 0, V.osl 1 0])
   (V.agg
   [V.int IntKind.i64 (MsgResult.code (ro31o f l r view)),
   V.int IntKind.i64 (Msg.kind (MsgResult.msg (ro31o f l r view))),
   V.int IntKind.i64 (Msg.view (MsgResult.msg (ro31o f l r view))),
   V.int IntKind.i64 (Msg.sender (MsgResult.msg (ro31o f l r view))),
   V.int IntKind.i64 (Msg.slot (MsgResult.msg (ro31o f l r view))),
   V.int IntKind.i64 (Msg.value (MsgResult.msg (ro31o f l r view))),
   V.osl 0 (List.length (Msg.certs (MsgResult.msg (ro31o f l r view)))),
   V.osl 1 (List.length (Msg.refs (MsgResult.msg (ro31o f l r view))))])) ∧
   ((BLe (Blk.arr 3 0 (fun (x : Nat) ↦ V.undef) 100)
   (Blk.arr 3 (List.length (Msg.certs (MsgResult.msg (ro31o f l r view))))
   (gL (encCert 1) (Msg.certs (MsgResult.msg (ro31o f l r view)))) 100)) ∧
   ((BLe (Blk.arr 1 0 (fun (x : Nat) ↦ V.undef) 100)
   (Blk.arr 1 (List.length (Msg.refs (MsgResult.msg (ro31o f l r view))))
   (gL encI (Msg.refs (MsgResult.msg (ro31o f l r view)))) 100)) ∧
   (True))))) ∧
   (((replicaFault f (decL decMsg (encL (encMsg 1) 1 l)) (decReplica (encReplica 1 r)) !=
   (0 : Int)) =
   false) →
   (((VLe (encPReplica 1 r) (encPReplica 1 (decPReplica (encPReplica 1 r)))) ∧
   ((VLe (encL (encMsg 1) 1 l)
   (encL (encMsg 1) 1 (decL decMsg (encL (encMsg 1) 1 l)))) ∧
   (pr75o (decPReplica (encPReplica 1 r)) (decL decMsg (encL (encMsg 1) 1 l)) view))) ∧
   ((VLe
   (V.agg
   [V.int IntKind.i64
   (MsgResult.code
   (ro75o (decPReplica (encPReplica 1 r)) (decL decMsg (encL (encMsg 1) 1 l)) view)),
   V.int IntKind.i64
   (Msg.kind
   (MsgResult.msg
   (ro75o (decPReplica (encPReplica 1 r)) (decL decMsg (encL (encMsg 1) 1 l)) view))),
   V.int IntKind.i64
   (Msg.view
   (MsgResult.msg
   (ro75o (decPReplica (encPReplica 1 r)) (decL decMsg (encL (encMsg 1) 1 l)) view))),
   V.int IntKind.i64
   (Msg.sender
   (MsgResult.msg
   (ro75o (decPReplica (encPReplica 1 r)) (decL decMsg (encL (encMsg 1) 1 l)) view))),
   V.int IntKind.i64
   (Msg.slot
   (MsgResult.msg
   (ro75o (decPReplica (encPReplica 1 r)) (decL decMsg (encL (encMsg 1) 1 l)) view))),
   V.int IntKind.i64
   (Msg.value
   (MsgResult.msg
   (ro75o (decPReplica (encPReplica 1 r)) (decL decMsg (encL (encMsg 1) 1 l)) view))),
   V.osl 0
   (List.length
   (Msg.certs
   (MsgResult.msg
   (ro75o (decPReplica (encPReplica 1 r)) (decL decMsg (encL (encMsg 1) 1 l))
   view)))),
   V.osl 1
   (List.length
   (Msg.refs
   (MsgResult.msg
   (ro75o (decPReplica (encPReplica 1 r)) (decL decMsg (encL (encMsg 1) 1 l))
   view))))])
   (V.agg
   [V.int IntKind.i64 (MsgResult.code (ro31o f l r view)),
   V.int IntKind.i64 (Msg.kind (MsgResult.msg (ro31o f l r view))),
   V.int IntKind.i64 (Msg.view (MsgResult.msg (ro31o f l r view))),
   V.int IntKind.i64 (Msg.sender (MsgResult.msg (ro31o f l r view))),
   V.int IntKind.i64 (Msg.slot (MsgResult.msg (ro31o f l r view))),
   V.int IntKind.i64 (Msg.value (MsgResult.msg (ro31o f l r view))),
   V.osl 0 (List.length (Msg.certs (MsgResult.msg (ro31o f l r view)))),
   V.osl 1 (List.length (Msg.refs (MsgResult.msg (ro31o f l r view))))])) ∧
   ((BLe
   (Blk.arr 3
   (List.length
   (Msg.certs
   (MsgResult.msg
   (ro75o (decPReplica (encPReplica 1 r)) (decL decMsg (encL (encMsg 1) 1 l)) view))))
   (gL (encCert 1)
   (Msg.certs
   (MsgResult.msg
   (ro75o (decPReplica (encPReplica 1 r)) (decL decMsg (encL (encMsg 1) 1 l)) view))))
   100)
   (Blk.arr 3 (List.length (Msg.certs (MsgResult.msg (ro31o f l r view))))
   (gL (encCert 1) (Msg.certs (MsgResult.msg (ro31o f l r view)))) 100)) ∧
   ((BLe
   (Blk.arr 1
   (List.length
   (Msg.refs
   (MsgResult.msg
   (ro75o (decPReplica (encPReplica 1 r)) (decL decMsg (encL (encMsg 1) 1 l)) view))))
   (gL encI
   (Msg.refs
   (MsgResult.msg
   (ro75o (decPReplica (encPReplica 1 r)) (decL decMsg (encL (encMsg 1) 1 l)) view))))
   100)
   (Blk.arr 1 (List.length (Msg.refs (MsgResult.msg (ro31o f l r view))))
   (gL encI (Msg.refs (MsgResult.msg (ro31o f l r view)))) 100)) ∧
   (True)))))))) := by
    simp only [decL_Msg, dec_encReplica, dec_encPReplica, ro31o, ro75o]
    refine ⟨⟨VLe.refl _, VLe.refl _, hpre⟩, fun h => ?_, fun h => ?_⟩
    · have e : changeMsgF f l r view = ⟨replicaFault f l r, default⟩ := if_pos (by simpa using h)
      rw [e]
      exact ⟨VLe.refl _, ble_nil _, ble_nil _, trivial⟩
    have h0 : replicaFault f l r = 0 := by simpa using h
    obtain ⟨hr, hv⟩ := replica_right h0
    have e' : changeMsgF f l r view = changeF l r view := if_neg (not_not_intro h0)
    rw [e']
    exact ⟨⟨VLe.refl _, VLe.refl _, ⟨f, hr⟩, hpre⟩, VLe.refl _, BLe.refl _, BLe.refl _, trivial⟩
  exact Eq.mp (by kernel_rfl) key
theorem so31o : Sound Tryz.prog 31 sp31o := by
  refine sound_of_bodyO hmix (tpl := [(6, 3), (7, 1)]) Tryz.func31 rfl (by kernel_rfl) fun args bin ob r bout hDe hob => ?_
  unfold sp31o at hDe
  split at hDe
  · rename_i a0 a1 a2 a3
    cases hDe
    exact ⟨Nat.le_of_ble_eq_true (by kernel_rfl), cx31o a0 ((decL decMsg) a1) (decReplica a2) a3, Eq.mp (by kernel_rfl) htt, Eq.mp (by kernel_rfl) da31o, Eq.mp (by kernel_rfl) (noM_sound (P := Tryz.prog)), by kernel_rfl, [.int .i64 (a0), encL (encMsg 1) 1 (((decL decMsg) a1)), encReplica 1 ((decReplica a2)), .int .i64 (a3)], [], args_of_vles (⟨VLe.refl _, hob.1, hob.2.1, VLe.refl _, trivial⟩), trivial, Eq.mp (by kernel_rfl) (bd31o a0 ((decL decMsg) a1) (decReplica a2) a3 (hob.2.2))⟩
  · cases hDe

/-! ### spec.ChangeMsg%o -/
def pr32o (f : Int) (l : List Msg) (r : Replica) (view : Int) : Prop := bdL l
noncomputable def ro32o (f : Int) (l : List Msg) (r : Replica) (view : Int) : MsgResult := changeMsgF f l r view
noncomputable def rb32o (f : Int) (l : List Msg) (r : Replica) (view : Int) : List Blk := [(.arr 3 (((ro32o f l r view).msg).certs).length (gL (encCert 1) (((ro32o f l r view).msg).certs)) tagS), (.arr 1 (((ro32o f l r view).msg).refs).length (gL encI (((ro32o f l r view).msg).refs)) tagS)]
noncomputable def rs32o (f : Int) (l : List Msg) (r : Replica) (view : Int) : V := .agg [.int .i64 ((ro32o f l r view).code), .int .i64 (((ro32o f l r view).msg).kind), .int .i64 (((ro32o f l r view).msg).view), .int .i64 (((ro32o f l r view).msg).sender), .int .i64 (((ro32o f l r view).msg).slot), .int .i64 (((ro32o f l r view).msg).value), .osl 0 (((ro32o f l r view).msg).certs).length, .osl 1 (((ro32o f l r view).msg).refs).length]
noncomputable def sp32o : FSpec := fun args bin => match args, bin with
  | [.int .i64 a0, a1, a2, .int .i64 a3], [] => some (VLe a1 (encL (encMsg 1) 1 (((decL decMsg) a1))) ∧ VLe a2 (encReplica 1 ((decReplica a2))) ∧ pr32o a0 ((decL decMsg) a1) (decReplica a2) a3, rs32o a0 ((decL decMsg) a1) (decReplica a2) a3, rb32o a0 ((decL decMsg) a1) (decReplica a2) a3)
  | _, _ => none
noncomputable def D32o : Nat → Option (Bool × FSpec) := lk [(63, (false, sp63)), (52, (false, sp52)), (76, (false, sp76o))]
theorem da32o : SoundAll Tryz.prog D32o := soundAll_cons so63 (soundAll_cons so52 (soundAll_cons so76o (soundAll_nil)))
noncomputable def cx32o (f : Int) (l : List Msg) (r : Replica) (view : Int) : Cx := ⟨tt, D32o, Tryz.f32.ntmps, [0, 1, 2, 3, 6, 8, 9, 14, 19, 24], [], [], fun _ => none, [], noM, []⟩
theorem bd32o (f : Int) (l : List Msg) (r : Replica) (view : Int) (hpre : pr32o f l r view) : bodyO (cx32o f l r view) Tryz.f32 [(6, 3), (7, 1)] [.int .i64 (f), encL (encMsg 1) 1 (l), encReplica 1 (r), .int .i64 (view)] [] (fun rr bs => VLe rr (rs32o f l r view) ∧ BinLe bs (rb32o f l r view)) := by
  have key :
      (((VLe (encL (encMsg 1) 1 l)
   (encL (encMsg 1) 1 (decL decMsg (encL (encMsg 1) 1 l)))) ∧
   ((VLe (encPReplica 1 r) (encPReplica 1 (decPReplica (encPReplica 1 r)))) ∧
   (pr63 f (decL decMsg (encL (encMsg 1) 1 l)) (decPReplica (encPReplica 1 r))))) ∧
   ((((replicaFault f (decL decMsg (encL (encMsg 1) 1 l)) (decPReplica (encPReplica 1 r)) !=
   (0 : Int)) =
   true) →
   ((VLe
   (V.agg
   [V.int IntKind.i64
   (replicaFault f (decL decMsg (encL (encMsg 1) 1 l)) (decPReplica (encPReplica 1 r))),
   V.int IntKind.i64 (0 : Int), V.int IntKind.i64 (0 : Int), V.int IntKind.i64 (0 : Int),
   V.int IntKind.i64 (0 : Int), V.int IntKind.i64 (0 : Int), V.osl 0 0, V.osl 1 0])
   (V.agg
   [V.int IntKind.i64 (MsgResult.code (ro32o f l r view)),
   V.int IntKind.i64 (Msg.kind (MsgResult.msg (ro32o f l r view))),
   V.int IntKind.i64 (Msg.view (MsgResult.msg (ro32o f l r view))),
   V.int IntKind.i64 (Msg.sender (MsgResult.msg (ro32o f l r view))),
   V.int IntKind.i64 (Msg.slot (MsgResult.msg (ro32o f l r view))),
   V.int IntKind.i64 (Msg.value (MsgResult.msg (ro32o f l r view))),
   V.osl 0 (List.length (Msg.certs (MsgResult.msg (ro32o f l r view)))),
   V.osl 1 (List.length (Msg.refs (MsgResult.msg (ro32o f l r view))))])) ∧
   ((BLe (Blk.arr 3 0 (fun (x : Nat) ↦ V.undef) 100)
   (Blk.arr 3 (List.length (Msg.certs (MsgResult.msg (ro32o f l r view))))
   (gL (encCert 1) (Msg.certs (MsgResult.msg (ro32o f l r view)))) 100)) ∧
   ((BLe (Blk.arr 1 0 (fun (x : Nat) ↦ V.undef) 100)
   (Blk.arr 1 (List.length (Msg.refs (MsgResult.msg (ro32o f l r view))))
   (gL encI (Msg.refs (MsgResult.msg (ro32o f l r view)))) 100)) ∧
   (True))))) ∧
   (((replicaFault f (decL decMsg (encL (encMsg 1) 1 l)) (decPReplica (encPReplica 1 r)) !=
   (0 : Int)) =
   false) →
   ((pr52 view (0 : Int) (20 : Int)) ∧
   ((((!decide (inR view (0 : Int) (20 : Int))) = true) →
   ((VLe
   (V.agg
   [V.int IntKind.i64 (3 : Int), V.int IntKind.i64 (0 : Int), V.int IntKind.i64 (0 : Int), V.int IntKind.i64 (0 : Int),
   V.int IntKind.i64 (0 : Int), V.int IntKind.i64 (0 : Int), V.osl 0 0, V.osl 1 0])
   (V.agg
   [V.int IntKind.i64 (MsgResult.code (ro32o f l r view)),
   V.int IntKind.i64 (Msg.kind (MsgResult.msg (ro32o f l r view))),
   V.int IntKind.i64 (Msg.view (MsgResult.msg (ro32o f l r view))),
   V.int IntKind.i64 (Msg.sender (MsgResult.msg (ro32o f l r view))),
   V.int IntKind.i64 (Msg.slot (MsgResult.msg (ro32o f l r view))),
   V.int IntKind.i64 (Msg.value (MsgResult.msg (ro32o f l r view))),
   V.osl 0 (List.length (Msg.certs (MsgResult.msg (ro32o f l r view)))),
   V.osl 1 (List.length (Msg.refs (MsgResult.msg (ro32o f l r view))))])) ∧
   ((BLe (Blk.arr 3 0 (fun (x : Nat) ↦ V.undef) 100)
   (Blk.arr 3 (List.length (Msg.certs (MsgResult.msg (ro32o f l r view))))
   (gL (encCert 1) (Msg.certs (MsgResult.msg (ro32o f l r view)))) 100)) ∧
   ((BLe (Blk.arr 1 0 (fun (x : Nat) ↦ V.undef) 100)
   (Blk.arr 1 (List.length (Msg.refs (MsgResult.msg (ro32o f l r view))))
   (gL encI (Msg.refs (MsgResult.msg (ro32o f l r view)))) 100)) ∧
   (True))))) ∧
   (((!decide (inR view (0 : Int) (20 : Int))) = false) →
   (((decide (view ≤ Replica.view r) = true) →
   ((VLe
   (V.agg
   [V.int IntKind.i64 (8 : Int), V.int IntKind.i64 (0 : Int), V.int IntKind.i64 (0 : Int), V.int IntKind.i64 (0 : Int),
   V.int IntKind.i64 (0 : Int), V.int IntKind.i64 (0 : Int), V.osl 0 0, V.osl 1 0])
   (V.agg
   [V.int IntKind.i64 (MsgResult.code (ro32o f l r view)),
   V.int IntKind.i64 (Msg.kind (MsgResult.msg (ro32o f l r view))),
   V.int IntKind.i64 (Msg.view (MsgResult.msg (ro32o f l r view))),
   V.int IntKind.i64 (Msg.sender (MsgResult.msg (ro32o f l r view))),
   V.int IntKind.i64 (Msg.slot (MsgResult.msg (ro32o f l r view))),
   V.int IntKind.i64 (Msg.value (MsgResult.msg (ro32o f l r view))),
   V.osl 0 (List.length (Msg.certs (MsgResult.msg (ro32o f l r view)))),
   V.osl 1 (List.length (Msg.refs (MsgResult.msg (ro32o f l r view))))])) ∧
   ((BLe (Blk.arr 3 0 (fun (x : Nat) ↦ V.undef) 100)
   (Blk.arr 3 (List.length (Msg.certs (MsgResult.msg (ro32o f l r view))))
   (gL (encCert 1) (Msg.certs (MsgResult.msg (ro32o f l r view)))) 100)) ∧
   ((BLe (Blk.arr 1 0 (fun (x : Nat) ↦ V.undef) 100)
   (Blk.arr 1 (List.length (Msg.refs (MsgResult.msg (ro32o f l r view))))
   (gL encI (Msg.refs (MsgResult.msg (ro32o f l r view)))) 100)) ∧
   (True))))) ∧
   ((decide (view ≤ Replica.view r) = false) →
   (((VLe (encL (encMsg 1) 1 l)
   (encL (encMsg 1) 1 (decL decMsg (encL (encMsg 1) 1 l)))) ∧
   (pr76o (decL decMsg (encL (encMsg 1) 1 l)) (Replica.id r) view)) ∧
   ((VLe
   (V.agg
   [V.int IntKind.i64 (0 : Int), V.int IntKind.i64 (4 : Int), V.int IntKind.i64 view, V.int IntKind.i64 (Replica.id r),
   V.int IntKind.i64 (0 : Int), V.int IntKind.i64 (0 : Int),
   V.osl 0 (List.length (ro76o (decL decMsg (encL (encMsg 1) 1 l)) (Replica.id r) view)),
   V.osl 1 0])
   (V.agg
   [V.int IntKind.i64 (MsgResult.code (ro32o f l r view)),
   V.int IntKind.i64 (Msg.kind (MsgResult.msg (ro32o f l r view))),
   V.int IntKind.i64 (Msg.view (MsgResult.msg (ro32o f l r view))),
   V.int IntKind.i64 (Msg.sender (MsgResult.msg (ro32o f l r view))),
   V.int IntKind.i64 (Msg.slot (MsgResult.msg (ro32o f l r view))),
   V.int IntKind.i64 (Msg.value (MsgResult.msg (ro32o f l r view))),
   V.osl 0 (List.length (Msg.certs (MsgResult.msg (ro32o f l r view)))),
   V.osl 1 (List.length (Msg.refs (MsgResult.msg (ro32o f l r view))))])) ∧
   ((BLe
   (Blk.arr 3 (List.length (ro76o (decL decMsg (encL (encMsg 1) 1 l)) (Replica.id r) view))
   (gL (encCert 1) (ro76o (decL decMsg (encL (encMsg 1) 1 l)) (Replica.id r) view))
   100)
   (Blk.arr 3 (List.length (Msg.certs (MsgResult.msg (ro32o f l r view))))
   (gL (encCert 1) (Msg.certs (MsgResult.msg (ro32o f l r view)))) 100)) ∧
   ((BLe (Blk.arr 1 0 (fun (x : Nat) ↦ V.undef) 100)
   (Blk.arr 1 (List.length (Msg.refs (MsgResult.msg (ro32o f l r view))))
   (gL encI (Msg.refs (MsgResult.msg (ro32o f l r view)))) 100)) ∧
   (True))))))))))))) := by
    simp only [decL_Msg, dec_encReplica, dec_encPReplica, ro32o, ro76o]
    refine ⟨⟨VLe.refl _, VLe.refl _, hpre⟩, fun h => ?_, fun h => ?_⟩
    · have e : changeMsgF f l r view = ⟨replicaFault f l r, default⟩ := if_pos (by simpa using h)
      rw [e]
      exact ⟨VLe.refl _, ble_nil _, ble_nil _, trivial⟩
    have h0 : replicaFault f l r = 0 := by simpa using h
    obtain ⟨hr, hv⟩ := replica_right h0
    have e' : changeMsgF f l r view = changeF l r view := if_neg (not_not_intro h0)
    rw [e']
    refine ⟨trivial, fun h => ?_, fun h => ⟨fun h2 => ?_, fun h2 => ?_⟩⟩
    · have e : changeF l r view = ⟨3, default⟩ := by unfold changeF; rw [if_pos (nd h)]
      rw [e]
      exact ⟨VLe.refl _, ble_nil _, ble_nil _, trivial⟩
    · have e : changeF l r view = ⟨8, default⟩ := by unfold changeF; rw [if_neg (not_not_intro (pd h)), if_pos (of_decide_eq_true h2)]
      rw [e]
      exact ⟨VLe.refl _, ble_nil _, ble_nil _, trivial⟩
    · have e : changeF l r view = ⟨0, ⟨4, view, r.id, 0, 0, certsL l r.id view, []⟩⟩ := by unfold changeF; rw [if_neg (not_not_intro (pd h)), if_neg (of_decide_eq_false h2)]
      rw [e]
      exact ⟨⟨VLe.refl _, ⟨f, hr⟩, hpre⟩, VLe.refl _, BLe.refl _, ble_nil _, trivial⟩
  exact Eq.mp (by kernel_rfl) key
theorem so32o : Sound Tryz.prog 32 sp32o := by
  refine sound_of_bodyO hmix (tpl := [(6, 3), (7, 1)]) Tryz.func32 rfl (by kernel_rfl) fun args bin ob r bout hDe hob => ?_
  unfold sp32o at hDe
  split at hDe
  · rename_i a0 a1 a2 a3
    cases hDe
    exact ⟨Nat.le_of_ble_eq_true (by kernel_rfl), cx32o a0 ((decL decMsg) a1) (decReplica a2) a3, Eq.mp (by kernel_rfl) htt, Eq.mp (by kernel_rfl) da32o, Eq.mp (by kernel_rfl) (noM_sound (P := Tryz.prog)), by kernel_rfl, [.int .i64 (a0), encL (encMsg 1) 1 (((decL decMsg) a1)), encReplica 1 ((decReplica a2)), .int .i64 (a3)], [], args_of_vles (⟨VLe.refl _, hob.1, hob.2.1, VLe.refl _, trivial⟩), trivial, Eq.mp (by kernel_rfl) (bd32o a0 ((decL decMsg) a1) (decReplica a2) a3 (hob.2.2))⟩
  · cases hDe

end Go.Av
