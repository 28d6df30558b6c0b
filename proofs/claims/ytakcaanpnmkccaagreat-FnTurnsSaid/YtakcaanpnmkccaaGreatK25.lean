/- The change of a replica. -/
import Derived.Test.YtakcaanpnmkccaaGreatK12
import Derived.Test.YtakcaanpnmkccaaGreatK20
namespace Go.Av
open Go.Proofs
set_option maxRecDepth 100000
set_option linter.unusedVariables false
set_option linter.unusedSimpArgs false

noncomputable def changeF (l : List Msg) (r : Replica) (view : Int) : MsgResult :=
  if ¬ inR view 0 20 then ⟨3, default⟩ else if view ≤ r.view then ⟨8, default⟩ else ⟨0, ⟨4, view, r.id, 0, 0, certsL l r.id view, []⟩⟩
noncomputable def changeMsgF (f : Int) (l : List Msg) (r : Replica) (view : Int) : MsgResult :=
  if replicaFault f l r ≠ 0 then ⟨replicaFault f l r, default⟩ else changeF l r view


/-! ### Replica).changeMsg%o -/
def pr47o (r : Replica) (l : List Msg) (view : Int) : Prop := (∃ f, Right f l) ∧ bdL l
noncomputable def ro47o (r : Replica) (l : List Msg) (view : Int) : MsgResult := changeF l r view
noncomputable def rb47o (r : Replica) (l : List Msg) (view : Int) : List Blk := [(.arr 3 (((ro47o r l view).msg).certs).length (gL (encCert 1) (((ro47o r l view).msg).certs)) tagS), (.arr 1 (((ro47o r l view).msg).refs).length (gL encI (((ro47o r l view).msg).refs)) tagS)]
noncomputable def rs47o (r : Replica) (l : List Msg) (view : Int) : V := .agg [.int .i64 ((ro47o r l view).code), .int .i64 (((ro47o r l view).msg).kind), .int .i64 (((ro47o r l view).msg).view), .int .i64 (((ro47o r l view).msg).sender), .int .i64 (((ro47o r l view).msg).slot), .int .i64 (((ro47o r l view).msg).value), .osl 0 (((ro47o r l view).msg).certs).length, .osl 1 (((ro47o r l view).msg).refs).length]
noncomputable def sp47o : FSpec := fun args bin => match args, bin with
  | [a0, a1, .int .i64 a2], [] => some (VLe a0 (encPReplica 1 ((decPReplica a0))) ∧ VLe a1 (encL (encMsg 1) 1 (((decL decMsg) a1))) ∧ pr47o (decPReplica a0) ((decL decMsg) a1) a2, rs47o (decPReplica a0) ((decL decMsg) a1) a2, rb47o (decPReplica a0) ((decL decMsg) a1) a2)
  | _, _ => none
noncomputable def D47o : Nat → Option (Bool × FSpec) := lk [(31, (false, sp31)), (51, (false, sp51o))]
theorem da47o : SoundAll Tryz.prog D47o := soundAll_cons so31 (soundAll_cons so51o (soundAll_nil))
noncomputable def cx47o (r : Replica) (l : List Msg) (view : Int) : Cx := ⟨tt, D47o, Tryz.f47.ntmps, [0, 1, 2, 6, 7, 12], [], [], fun _ => none, [], noM, []⟩
noncomputable def k47o_0 (r : Replica) (l : List Msg) (view : Int) : V := (V.agg [vi (MsgResult.code (ro47o r l view)), vi (Msg.kind (MsgResult.msg (ro47o r l view))), vi (Msg.view (MsgResult.msg (ro47o r l view))), vi (Msg.sender (MsgResult.msg (ro47o r l view))), vi (Msg.slot (MsgResult.msg (ro47o r l view))), vi (Msg.value (MsgResult.msg (ro47o r l view))), V.osl 0 (List.length (Msg.certs (MsgResult.msg (ro47o r l view)))), V.osl 1 (List.length (Msg.refs (MsgResult.msg (ro47o r l view))))])
noncomputable def k47o_1 (r : Replica) (l : List Msg) (view : Int) : Prop := (BLe (Blk.arr 1 0 (fun (x : Nat) ↦ V.undef) 100) (Blk.arr 1 (List.length (Msg.refs (MsgResult.msg (ro47o r l view)))) (gL encI (Msg.refs (MsgResult.msg (ro47o r l view)))) 100))
noncomputable def k47o_2 (r : Replica) (l : List Msg) (view : Int) : Blk := (Blk.arr 3 (List.length (Msg.certs (MsgResult.msg (ro47o r l view)))) (gL (encCert 1) (Msg.certs (MsgResult.msg (ro47o r l view)))) 100)
theorem bd47o (r : Replica) (l : List Msg) (view : Int) (hpre : pr47o r l view) : bodyO (cx47o r l view) Tryz.f47 [(6, 3), (7, 1)] [encPReplica 1 (r), encL (encMsg 1) 1 (l), .int .i64 (view)] [] (fun rr bs => VLe rr (rs47o r l view) ∧ BinLe bs (rb47o r l view)) := by
  have key : ((pr31 view) ∧ ((((!decide (inR view (0 : Int) (20 : Int))) = true) → ((VLe (V.agg [vi (3 : Int), vi (0 : Int), vi (0 : Int), vi (0 : Int), vi (0 : Int), vi (0 : Int), V.osl 0 0, V.osl 1 0]) (k47o_0 r l view)) ∧ ((BLe (Blk.arr 3 0 (fun (x : Nat) ↦ V.undef) 100) (k47o_2 r l view)) ∧ ((k47o_1 r l view) ∧ (True))))) ∧ (((!decide (inR view (0 : Int) (20 : Int))) = false) → (((decide (view ≤ Replica.view r) = true) → ((VLe (V.agg [vi (8 : Int), vi (0 : Int), vi (0 : Int), vi (0 : Int), vi (0 : Int), vi (0 : Int), V.osl 0 0, V.osl 1 0]) (k47o_0 r l view)) ∧ ((BLe (Blk.arr 3 0 (fun (x : Nat) ↦ V.undef) 100) (k47o_2 r l view)) ∧ ((k47o_1 r l view) ∧ (True))))) ∧ ((decide (view ≤ Replica.view r) = false) → (((VLe (encL (encMsg 1) 1 l) (encL (encMsg 1) 1 (decL decMsg (encL (encMsg 1) 1 l)))) ∧ (pr51o (decL decMsg (encL (encMsg 1) 1 l)) (Replica.id r) view)) ∧ ((VLe (V.agg [vi (0 : Int), vi (4 : Int), vi view, vi (Replica.id r), vi (0 : Int), vi (0 : Int), V.osl 0 (List.length (ro51o (decL decMsg (encL (encMsg 1) 1 l)) (Replica.id r) view)), V.osl 1 0]) (k47o_0 r l view)) ∧ ((BLe (Blk.arr 3 (List.length (ro51o (decL decMsg (encL (encMsg 1) 1 l)) (Replica.id r) view)) (gL (encCert 1) (ro51o (decL decMsg (encL (encMsg 1) 1 l)) (Replica.id r) view)) 100) (k47o_2 r l view)) ∧ ((k47o_1 r l view) ∧ (True)))))))))) := by
    delta k47o_2; delta k47o_1; delta k47o_0; delta vi
    obtain ⟨hx, hl⟩ := hpre
    simp only [decL_Msg, ro47o, ro51o]
    refine ⟨trivial, fun h => ?_, fun h => ⟨fun h2 => ?_, fun h2 => ?_⟩⟩
    · have e : changeF l r view = ⟨3, default⟩ := by unfold changeF; rw [if_pos (nd h)]
      rw [e]
      exact ⟨VLe.refl _, ble_nil _, ble_nil _, trivial⟩
    · have e : changeF l r view = ⟨8, default⟩ := by unfold changeF; rw [if_neg (not_not_intro (pd h)), if_pos (of_decide_eq_true h2)]
      rw [e]
      exact ⟨VLe.refl _, ble_nil _, ble_nil _, trivial⟩
    · have e : changeF l r view = ⟨0, ⟨4, view, r.id, 0, 0, certsL l r.id view, []⟩⟩ := by unfold changeF; rw [if_neg (not_not_intro (pd h)), if_neg (of_decide_eq_false h2)]
      rw [e]
      exact ⟨⟨VLe.refl _, hx, hl⟩, VLe.refl _, BLe.refl _, ble_nil _, trivial⟩
  exact Eq.mp (by kernel_rfl) key
theorem so47o : Sound Tryz.prog 47 sp47o := by
  refine sound_of_bodyO hmix (tpl := [(6, 3), (7, 1)]) Tryz.func47 rfl (by kernel_rfl) fun args bin ob r bout hDe hob => ?_
  unfold sp47o at hDe
  split at hDe
  · rename_i a0 a1 a2
    cases hDe
    exact ⟨Nat.le_of_ble_eq_true (by kernel_rfl), cx47o (decPReplica a0) ((decL decMsg) a1) a2, Eq.mp (by kernel_rfl) htt, Eq.mp (by kernel_rfl) da47o, Eq.mp (by kernel_rfl) (noM_sound (P := Tryz.prog)), by kernel_rfl, [encPReplica 1 ((decPReplica a0)), encL (encMsg 1) 1 (((decL decMsg) a1)), .int .i64 (a2)], [], args_of_vles (⟨hob.1, hob.2.1, VLe.refl _, trivial⟩), trivial, Eq.mp (by kernel_rfl) (bd47o (decPReplica a0) ((decL decMsg) a1) a2 (hob.2.2))⟩
  · cases hDe

/-! ### impl.ChangeMsg%o -/
def pr16o (f : Int) (l : List Msg) (r : Replica) (view : Int) : Prop := bdL l
noncomputable def ro16o (f : Int) (l : List Msg) (r : Replica) (view : Int) : MsgResult := changeMsgF f l r view
noncomputable def rb16o (f : Int) (l : List Msg) (r : Replica) (view : Int) : List Blk := [(.arr 3 (((ro16o f l r view).msg).certs).length (gL (encCert 1) (((ro16o f l r view).msg).certs)) tagS), (.arr 1 (((ro16o f l r view).msg).refs).length (gL encI (((ro16o f l r view).msg).refs)) tagS)]
noncomputable def rs16o (f : Int) (l : List Msg) (r : Replica) (view : Int) : V := .agg [.int .i64 ((ro16o f l r view).code), .int .i64 (((ro16o f l r view).msg).kind), .int .i64 (((ro16o f l r view).msg).view), .int .i64 (((ro16o f l r view).msg).sender), .int .i64 (((ro16o f l r view).msg).slot), .int .i64 (((ro16o f l r view).msg).value), .osl 0 (((ro16o f l r view).msg).certs).length, .osl 1 (((ro16o f l r view).msg).refs).length]
noncomputable def sp16o : FSpec := fun args bin => match args, bin with
  | [.int .i64 a0, a1, a2, .int .i64 a3], [] => some (VLe a1 (encL (encMsg 1) 1 (((decL decMsg) a1))) ∧ VLe a2 (encReplica 1 ((decReplica a2))) ∧ pr16o a0 ((decL decMsg) a1) (decReplica a2) a3, rs16o a0 ((decL decMsg) a1) (decReplica a2) a3, rb16o a0 ((decL decMsg) a1) (decReplica a2) a3)
  | _, _ => none
noncomputable def D16o : Nat → Option (Bool × FSpec) := lk [(46, (false, sp46)), (47, (false, sp47o))]
theorem da16o : SoundAll Tryz.prog D16o := soundAll_cons so46 (soundAll_cons so47o (soundAll_nil))
noncomputable def cx16o (f : Int) (l : List Msg) (r : Replica) (view : Int) : Cx := ⟨tt, D16o, Tryz.f16.ntmps, [0, 1, 2, 3, 6, 8, 9, 15], [], [], fun _ => none, [], noM, []⟩
noncomputable def k16o_0 (f : Int) (l : List Msg) (r : Replica) (view : Int) : V := (V.agg [vi (MsgResult.code (ro16o f l r view)), vi (Msg.kind (MsgResult.msg (ro16o f l r view))), vi (Msg.view (MsgResult.msg (ro16o f l r view))), vi (Msg.sender (MsgResult.msg (ro16o f l r view))), vi (Msg.slot (MsgResult.msg (ro16o f l r view))), vi (Msg.value (MsgResult.msg (ro16o f l r view))), V.osl 0 (List.length (Msg.certs (MsgResult.msg (ro16o f l r view)))), V.osl 1 (List.length (Msg.refs (MsgResult.msg (ro16o f l r view))))])
theorem bd16o (f : Int) (l : List Msg) (r : Replica) (view : Int) (hpre : pr16o f l r view) : bodyO (cx16o f l r view) Tryz.f16 [(6, 3), (7, 1)] [.int .i64 (f), encL (encMsg 1) 1 (l), encReplica 1 (r), .int .i64 (view)] [] (fun rr bs => VLe rr (rs16o f l r view) ∧ BinLe bs (rb16o f l r view)) := by
  have key : (((VLe (encL (encMsg 1) 1 l) (encL (encMsg 1) 1 (decL decMsg (encL (encMsg 1) 1 l)))) ∧ ((VLe (encReplica 1 r) (encReplica 1 (decReplica (encReplica 1 r)))) ∧ (pr46 f (decL decMsg (encL (encMsg 1) 1 l)) (decReplica (encReplica 1 r))))) ∧ ((((replicaFault f (decL decMsg (encL (encMsg 1) 1 l)) (decReplica (encReplica 1 r)) != (0 : Int)) = true) → ((VLe (V.agg [vi (replicaFault f (decL decMsg (encL (encMsg 1) 1 l)) (decReplica (encReplica 1 r))), vi (0 : Int), vi (0 : Int), vi (0 : Int), vi (0 : Int), vi (0 : Int), V.osl 0 0, V.osl 1 0]) (k16o_0 f l r view)) ∧ ((BLe (Blk.arr 3 0 (fun (x : Nat) ↦ V.undef) 100) (Blk.arr 3 (List.length (Msg.certs (MsgResult.msg (ro16o f l r view)))) (gL (encCert 1) (Msg.certs (MsgResult.msg (ro16o f l r view)))) 100)) ∧ ((BLe (Blk.arr 1 0 (fun (x : Nat) ↦ V.undef) 100) (Blk.arr 1 (List.length (Msg.refs (MsgResult.msg (ro16o f l r view)))) (gL encI (Msg.refs (MsgResult.msg (ro16o f l r view)))) 100)) ∧ (True))))) ∧ (((replicaFault f (decL decMsg (encL (encMsg 1) 1 l)) (decReplica (encReplica 1 r)) != (0 : Int)) = false) → (((VLe (encPReplica 1 r) (encPReplica 1 (decPReplica (encPReplica 1 r)))) ∧ ((VLe (encL (encMsg 1) 1 l) (encL (encMsg 1) 1 (decL decMsg (encL (encMsg 1) 1 l)))) ∧ (pr47o (decPReplica (encPReplica 1 r)) (decL decMsg (encL (encMsg 1) 1 l)) view))) ∧ ((VLe (V.agg [vi (MsgResult.code (ro47o (decPReplica (encPReplica 1 r)) (decL decMsg (encL (encMsg 1) 1 l)) view)), vi (Msg.kind (MsgResult.msg (ro47o (decPReplica (encPReplica 1 r)) (decL decMsg (encL (encMsg 1) 1 l)) view))), vi (Msg.view (MsgResult.msg (ro47o (decPReplica (encPReplica 1 r)) (decL decMsg (encL (encMsg 1) 1 l)) view))), vi (Msg.sender (MsgResult.msg (ro47o (decPReplica (encPReplica 1 r)) (decL decMsg (encL (encMsg 1) 1 l)) view))), vi (Msg.slot (MsgResult.msg (ro47o (decPReplica (encPReplica 1 r)) (decL decMsg (encL (encMsg 1) 1 l)) view))), vi (Msg.value (MsgResult.msg (ro47o (decPReplica (encPReplica 1 r)) (decL decMsg (encL (encMsg 1) 1 l)) view))), V.osl 0 (List.length (Msg.certs (MsgResult.msg (ro47o (decPReplica (encPReplica 1 r)) (decL decMsg (encL (encMsg 1) 1 l)) view)))), V.osl 1 (List.length (Msg.refs (MsgResult.msg (ro47o (decPReplica (encPReplica 1 r)) (decL decMsg (encL (encMsg 1) 1 l)) view))))]) (k16o_0 f l r view)) ∧ ((BLe (Blk.arr 3 (List.length (Msg.certs (MsgResult.msg (ro47o (decPReplica (encPReplica 1 r)) (decL decMsg (encL (encMsg 1) 1 l)) view)))) (gL (encCert 1) (Msg.certs (MsgResult.msg (ro47o (decPReplica (encPReplica 1 r)) (decL decMsg (encL (encMsg 1) 1 l)) view)))) 100) (Blk.arr 3 (List.length (Msg.certs (MsgResult.msg (ro16o f l r view)))) (gL (encCert 1) (Msg.certs (MsgResult.msg (ro16o f l r view)))) 100)) ∧ ((BLe (Blk.arr 1 (List.length (Msg.refs (MsgResult.msg (ro47o (decPReplica (encPReplica 1 r)) (decL decMsg (encL (encMsg 1) 1 l)) view)))) (gL encI (Msg.refs (MsgResult.msg (ro47o (decPReplica (encPReplica 1 r)) (decL decMsg (encL (encMsg 1) 1 l)) view)))) 100) (Blk.arr 1 (List.length (Msg.refs (MsgResult.msg (ro16o f l r view)))) (gL encI (Msg.refs (MsgResult.msg (ro16o f l r view)))) 100)) ∧ (True)))))))) := by
    delta k16o_0; delta vi
    simp only [decL_Msg, dec_encReplica, dec_encPReplica, ro16o, ro47o]
    refine ⟨⟨VLe.refl _, VLe.refl _, hpre⟩, fun h => ?_, fun h => ?_⟩
    · have e : changeMsgF f l r view = ⟨replicaFault f l r, default⟩ := if_pos (by simpa using h)
      rw [e]
      exact ⟨VLe.refl _, ble_nil _, ble_nil _, trivial⟩
    have h0 : replicaFault f l r = 0 := by simpa using h
    obtain ⟨hr, hv⟩ := replica_right h0
    have e' : changeMsgF f l r view = changeF l r view := if_neg (not_not_intro h0)
    rw [e']
    exact ⟨⟨VLe.refl _, VLe.refl _, ⟨f, hr⟩, hpre⟩, VLe.refl _, BLe.refl _, BLe.refl _, trivial⟩
  exact Eq.mp (by kernel_rfl) key
theorem so16o : Sound Tryz.prog 16 sp16o := by
  refine sound_of_bodyO hmix (tpl := [(6, 3), (7, 1)]) Tryz.func16 rfl (by kernel_rfl) fun args bin ob r bout hDe hob => ?_
  unfold sp16o at hDe
  split at hDe
  · rename_i a0 a1 a2 a3
    cases hDe
    exact ⟨Nat.le_of_ble_eq_true (by kernel_rfl), cx16o a0 ((decL decMsg) a1) (decReplica a2) a3, Eq.mp (by kernel_rfl) htt, Eq.mp (by kernel_rfl) da16o, Eq.mp (by kernel_rfl) (noM_sound (P := Tryz.prog)), by kernel_rfl, [.int .i64 (a0), encL (encMsg 1) 1 (((decL decMsg) a1)), encReplica 1 ((decReplica a2)), .int .i64 (a3)], [], args_of_vles (⟨VLe.refl _, hob.1, hob.2.1, VLe.refl _, trivial⟩), trivial, Eq.mp (by kernel_rfl) (bd16o a0 ((decL decMsg) a1) (decReplica a2) a3 (hob.2.2))⟩
  · cases hDe

/-! ### spec.ChangeMsg%o -/
def pr17o (f : Int) (l : List Msg) (r : Replica) (view : Int) : Prop := bdL l
noncomputable def ro17o (f : Int) (l : List Msg) (r : Replica) (view : Int) : MsgResult := changeMsgF f l r view
noncomputable def rb17o (f : Int) (l : List Msg) (r : Replica) (view : Int) : List Blk := [(.arr 3 (((ro17o f l r view).msg).certs).length (gL (encCert 1) (((ro17o f l r view).msg).certs)) tagS), (.arr 1 (((ro17o f l r view).msg).refs).length (gL encI (((ro17o f l r view).msg).refs)) tagS)]
noncomputable def rs17o (f : Int) (l : List Msg) (r : Replica) (view : Int) : V := .agg [.int .i64 ((ro17o f l r view).code), .int .i64 (((ro17o f l r view).msg).kind), .int .i64 (((ro17o f l r view).msg).view), .int .i64 (((ro17o f l r view).msg).sender), .int .i64 (((ro17o f l r view).msg).slot), .int .i64 (((ro17o f l r view).msg).value), .osl 0 (((ro17o f l r view).msg).certs).length, .osl 1 (((ro17o f l r view).msg).refs).length]
noncomputable def sp17o : FSpec := fun args bin => match args, bin with
  | [.int .i64 a0, a1, a2, .int .i64 a3], [] => some (VLe a1 (encL (encMsg 1) 1 (((decL decMsg) a1))) ∧ VLe a2 (encReplica 1 ((decReplica a2))) ∧ pr17o a0 ((decL decMsg) a1) (decReplica a2) a3, rs17o a0 ((decL decMsg) a1) (decReplica a2) a3, rb17o a0 ((decL decMsg) a1) (decReplica a2) a3)
  | _, _ => none
noncomputable def D17o : Nat → Option (Bool × FSpec) := lk [(48, (false, sp48)), (33, (false, sp33)), (49, (false, sp49o))]
theorem da17o : SoundAll Tryz.prog D17o := soundAll_cons so48 (soundAll_cons so33 (soundAll_cons so49o (soundAll_nil)))
noncomputable def cx17o (f : Int) (l : List Msg) (r : Replica) (view : Int) : Cx := ⟨tt, D17o, Tryz.f17.ntmps, [0, 1, 2, 3, 6, 8, 9, 14, 19, 24], [], [], fun _ => none, [], noM, []⟩
noncomputable def k17o_0 (f : Int) (l : List Msg) (r : Replica) (view : Int) : V := (V.agg [vi (MsgResult.code (ro17o f l r view)), vi (Msg.kind (MsgResult.msg (ro17o f l r view))), vi (Msg.view (MsgResult.msg (ro17o f l r view))), vi (Msg.sender (MsgResult.msg (ro17o f l r view))), vi (Msg.slot (MsgResult.msg (ro17o f l r view))), vi (Msg.value (MsgResult.msg (ro17o f l r view))), V.osl 0 (List.length (Msg.certs (MsgResult.msg (ro17o f l r view)))), V.osl 1 (List.length (Msg.refs (MsgResult.msg (ro17o f l r view))))])
noncomputable def k17o_1 (f : Int) (l : List Msg) (r : Replica) (view : Int) : Prop := (BLe (Blk.arr 1 0 (fun (x : Nat) ↦ V.undef) 100) (Blk.arr 1 (List.length (Msg.refs (MsgResult.msg (ro17o f l r view)))) (gL encI (Msg.refs (MsgResult.msg (ro17o f l r view)))) 100))
noncomputable def k17o_2 (f : Int) (l : List Msg) (r : Replica) (view : Int) : Blk := (Blk.arr 3 (List.length (Msg.certs (MsgResult.msg (ro17o f l r view)))) (gL (encCert 1) (Msg.certs (MsgResult.msg (ro17o f l r view)))) 100)
theorem bd17o (f : Int) (l : List Msg) (r : Replica) (view : Int) (hpre : pr17o f l r view) : bodyO (cx17o f l r view) Tryz.f17 [(6, 3), (7, 1)] [.int .i64 (f), encL (encMsg 1) 1 (l), encReplica 1 (r), .int .i64 (view)] [] (fun rr bs => VLe rr (rs17o f l r view) ∧ BinLe bs (rb17o f l r view)) := by
  have key : (((VLe (encL (encMsg 1) 1 l) (encL (encMsg 1) 1 (decL decMsg (encL (encMsg 1) 1 l)))) ∧ ((VLe (encPReplica 1 r) (encPReplica 1 (decPReplica (encPReplica 1 r)))) ∧ (pr48 f (decL decMsg (encL (encMsg 1) 1 l)) (decPReplica (encPReplica 1 r))))) ∧ ((((replicaFault f (decL decMsg (encL (encMsg 1) 1 l)) (decPReplica (encPReplica 1 r)) != (0 : Int)) = true) → ((VLe (V.agg [vi (replicaFault f (decL decMsg (encL (encMsg 1) 1 l)) (decPReplica (encPReplica 1 r))), vi (0 : Int), vi (0 : Int), vi (0 : Int), vi (0 : Int), vi (0 : Int), V.osl 0 0, V.osl 1 0]) (k17o_0 f l r view)) ∧ ((BLe (Blk.arr 3 0 (fun (x : Nat) ↦ V.undef) 100) (k17o_2 f l r view)) ∧ ((k17o_1 f l r view) ∧ (True))))) ∧ (((replicaFault f (decL decMsg (encL (encMsg 1) 1 l)) (decPReplica (encPReplica 1 r)) != (0 : Int)) = false) → ((pr33 view (0 : Int) (20 : Int)) ∧ ((((!decide (inR view (0 : Int) (20 : Int))) = true) → ((VLe (V.agg [vi (3 : Int), vi (0 : Int), vi (0 : Int), vi (0 : Int), vi (0 : Int), vi (0 : Int), V.osl 0 0, V.osl 1 0]) (k17o_0 f l r view)) ∧ ((BLe (Blk.arr 3 0 (fun (x : Nat) ↦ V.undef) 100) (k17o_2 f l r view)) ∧ ((k17o_1 f l r view) ∧ (True))))) ∧ (((!decide (inR view (0 : Int) (20 : Int))) = false) → (((decide (view ≤ Replica.view r) = true) → ((VLe (V.agg [vi (8 : Int), vi (0 : Int), vi (0 : Int), vi (0 : Int), vi (0 : Int), vi (0 : Int), V.osl 0 0, V.osl 1 0]) (k17o_0 f l r view)) ∧ ((BLe (Blk.arr 3 0 (fun (x : Nat) ↦ V.undef) 100) (k17o_2 f l r view)) ∧ ((k17o_1 f l r view) ∧ (True))))) ∧ ((decide (view ≤ Replica.view r) = false) → (((VLe (encL (encMsg 1) 1 l) (encL (encMsg 1) 1 (decL decMsg (encL (encMsg 1) 1 l)))) ∧ (pr49o (decL decMsg (encL (encMsg 1) 1 l)) (Replica.id r) view)) ∧ ((VLe (V.agg [vi (0 : Int), vi (4 : Int), vi view, vi (Replica.id r), vi (0 : Int), vi (0 : Int), V.osl 0 (List.length (ro49o (decL decMsg (encL (encMsg 1) 1 l)) (Replica.id r) view)), V.osl 1 0]) (k17o_0 f l r view)) ∧ ((BLe (Blk.arr 3 (List.length (ro49o (decL decMsg (encL (encMsg 1) 1 l)) (Replica.id r) view)) (gL (encCert 1) (ro49o (decL decMsg (encL (encMsg 1) 1 l)) (Replica.id r) view)) 100) (k17o_2 f l r view)) ∧ ((k17o_1 f l r view) ∧ (True))))))))))))) := by
    delta k17o_2; delta k17o_1; delta k17o_0; delta vi
    simp only [decL_Msg, dec_encReplica, dec_encPReplica, ro17o, ro49o]
    refine ⟨⟨VLe.refl _, VLe.refl _, hpre⟩, fun h => ?_, fun h => ?_⟩
    · have e : changeMsgF f l r view = ⟨replicaFault f l r, default⟩ := if_pos (by simpa using h)
      rw [e]
      exact ⟨VLe.refl _, ble_nil _, ble_nil _, trivial⟩
    have h0 : replicaFault f l r = 0 := by simpa using h
    obtain ⟨hr, hv⟩ := replica_right h0
    have e' : changeMsgF f l r view = changeF l r view := if_neg (not_not_intro h0)
    rw [e']
    refine ⟨trivial, fun h => ?_, fun h => ⟨fun h2 => ?_, fun h2 => ?_⟩⟩
    · have e : changeF l r view = ⟨3, default⟩ := by unfold changeF; rw [if_pos (nd h)]
      rw [e]
      exact ⟨VLe.refl _, ble_nil _, ble_nil _, trivial⟩
    · have e : changeF l r view = ⟨8, default⟩ := by unfold changeF; rw [if_neg (not_not_intro (pd h)), if_pos (of_decide_eq_true h2)]
      rw [e]
      exact ⟨VLe.refl _, ble_nil _, ble_nil _, trivial⟩
    · have e : changeF l r view = ⟨0, ⟨4, view, r.id, 0, 0, certsL l r.id view, []⟩⟩ := by unfold changeF; rw [if_neg (not_not_intro (pd h)), if_neg (of_decide_eq_false h2)]
      rw [e]
      exact ⟨⟨VLe.refl _, ⟨f, hr⟩, hpre⟩, VLe.refl _, BLe.refl _, ble_nil _, trivial⟩
  exact Eq.mp (by kernel_rfl) key
theorem so17o : Sound Tryz.prog 17 sp17o := by
  refine sound_of_bodyO hmix (tpl := [(6, 3), (7, 1)]) Tryz.func17 rfl (by kernel_rfl) fun args bin ob r bout hDe hob => ?_
  unfold sp17o at hDe
  split at hDe
  · rename_i a0 a1 a2 a3
    cases hDe
    exact ⟨Nat.le_of_ble_eq_true (by kernel_rfl), cx17o a0 ((decL decMsg) a1) (decReplica a2) a3, Eq.mp (by kernel_rfl) htt, Eq.mp (by kernel_rfl) da17o, Eq.mp (by kernel_rfl) (noM_sound (P := Tryz.prog)), by kernel_rfl, [.int .i64 (a0), encL (encMsg 1) 1 (((decL decMsg) a1)), encReplica 1 ((decReplica a2)), .int .i64 (a3)], [], args_of_vles (⟨VLe.refl _, hob.1, hob.2.1, VLe.refl _, trivial⟩), trivial, Eq.mp (by kernel_rfl) (bd17o a0 ((decL decMsg) a1) (decReplica a2) a3 (hob.2.2))⟩
  · cases hDe

end Go.Av
