/- The law on the change of a replica. -/
import Derived.Test.YtnfelcpanphhlaaGreatK25
import Derived.Test.YtnfelcpanphhlaaGreatK24
namespace Go.Av
open Go.Proofs
set_option maxRecDepth 100000
set_option linter.unusedVariables false
set_option linter.unusedSimpArgs false

theorem dec_markMsgR (c k1 k2 k3 k4 k5 k k' : Int) (n m : Nat) : decMsgResult (.agg [.int .i64 c, .int .i64 k1, .int .i64 k2, .int .i64 k3, .int .i64 k4, .int .i64 k5, .sl n (gL (encCert 1) (markC k n)) 1, .sl m (gL encI (markI k' m)) 1]) = ⟨c, ⟨k1, k2, k3, k4, k5, markC k n, markI k' m⟩⟩ := by
  show (⟨c, ⟨k1, k2, k3, k4, k5, decL decCert (.sl n (gL (encCert 1) (markC k n)) 1), decL decI (.sl m (gL encI (markI k' m)) 1)⟩⟩ : MsgResult) = _
  rw [decL_markC, decL_markI]
theorem vle_markMsgR (c k1 k2 k3 k4 k5 k k' : Int) (n m : Nat) : VLe (.agg [.int .i64 c, .int .i64 k1, .int .i64 k2, .int .i64 k3, .int .i64 k4, .int .i64 k5, .sl n (gL (encCert 1) (markC k n)) 1, .sl m (gL encI (markI k' m)) 1]) (encMsgResult 1 ⟨c, ⟨k1, k2, k3, k4, k5, markC k n, markI k' m⟩⟩) :=
  vle_agg ⟨VLe.refl _, VLe.refl _, VLe.refl _, VLe.refl _, VLe.refl _, VLe.refl _, vle_markC k n 1, vle_markI k' m 1, trivial⟩
theorem heldM_mark (k1 k2 k3 k4 k5 : Int) (n m : Nat) (k : Int) : heldM ⟨k1, k2, k3, k4, k5, markC k n, markI (k + 3 * n) m⟩ k = k + 3 * n + m := by simp [heldM]
theorem lenChangeMsg {f : Int} {l : List Msg} {r : Replica} {view : Int} : (changeMsgF f l r view).msg.certs.length ≤ 240 ∧ (changeMsgF f l r view).msg.refs.length ≤ 240 := by
  have hz : (0 : Nat) ≤ 240 := by omega
  unfold changeMsgF
  split
  · exact ⟨hz, hz⟩
  · unfold changeF
    split
    · exact ⟨hz, hz⟩
    · split
      · exact ⟨hz, hz⟩
      · exact ⟨Nat.le_trans (certsTo_len l r.id view 30) (by omega), hz⟩


/-! ### laws.toReplica -/
def pr23 (a : Replica) : Prop := True
noncomputable def rs23 (a : Replica) : V := encReplica 2 (a)
noncomputable def sp23 : FSpec := fun args bin => match args, bin with
  | [a0], [] => some (VLe a0 (encReplica 1 ((decReplica a0))) ∧ pr23 (decReplica a0), rs23 (decReplica a0), [])
  | _, _ => none
noncomputable def D23 : Nat → Option (Bool × FSpec) := lk []
theorem da23 : SoundAll Tryz.prog D23 := soundAll_nil
noncomputable def cx23 (a : Replica) : Cx := ⟨tt, D23, Tryz.f23.ntmps, [0, 1, 2, 3], [], [], fun _ => none, [], noM, []⟩
theorem bd23 (a : Replica) (hpre : pr23 a) : bodyP (cx23 a) Tryz.f23 1 [encReplica 1 (a)] (fun rr => VLe rr (rs23 a)) := by
  have key :
      (VLe (encReplica 1 a) (encReplica 1 a)) := by
    exact vle_agg ⟨VLe.refl _, VLe.refl _, VLe.refl _, VLe.refl _, trivial⟩
  exact Eq.mp (by kernel_rfl) key
theorem so23 : Sound Tryz.prog 23 sp23 := by
  refine sound_of_body hmix (pol := 1) Tryz.func23 rfl (by kernel_rfl) fun args bin ob r bout hDe hob => ?_
  unfold sp23 at hDe
  split at hDe
  · rename_i a0
    cases hDe
    exact ⟨rfl, rfl, Nat.le_of_ble_eq_true (by kernel_rfl), cx23 (decReplica a0), Eq.mp (by kernel_rfl) htt, Eq.mp (by kernel_rfl) da23, Eq.mp (by kernel_rfl) (noM_sound (P := Tryz.prog)), by kernel_rfl, [encReplica 1 ((decReplica a0))], args_of_vles (⟨hob.1, trivial⟩), Eq.mp (by kernel_rfl) (bd23 (decReplica a0) (hob.2))⟩
  · cases hDe

/-! ### laws.FnExactChangeMsg -/
def pr9 (f : Int) (l : List Msg) (r : Replica) (view : Int) : Prop := (Lit.int .i64 f).wf = true ∧ bdL l ∧ True ∧ (Lit.int .i64 view).wf = true
noncomputable def rs9 (f : Int) (l : List Msg) (r : Replica) (view : Int) : V := .bool (true)
def Q9 (vs : List V) : Prop := ∃ (f : Int) (l : List Msg) (r : Replica) (view : Int), ArgsLe vs [.int .i64 (f), encL (encMsg 1) 1 (l), encReplica 1 (r), .int .i64 (view)] ∧ pr9 f l r view
noncomputable def D9 : Nat → Option (Bool × FSpec) := lk [(20, (false, sp20)), (22, (false, sp22o)), (23, (false, sp23)), (25, (false, sp25)), (32, (false, sp32o)), (31, (false, sp31o)), (38, (false, sp38)), (40, (true, sp40)), (41, (false, sp41))]
theorem da9 : SoundAll Tryz.prog D9 := soundAll_cons so20 (soundAll_cons so22o (soundAll_cons so23 (soundAll_cons so25 (soundAll_cons so32o (soundAll_cons so31o (soundAll_cons so38 (soundAll_cons so40 (soundAll_cons so41 (soundAll_nil)))))))))
noncomputable def cx9 (f : Int) (l : List Msg) (r : Replica) (view : Int) : Cx := ⟨tt, D9, Tryz.f9.ntmps, [0, 1, 2, 3, 6, 8, 9, 10, 11, 12, 13, 14, 15, 16, 21, 40, 45, 56, 64, 67, 78, 83, 86], [], [], fun _ => none, [13], (lk [(39, mm39)]), []⟩
theorem bd9 (f : Int) (l : List Msg) (r : Replica) (view : Int) (hpre : pr9 f l r view) : bodyP (cx9 f l r view) Tryz.f9 0 [.int .i64 (f), encL (encMsg 1) 1 (l), encReplica 1 (r), .int .i64 (view)] (fun rr => VLe rr (rs9 f l r view)) := by
  have key :
      (((VLe (encL (encMsg 1) 1 l)
   (encL (encMsg 1) 1 (decL decMsg (encL (encMsg 1) 1 l)))) ∧
   (pr20 (decL decMsg (encL (encMsg 1) 1 l)) (1048576 : Int))) ∧
   (((decide (szMsgSF (decL decMsg (encL (encMsg 1) 1 l)) (1048576 : Int) < (0 : Int)) = true) →
   (VLe (V.bool true) (V.bool true))) ∧
   ((decide (szMsgSF (decL decMsg (encL (encMsg 1) 1 l)) (1048576 : Int) < (0 : Int)) = false) →
   (((VLe (encL (encMsg 1) 1 l)
   (encL (encMsg 1) 1 (decL decMsg (encL (encMsg 1) 1 l)))) ∧
   (pr22o (decL decMsg (encL (encMsg 1) 1 l)))) ∧
   (((VLe (encReplica 1 r) (encReplica 1 (decReplica (encReplica 1 r)))) ∧
   (pr23 (decReplica (encReplica 1 r)))) ∧
   (((VLe (encL (encMsg 1) 1 (ro22o (decL decMsg (encL (encMsg 1) 1 l))))
   (encL (encMsg 1) 1
   (decL decMsg (encL (encMsg 1) 1 (ro22o (decL decMsg (encL (encMsg 1) 1 l))))))) ∧
   ((VLe (encReplica 1 (decReplica (encReplica 1 r)))
   (encReplica 1 (decReplica (encReplica 1 (decReplica (encReplica 1 r)))))) ∧
   (pr32o f (decL decMsg (encL (encMsg 1) 1 (ro22o (decL decMsg (encL (encMsg 1) 1 l)))))
   (decReplica (encReplica 1 (decReplica (encReplica 1 r)))) view))) ∧
   (((VLe (encL (encMsg 1) 1 l)
   (encL (encMsg 1) 1 (decL decMsg (encL (encMsg 1) 1 l)))) ∧
   (pr22o (decL decMsg (encL (encMsg 1) 1 l)))) ∧
   (((VLe (encReplica 1 r) (encReplica 1 (decReplica (encReplica 1 r)))) ∧
   (pr23 (decReplica (encReplica 1 r)))) ∧
   (((VLe (encL (encMsg 1) 1 (ro22o (decL decMsg (encL (encMsg 1) 1 l))))
   (encL (encMsg 1) 1
   (decL decMsg (encL (encMsg 1) 1 (ro22o (decL decMsg (encL (encMsg 1) 1 l))))))) ∧
   ((VLe (encReplica 1 (decReplica (encReplica 1 r)))
   (encReplica 1 (decReplica (encReplica 1 (decReplica (encReplica 1 r)))))) ∧
   (pr31o f (decL decMsg (encL (encMsg 1) 1 (ro22o (decL decMsg (encL (encMsg 1) 1 l)))))
   (decReplica (encReplica 1 (decReplica (encReplica 1 r)))) view))) ∧
   (((VLe
   (encMsgResult 1
   (ro31o f
   (decL decMsg (encL (encMsg 1) 1 (ro22o (decL decMsg (encL (encMsg 1) 1 l)))))
   (decReplica (encReplica 1 (decReplica (encReplica 1 r)))) view))
   (encMsgResult 1
   (decMsgResult
   (encMsgResult 1
   (ro31o f
   (decL decMsg (encL (encMsg 1) 1 (ro22o (decL decMsg (encL (encMsg 1) 1 l)))))
   (decReplica (encReplica 1 (decReplica (encReplica 1 r)))) view))))) ∧
   ((VLe
   (encMsgResult 1
   (ro32o f
   (decL decMsg (encL (encMsg 1) 1 (ro22o (decL decMsg (encL (encMsg 1) 1 l)))))
   (decReplica (encReplica 1 (decReplica (encReplica 1 r)))) view))
   (encMsgResult 1
   (decMsgResult
   (encMsgResult 1
   (ro32o f
   (decL decMsg (encL (encMsg 1) 1 (ro22o (decL decMsg (encL (encMsg 1) 1 l)))))
   (decReplica (encReplica 1 (decReplica (encReplica 1 r)))) view))))) ∧
   (pr38
   (decMsgResult
   (encMsgResult 1
   (ro31o f
   (decL decMsg (encL (encMsg 1) 1 (ro22o (decL decMsg (encL (encMsg 1) 1 l)))))
   (decReplica (encReplica 1 (decReplica (encReplica 1 r)))) view)))
   (decMsgResult
   (encMsgResult 1
   (ro32o f
   (decL decMsg (encL (encMsg 1) 1 (ro22o (decL decMsg (encL (encMsg 1) 1 l)))))
   (decReplica (encReplica 1 (decReplica (encReplica 1 r)))) view)))))) ∧
   ((((!decide
   (decMsgResult
   (encMsgResult 1
   (ro31o f
   (decL decMsg
   (encL (encMsg 1) 1 (ro22o (decL decMsg (encL (encMsg 1) 1 l)))))
   (decReplica (encReplica 1 (decReplica (encReplica 1 r)))) view)) =
   decMsgResult
   (encMsgResult 1
   (ro32o f
   (decL decMsg
   (encL (encMsg 1) 1 (ro22o (decL decMsg (encL (encMsg 1) 1 l)))))
   (decReplica (encReplica 1 (decReplica (encReplica 1 r)))) view)))) =
   true) →
   (VLe (V.bool false) (V.bool true))) ∧
   (((!decide
   (decMsgResult
   (encMsgResult 1
   (ro31o f
   (decL decMsg
   (encL (encMsg 1) 1 (ro22o (decL decMsg (encL (encMsg 1) 1 l)))))
   (decReplica (encReplica 1 (decReplica (encReplica 1 r)))) view)) =
   decMsgResult
   (encMsgResult 1
   (ro32o f
   (decL decMsg
   (encL (encMsg 1) 1 (ro22o (decL decMsg (encL (encMsg 1) 1 l)))))
   (decReplica (encReplica 1 (decReplica (encReplica 1 r)))) view)))) =
   false) →
   (((VLe (encL (encMsg 1) 1 l)
   (encL (encMsg 1) 1 (decL decMsg (encL (encMsg 1) 1 l)))) ∧
   (pr22o (decL decMsg (encL (encMsg 1) 1 l)))) ∧
   (((VLe (encL (encMsg 1) 1 (ro22o (decL decMsg (encL (encMsg 1) 1 l))))
   (encL (encMsg 1) 1
   (decL decMsg (encL (encMsg 1) 1 (ro22o (decL decMsg (encL (encMsg 1) 1 l))))))) ∧
   ((VLe (encL (encMsg 1) 1 (ro22o (decL decMsg (encL (encMsg 1) 1 l))))
   (encL (encMsg 1) 1
   (decL decMsg (encL (encMsg 1) 1 (ro22o (decL decMsg (encL (encMsg 1) 1 l))))))) ∧
   (pr25 (decL decMsg (encL (encMsg 1) 1 (ro22o (decL decMsg (encL (encMsg 1) 1 l)))))
   (decL decMsg (encL (encMsg 1) 1 (ro22o (decL decMsg (encL (encMsg 1) 1 l)))))))) ∧
   ((((!decide
   (decL decMsg (encL (encMsg 1) 1 (ro22o (decL decMsg (encL (encMsg 1) 1 l)))) =
   decL decMsg (encL (encMsg 1) 1 (ro22o (decL decMsg (encL (encMsg 1) 1 l)))))) =
   true) →
   (VLe (V.bool false) (V.bool true))) ∧
   (((!decide
   (decL decMsg (encL (encMsg 1) 1 (ro22o (decL decMsg (encL (encMsg 1) 1 l)))) =
   decL decMsg (encL (encMsg 1) 1 (ro22o (decL decMsg (encL (encMsg 1) 1 l)))))) =
   false) →
   (((VLe (encL (encMsg 1) 1 (ro22o (decL decMsg (encL (encMsg 1) 1 l))))
   (encL (encMsg 1) 1
   (decL decMsg (encL (encMsg 1) 1 (ro22o (decL decMsg (encL (encMsg 1) 1 l))))))) ∧
   (mp39 (decL decMsg (encL (encMsg 1) 1 (ro22o (decL decMsg (encL (encMsg 1) 1 l)))))
   (1 : Int))) ∧
   ((tq (!decide
   ((1 : Int) +
   cntL
   (decL decMsg (encL (encMsg 1) 1 (ro22o (decL decMsg (encL (encMsg 1) 1 l)))))
   (List.length
   (decL decMsg
   (encL (encMsg 1) 1 (ro22o (decL decMsg (encL (encMsg 1) 1 l)))))) <
   (0 : Int)))) ∧
   ((tq (!decide
   ((1 : Int) +
   cntL
   (decL decMsg (encL (encMsg 1) 1 (ro22o (decL decMsg (encL (encMsg 1) 1 l)))))
   (List.length
   (decL decMsg
   (encL (encMsg 1) 1 (ro22o (decL decMsg (encL (encMsg 1) 1 l)))))) <
   (0 : Int)))) ∧
   ((((!decide
   ((1 : Int) +
   cntL
   (decL decMsg
   (encL (encMsg 1) 1 (ro22o (decL decMsg (encL (encMsg 1) 1 l)))))
   (List.length
   (decL decMsg
   (encL (encMsg 1) 1 (ro22o (decL decMsg (encL (encMsg 1) 1 l)))))) <
   (0 : Int))) =
   true) →
   ((VLe
   (encMsgResult 1
   (ro31o f
   (decL decMsg (encL (encMsg 1) 1 (ro22o (decL decMsg (encL (encMsg 1) 1 l)))))
   (decReplica (encReplica 1 (decReplica (encReplica 1 r)))) view))
   (encMsgResult 1
   (decMsgResult
   (encMsgResult 1
   (ro31o f
   (decL decMsg (encL (encMsg 1) 1 (ro22o (decL decMsg (encL (encMsg 1) 1 l)))))
   (decReplica (encReplica 1 (decReplica (encReplica 1 r)))) view))))) ∧
   ((VLe
   (encMsgResult 1
   (ro32o f
   (decL decMsg (encL (encMsg 1) 1 (ro22o (decL decMsg (encL (encMsg 1) 1 l)))))
   (decReplica (encReplica 1 (decReplica (encReplica 1 r)))) view))
   (encMsgResult 1
   (decMsgResult
   (encMsgResult 1
   (ro32o f
   (decL decMsg (encL (encMsg 1) 1 (ro22o (decL decMsg (encL (encMsg 1) 1 l)))))
   (decReplica (encReplica 1 (decReplica (encReplica 1 r)))) view))))) ∧
   (pr38
   (decMsgResult
   (encMsgResult 1
   (ro31o f
   (decL decMsg (encL (encMsg 1) 1 (ro22o (decL decMsg (encL (encMsg 1) 1 l)))))
   (decReplica (encReplica 1 (decReplica (encReplica 1 r)))) view)))
   (decMsgResult
   (encMsgResult 1
   (ro32o f
   (decL decMsg (encL (encMsg 1) 1 (ro22o (decL decMsg (encL (encMsg 1) 1 l)))))
   (decReplica (encReplica 1 (decReplica (encReplica 1 r)))) view))))))) ∧
   ((tq (!decide
   ((1 : Int) +
   cntL
   (decL decMsg (encL (encMsg 1) 1 (ro22o (decL decMsg (encL (encMsg 1) 1 l)))))
   (List.length
   (decL decMsg
   (encL (encMsg 1) 1 (ro22o (decL decMsg (encL (encMsg 1) 1 l)))))) <
   (0 : Int)))) ∧
   (((true = true) →
   ((decide
   ((1 : Int) +
   cntL
   (decL decMsg (encL (encMsg 1) 1 (ro22o (decL decMsg (encL (encMsg 1) 1 l)))))
   (List.length
   (decL decMsg
   (encL (encMsg 1) 1 (ro22o (decL decMsg (encL (encMsg 1) 1 l)))))) <
   (0 : Int)) =
   false) →
   ((!decide
   ((1 : Int) +
   cntL
   (decL decMsg
   (encL (encMsg 1) 1 (ro22o (decL decMsg (encL (encMsg 1) 1 l)))))
   (List.length
   (decL decMsg
   (encL (encMsg 1) 1 (ro22o (decL decMsg (encL (encMsg 1) 1 l)))))) <
   (0 : Int))) =
   true))) ∧
   (∀ b : Bool,
   ((b =
   bif
   decide
   ((1 : Int) +
   cntL
   (decL decMsg
   (encL (encMsg 1) 1 (ro22o (decL decMsg (encL (encMsg 1) 1 l)))))
   (List.length
   (decL decMsg
   (encL (encMsg 1) 1 (ro22o (decL decMsg (encL (encMsg 1) 1 l)))))) <
   (0 : Int)) then
   true
   else
   !decide
   (decMsgResult
   (encMsgResult 1
   (ro31o f
   (decL decMsg
   (encL (encMsg 1) 1 (ro22o (decL decMsg (encL (encMsg 1) 1 l)))))
   (decReplica (encReplica 1 (decReplica (encReplica 1 r)))) view)) =
   decMsgResult
   (encMsgResult 1
   (ro32o f
   (decL decMsg
   (encL (encMsg 1) 1 (ro22o (decL decMsg (encL (encMsg 1) 1 l)))))
   (decReplica (encReplica 1 (decReplica (encReplica 1 r)))) view)))) →
   (((b = true) →
   (VLe (V.bool false) (V.bool true))) ∧
   ((b = false) →
   ((((0 = 0) ∧
   ((3 = 3) ∧
   ((100 = 100) ∧
   ((List.length
   (Msg.certs
   (MsgResult.msg
   (ro31o f
   (decL decMsg (encL (encMsg 1) 1 (ro22o (decL decMsg (encL (encMsg 1) 1 l)))))
   (decReplica (encReplica 1 (decReplica (encReplica 1 r)))) view))) =
   List.length
   (Msg.certs
   (MsgResult.msg
   (ro31o f
   (decL decMsg (encL (encMsg 1) 1 (ro22o (decL decMsg (encL (encMsg 1) 1 l)))))
   (decReplica (encReplica 1 (decReplica (encReplica 1 r)))) view)))) ∧
   (∃ y : List Cert, ((List.length y =
   List.length
   (Msg.certs
   (MsgResult.msg
   (ro31o f
   (decL decMsg (encL (encMsg 1) 1 (ro22o (decL decMsg (encL (encMsg 1) 1 l)))))
   (decReplica (encReplica 1 (decReplica (encReplica 1 r)))) view)))) ∧
   (∀ i : Nat,
   ((i <
   List.length
   (Msg.certs
   (MsgResult.msg
   (ro31o f
   (decL decMsg (encL (encMsg 1) 1 (ro22o (decL decMsg (encL (encMsg 1) 1 l)))))
   (decReplica (encReplica 1 (decReplica (encReplica 1 r)))) view)))) →
   (ELe
   (encCert 1
   (List.getD
   (Msg.certs
   (MsgResult.msg
   (ro31o f
   (decL decMsg
   (encL (encMsg 1) 1 (ro22o (decL decMsg (encL (encMsg 1) 1 l)))))
   (decReplica (encReplica 1 (decReplica (encReplica 1 r)))) view)))
   i default))
   (encCert 1 (List.getD y i default))))))))))) ∧
   (((1 = 1) ∧
   ((1 = 1) ∧
   ((100 = 100) ∧
   ((List.length
   (Msg.refs
   (MsgResult.msg
   (ro31o f
   (decL decMsg (encL (encMsg 1) 1 (ro22o (decL decMsg (encL (encMsg 1) 1 l)))))
   (decReplica (encReplica 1 (decReplica (encReplica 1 r)))) view))) =
   List.length
   (Msg.refs
   (MsgResult.msg
   (ro31o f
   (decL decMsg (encL (encMsg 1) 1 (ro22o (decL decMsg (encL (encMsg 1) 1 l)))))
   (decReplica (encReplica 1 (decReplica (encReplica 1 r)))) view)))) ∧
   (∃ y : List Int, ((List.length y =
   List.length
   (Msg.refs
   (MsgResult.msg
   (ro31o f
   (decL decMsg (encL (encMsg 1) 1 (ro22o (decL decMsg (encL (encMsg 1) 1 l)))))
   (decReplica (encReplica 1 (decReplica (encReplica 1 r)))) view)))) ∧
   (∀ i : Nat,
   ((i <
   List.length
   (Msg.refs
   (MsgResult.msg
   (ro31o f
   (decL decMsg (encL (encMsg 1) 1 (ro22o (decL decMsg (encL (encMsg 1) 1 l)))))
   (decReplica (encReplica 1 (decReplica (encReplica 1 r)))) view)))) →
   (ELe
   (V.int IntKind.i64
   (List.getD
   (Msg.refs
   (MsgResult.msg
   (ro31o f
   (decL decMsg
   (encL (encMsg 1) 1 (ro22o (decL decMsg (encL (encMsg 1) 1 l)))))
   (decReplica (encReplica 1 (decReplica (encReplica 1 r)))) view)))
   i default))
   (V.int IntKind.i64 (List.getD y i default))))))))))) ∧
   (pr40
   (List.length
   (Msg.certs
   (MsgResult.msg
   (ro31o f
   (decL decMsg (encL (encMsg 1) 1 (ro22o (decL decMsg (encL (encMsg 1) 1 l)))))
   (decReplica (encReplica 1 (decReplica (encReplica 1 r)))) view))))
   (List.length
   (Msg.refs
   (MsgResult.msg
   (ro31o f
   (decL decMsg (encL (encMsg 1) 1 (ro22o (decL decMsg (encL (encMsg 1) 1 l)))))
   (decReplica (encReplica 1 (decReplica (encReplica 1 r)))) view))))
   (1 : Int)))) ∧
   ((List.length
   (Msg.certs
   (MsgResult.msg
   (ro31o f
   (decL decMsg (encL (encMsg 1) 1 (ro22o (decL decMsg (encL (encMsg 1) 1 l)))))
   (decReplica (encReplica 1 (decReplica (encReplica 1 r)))) view))) =
   List.length
   (Msg.certs
   (MsgResult.msg
   (ro31o f
   (decL decMsg (encL (encMsg 1) 1 (ro22o (decL decMsg (encL (encMsg 1) 1 l)))))
   (decReplica (encReplica 1 (decReplica (encReplica 1 r)))) view)))) ∧
   ((List.length
   (Msg.refs
   (MsgResult.msg
   (ro31o f
   (decL decMsg (encL (encMsg 1) 1 (ro22o (decL decMsg (encL (encMsg 1) 1 l)))))
   (decReplica (encReplica 1 (decReplica (encReplica 1 r)))) view))) =
   List.length
   (Msg.refs
   (MsgResult.msg
   (ro31o f
   (decL decMsg (encL (encMsg 1) 1 (ro22o (decL decMsg (encL (encMsg 1) 1 l)))))
   (decReplica (encReplica 1 (decReplica (encReplica 1 r)))) view)))) ∧
   (((VLe
   (V.agg
   [V.int IntKind.i64
   (MsgResult.code
   (ro31o f
   (decL decMsg
   (encL (encMsg 1) 1 (ro22o (decL decMsg (encL (encMsg 1) 1 l)))))
   (decReplica (encReplica 1 (decReplica (encReplica 1 r)))) view)),
   V.int IntKind.i64
   (Msg.kind
   (MsgResult.msg
   (ro31o f
   (decL decMsg
   (encL (encMsg 1) 1 (ro22o (decL decMsg (encL (encMsg 1) 1 l)))))
   (decReplica (encReplica 1 (decReplica (encReplica 1 r)))) view))),
   V.int IntKind.i64
   (Msg.view
   (MsgResult.msg
   (ro31o f
   (decL decMsg
   (encL (encMsg 1) 1 (ro22o (decL decMsg (encL (encMsg 1) 1 l)))))
   (decReplica (encReplica 1 (decReplica (encReplica 1 r)))) view))),
   V.int IntKind.i64
   (Msg.sender
   (MsgResult.msg
   (ro31o f
   (decL decMsg
   (encL (encMsg 1) 1 (ro22o (decL decMsg (encL (encMsg 1) 1 l)))))
   (decReplica (encReplica 1 (decReplica (encReplica 1 r)))) view))),
   V.int IntKind.i64
   (Msg.slot
   (MsgResult.msg
   (ro31o f
   (decL decMsg
   (encL (encMsg 1) 1 (ro22o (decL decMsg (encL (encMsg 1) 1 l)))))
   (decReplica (encReplica 1 (decReplica (encReplica 1 r)))) view))),
   V.int IntKind.i64
   (Msg.value
   (MsgResult.msg
   (ro31o f
   (decL decMsg
   (encL (encMsg 1) 1 (ro22o (decL decMsg (encL (encMsg 1) 1 l)))))
   (decReplica (encReplica 1 (decReplica (encReplica 1 r)))) view))),
   V.sl
   (List.length
   (Msg.certs
   (MsgResult.msg
   (ro31o f
   (decL decMsg
   (encL (encMsg 1) 1 (ro22o (decL decMsg (encL (encMsg 1) 1 l)))))
   (decReplica (encReplica 1 (decReplica (encReplica 1 r)))) view))))
   (gL (encCert 1)
   (markC (1 : Int)
   (List.length
   (Msg.certs
   (MsgResult.msg
   (ro31o f
   (decL decMsg
   (encL (encMsg 1) 1 (ro22o (decL decMsg (encL (encMsg 1) 1 l)))))
   (decReplica (encReplica 1 (decReplica (encReplica 1 r)))) view))))))
   1,
   V.sl
   (List.length
   (Msg.refs
   (MsgResult.msg
   (ro31o f
   (decL decMsg
   (encL (encMsg 1) 1 (ro22o (decL decMsg (encL (encMsg 1) 1 l)))))
   (decReplica (encReplica 1 (decReplica (encReplica 1 r)))) view))))
   (gL encI
   (markI
   ((1 : Int) +
   (3 : Int) *
   (↑(List.length
   (Msg.certs
   (MsgResult.msg
   (ro31o f
   (decL decMsg
   (encL (encMsg 1) 1
   (ro22o (decL decMsg (encL (encMsg 1) 1 l)))))
   (decReplica (encReplica 1 (decReplica (encReplica 1 r)))) view)))) :
   Int))
   (List.length
   (Msg.refs
   (MsgResult.msg
   (ro31o f
   (decL decMsg
   (encL (encMsg 1) 1 (ro22o (decL decMsg (encL (encMsg 1) 1 l)))))
   (decReplica (encReplica 1 (decReplica (encReplica 1 r)))) view))))))
   1])
   (encMsgResult 1
   (decMsgResult
   (V.agg
   [V.int IntKind.i64
   (MsgResult.code
   (ro31o f
   (decL decMsg
   (encL (encMsg 1) 1 (ro22o (decL decMsg (encL (encMsg 1) 1 l)))))
   (decReplica (encReplica 1 (decReplica (encReplica 1 r)))) view)),
   V.int IntKind.i64
   (Msg.kind
   (MsgResult.msg
   (ro31o f
   (decL decMsg
   (encL (encMsg 1) 1 (ro22o (decL decMsg (encL (encMsg 1) 1 l)))))
   (decReplica (encReplica 1 (decReplica (encReplica 1 r)))) view))),
   V.int IntKind.i64
   (Msg.view
   (MsgResult.msg
   (ro31o f
   (decL decMsg
   (encL (encMsg 1) 1 (ro22o (decL decMsg (encL (encMsg 1) 1 l)))))
   (decReplica (encReplica 1 (decReplica (encReplica 1 r)))) view))),
   V.int IntKind.i64
   (Msg.sender
   (MsgResult.msg
   (ro31o f
   (decL decMsg
   (encL (encMsg 1) 1 (ro22o (decL decMsg (encL (encMsg 1) 1 l)))))
   (decReplica (encReplica 1 (decReplica (encReplica 1 r)))) view))),
   V.int IntKind.i64
   (Msg.slot
   (MsgResult.msg
   (ro31o f
   (decL decMsg
   (encL (encMsg 1) 1 (ro22o (decL decMsg (encL (encMsg 1) 1 l)))))
   (decReplica (encReplica 1 (decReplica (encReplica 1 r)))) view))),
   V.int IntKind.i64
   (Msg.value
   (MsgResult.msg
   (ro31o f
   (decL decMsg
   (encL (encMsg 1) 1 (ro22o (decL decMsg (encL (encMsg 1) 1 l)))))
   (decReplica (encReplica 1 (decReplica (encReplica 1 r)))) view))),
   V.sl
   (List.length
   (Msg.certs
   (MsgResult.msg
   (ro31o f
   (decL decMsg
   (encL (encMsg 1) 1 (ro22o (decL decMsg (encL (encMsg 1) 1 l)))))
   (decReplica (encReplica 1 (decReplica (encReplica 1 r)))) view))))
   (gL (encCert 1)
   (markC (1 : Int)
   (List.length
   (Msg.certs
   (MsgResult.msg
   (ro31o f
   (decL decMsg
   (encL (encMsg 1) 1
   (ro22o (decL decMsg (encL (encMsg 1) 1 l)))))
   (decReplica (encReplica 1 (decReplica (encReplica 1 r)))) view))))))
   1,
   V.sl
   (List.length
   (Msg.refs
   (MsgResult.msg
   (ro31o f
   (decL decMsg
   (encL (encMsg 1) 1 (ro22o (decL decMsg (encL (encMsg 1) 1 l)))))
   (decReplica (encReplica 1 (decReplica (encReplica 1 r)))) view))))
   (gL encI
   (markI
   ((1 : Int) +
   (3 : Int) *
   (↑(List.length
   (Msg.certs
   (MsgResult.msg
   (ro31o f
   (decL decMsg
   (encL (encMsg 1) 1
   (ro22o (decL decMsg (encL (encMsg 1) 1 l)))))
   (decReplica (encReplica 1 (decReplica (encReplica 1 r)))) view)))) :
   Int))
   (List.length
   (Msg.refs
   (MsgResult.msg
   (ro31o f
   (decL decMsg
   (encL (encMsg 1) 1
   (ro22o (decL decMsg (encL (encMsg 1) 1 l)))))
   (decReplica (encReplica 1 (decReplica (encReplica 1 r)))) view))))))
   1])))) ∧
   (pr41
   (decMsgResult
   (V.agg
   [V.int IntKind.i64
   (MsgResult.code
   (ro31o f
   (decL decMsg
   (encL (encMsg 1) 1 (ro22o (decL decMsg (encL (encMsg 1) 1 l)))))
   (decReplica (encReplica 1 (decReplica (encReplica 1 r)))) view)),
   V.int IntKind.i64
   (Msg.kind
   (MsgResult.msg
   (ro31o f
   (decL decMsg
   (encL (encMsg 1) 1 (ro22o (decL decMsg (encL (encMsg 1) 1 l)))))
   (decReplica (encReplica 1 (decReplica (encReplica 1 r)))) view))),
   V.int IntKind.i64
   (Msg.view
   (MsgResult.msg
   (ro31o f
   (decL decMsg
   (encL (encMsg 1) 1 (ro22o (decL decMsg (encL (encMsg 1) 1 l)))))
   (decReplica (encReplica 1 (decReplica (encReplica 1 r)))) view))),
   V.int IntKind.i64
   (Msg.sender
   (MsgResult.msg
   (ro31o f
   (decL decMsg
   (encL (encMsg 1) 1 (ro22o (decL decMsg (encL (encMsg 1) 1 l)))))
   (decReplica (encReplica 1 (decReplica (encReplica 1 r)))) view))),
   V.int IntKind.i64
   (Msg.slot
   (MsgResult.msg
   (ro31o f
   (decL decMsg
   (encL (encMsg 1) 1 (ro22o (decL decMsg (encL (encMsg 1) 1 l)))))
   (decReplica (encReplica 1 (decReplica (encReplica 1 r)))) view))),
   V.int IntKind.i64
   (Msg.value
   (MsgResult.msg
   (ro31o f
   (decL decMsg
   (encL (encMsg 1) 1 (ro22o (decL decMsg (encL (encMsg 1) 1 l)))))
   (decReplica (encReplica 1 (decReplica (encReplica 1 r)))) view))),
   V.sl
   (List.length
   (Msg.certs
   (MsgResult.msg
   (ro31o f
   (decL decMsg
   (encL (encMsg 1) 1 (ro22o (decL decMsg (encL (encMsg 1) 1 l)))))
   (decReplica (encReplica 1 (decReplica (encReplica 1 r)))) view))))
   (gL (encCert 1)
   (markC (1 : Int)
   (List.length
   (Msg.certs
   (MsgResult.msg
   (ro31o f
   (decL decMsg
   (encL (encMsg 1) 1 (ro22o (decL decMsg (encL (encMsg 1) 1 l)))))
   (decReplica (encReplica 1 (decReplica (encReplica 1 r)))) view))))))
   1,
   V.sl
   (List.length
   (Msg.refs
   (MsgResult.msg
   (ro31o f
   (decL decMsg
   (encL (encMsg 1) 1 (ro22o (decL decMsg (encL (encMsg 1) 1 l)))))
   (decReplica (encReplica 1 (decReplica (encReplica 1 r)))) view))))
   (gL encI
   (markI
   ((1 : Int) +
   (3 : Int) *
   (↑(List.length
   (Msg.certs
   (MsgResult.msg
   (ro31o f
   (decL decMsg
   (encL (encMsg 1) 1
   (ro22o (decL decMsg (encL (encMsg 1) 1 l)))))
   (decReplica (encReplica 1 (decReplica (encReplica 1 r)))) view)))) :
   Int))
   (List.length
   (Msg.refs
   (MsgResult.msg
   (ro31o f
   (decL decMsg
   (encL (encMsg 1) 1 (ro22o (decL decMsg (encL (encMsg 1) 1 l)))))
   (decReplica (encReplica 1 (decReplica (encReplica 1 r)))) view))))))
   1]))
   (1 : Int))) ∧
   (((decide
   (heldM
   (MsgResult.msg
   (decMsgResult
   (V.agg
   [V.int IntKind.i64
   (MsgResult.code
   (ro31o f
   (decL decMsg
   (encL (encMsg 1) 1 (ro22o (decL decMsg (encL (encMsg 1) 1 l)))))
   (decReplica (encReplica 1 (decReplica (encReplica 1 r)))) view)),
   V.int IntKind.i64
   (Msg.kind
   (MsgResult.msg
   (ro31o f
   (decL decMsg
   (encL (encMsg 1) 1
   (ro22o (decL decMsg (encL (encMsg 1) 1 l)))))
   (decReplica (encReplica 1 (decReplica (encReplica 1 r)))) view))),
   V.int IntKind.i64
   (Msg.view
   (MsgResult.msg
   (ro31o f
   (decL decMsg
   (encL (encMsg 1) 1
   (ro22o (decL decMsg (encL (encMsg 1) 1 l)))))
   (decReplica (encReplica 1 (decReplica (encReplica 1 r)))) view))),
   V.int IntKind.i64
   (Msg.sender
   (MsgResult.msg
   (ro31o f
   (decL decMsg
   (encL (encMsg 1) 1
   (ro22o (decL decMsg (encL (encMsg 1) 1 l)))))
   (decReplica (encReplica 1 (decReplica (encReplica 1 r)))) view))),
   V.int IntKind.i64
   (Msg.slot
   (MsgResult.msg
   (ro31o f
   (decL decMsg
   (encL (encMsg 1) 1
   (ro22o (decL decMsg (encL (encMsg 1) 1 l)))))
   (decReplica (encReplica 1 (decReplica (encReplica 1 r)))) view))),
   V.int IntKind.i64
   (Msg.value
   (MsgResult.msg
   (ro31o f
   (decL decMsg
   (encL (encMsg 1) 1
   (ro22o (decL decMsg (encL (encMsg 1) 1 l)))))
   (decReplica (encReplica 1 (decReplica (encReplica 1 r)))) view))),
   V.sl
   (List.length
   (Msg.certs
   (MsgResult.msg
   (ro31o f
   (decL decMsg
   (encL (encMsg 1) 1
   (ro22o (decL decMsg (encL (encMsg 1) 1 l)))))
   (decReplica (encReplica 1 (decReplica (encReplica 1 r)))) view))))
   (gL (encCert 1)
   (markC (1 : Int)
   (List.length
   (Msg.certs
   (MsgResult.msg
   (ro31o f
   (decL decMsg
   (encL (encMsg 1) 1
   (ro22o (decL decMsg (encL (encMsg 1) 1 l)))))
   (decReplica (encReplica 1 (decReplica (encReplica 1 r)))) view))))))
   1,
   V.sl
   (List.length
   (Msg.refs
   (MsgResult.msg
   (ro31o f
   (decL decMsg
   (encL (encMsg 1) 1
   (ro22o (decL decMsg (encL (encMsg 1) 1 l)))))
   (decReplica (encReplica 1 (decReplica (encReplica 1 r)))) view))))
   (gL encI
   (markI
   ((1 : Int) +
   (3 : Int) *
   (↑(List.length
   (Msg.certs
   (MsgResult.msg
   (ro31o f
   (decL decMsg
   (encL (encMsg 1) 1
   (ro22o (decL decMsg (encL (encMsg 1) 1 l)))))
   (decReplica (encReplica 1 (decReplica (encReplica 1 r))))
   view)))) :
   Int))
   (List.length
   (Msg.refs
   (MsgResult.msg
   (ro31o f
   (decL decMsg
   (encL (encMsg 1) 1
   (ro22o (decL decMsg (encL (encMsg 1) 1 l)))))
   (decReplica (encReplica 1 (decReplica (encReplica 1 r)))) view))))))
   1])))
   (1 : Int) <
   (0 : Int)) =
   true) →
   (VLe (V.bool false) (V.bool true))) ∧
   ((decide
   (heldM
   (MsgResult.msg
   (decMsgResult
   (V.agg
   [V.int IntKind.i64
   (MsgResult.code
   (ro31o f
   (decL decMsg
   (encL (encMsg 1) 1 (ro22o (decL decMsg (encL (encMsg 1) 1 l)))))
   (decReplica (encReplica 1 (decReplica (encReplica 1 r)))) view)),
   V.int IntKind.i64
   (Msg.kind
   (MsgResult.msg
   (ro31o f
   (decL decMsg
   (encL (encMsg 1) 1
   (ro22o (decL decMsg (encL (encMsg 1) 1 l)))))
   (decReplica (encReplica 1 (decReplica (encReplica 1 r)))) view))),
   V.int IntKind.i64
   (Msg.view
   (MsgResult.msg
   (ro31o f
   (decL decMsg
   (encL (encMsg 1) 1
   (ro22o (decL decMsg (encL (encMsg 1) 1 l)))))
   (decReplica (encReplica 1 (decReplica (encReplica 1 r)))) view))),
   V.int IntKind.i64
   (Msg.sender
   (MsgResult.msg
   (ro31o f
   (decL decMsg
   (encL (encMsg 1) 1
   (ro22o (decL decMsg (encL (encMsg 1) 1 l)))))
   (decReplica (encReplica 1 (decReplica (encReplica 1 r)))) view))),
   V.int IntKind.i64
   (Msg.slot
   (MsgResult.msg
   (ro31o f
   (decL decMsg
   (encL (encMsg 1) 1
   (ro22o (decL decMsg (encL (encMsg 1) 1 l)))))
   (decReplica (encReplica 1 (decReplica (encReplica 1 r)))) view))),
   V.int IntKind.i64
   (Msg.value
   (MsgResult.msg
   (ro31o f
   (decL decMsg
   (encL (encMsg 1) 1
   (ro22o (decL decMsg (encL (encMsg 1) 1 l)))))
   (decReplica (encReplica 1 (decReplica (encReplica 1 r)))) view))),
   V.sl
   (List.length
   (Msg.certs
   (MsgResult.msg
   (ro31o f
   (decL decMsg
   (encL (encMsg 1) 1
   (ro22o (decL decMsg (encL (encMsg 1) 1 l)))))
   (decReplica (encReplica 1 (decReplica (encReplica 1 r)))) view))))
   (gL (encCert 1)
   (markC (1 : Int)
   (List.length
   (Msg.certs
   (MsgResult.msg
   (ro31o f
   (decL decMsg
   (encL (encMsg 1) 1
   (ro22o (decL decMsg (encL (encMsg 1) 1 l)))))
   (decReplica (encReplica 1 (decReplica (encReplica 1 r)))) view))))))
   1,
   V.sl
   (List.length
   (Msg.refs
   (MsgResult.msg
   (ro31o f
   (decL decMsg
   (encL (encMsg 1) 1
   (ro22o (decL decMsg (encL (encMsg 1) 1 l)))))
   (decReplica (encReplica 1 (decReplica (encReplica 1 r)))) view))))
   (gL encI
   (markI
   ((1 : Int) +
   (3 : Int) *
   (↑(List.length
   (Msg.certs
   (MsgResult.msg
   (ro31o f
   (decL decMsg
   (encL (encMsg 1) 1
   (ro22o (decL decMsg (encL (encMsg 1) 1 l)))))
   (decReplica (encReplica 1 (decReplica (encReplica 1 r))))
   view)))) :
   Int))
   (List.length
   (Msg.refs
   (MsgResult.msg
   (ro31o f
   (decL decMsg
   (encL (encMsg 1) 1
   (ro22o (decL decMsg (encL (encMsg 1) 1 l)))))
   (decReplica (encReplica 1 (decReplica (encReplica 1 r)))) view))))))
   1])))
   (1 : Int) <
   (0 : Int)) =
   false) →
   ((((heldM
   (MsgResult.msg
   (decMsgResult
   (V.agg
   [V.int IntKind.i64
   (MsgResult.code
   (ro31o f
   (decL decMsg
   (encL (encMsg 1) 1 (ro22o (decL decMsg (encL (encMsg 1) 1 l)))))
   (decReplica (encReplica 1 (decReplica (encReplica 1 r)))) view)),
   V.int IntKind.i64
   (Msg.kind
   (MsgResult.msg
   (ro31o f
   (decL decMsg
   (encL (encMsg 1) 1 (ro22o (decL decMsg (encL (encMsg 1) 1 l)))))
   (decReplica (encReplica 1 (decReplica (encReplica 1 r)))) view))),
   V.int IntKind.i64
   (Msg.view
   (MsgResult.msg
   (ro31o f
   (decL decMsg
   (encL (encMsg 1) 1 (ro22o (decL decMsg (encL (encMsg 1) 1 l)))))
   (decReplica (encReplica 1 (decReplica (encReplica 1 r)))) view))),
   V.int IntKind.i64
   (Msg.sender
   (MsgResult.msg
   (ro31o f
   (decL decMsg
   (encL (encMsg 1) 1 (ro22o (decL decMsg (encL (encMsg 1) 1 l)))))
   (decReplica (encReplica 1 (decReplica (encReplica 1 r)))) view))),
   V.int IntKind.i64
   (Msg.slot
   (MsgResult.msg
   (ro31o f
   (decL decMsg
   (encL (encMsg 1) 1 (ro22o (decL decMsg (encL (encMsg 1) 1 l)))))
   (decReplica (encReplica 1 (decReplica (encReplica 1 r)))) view))),
   V.int IntKind.i64
   (Msg.value
   (MsgResult.msg
   (ro31o f
   (decL decMsg
   (encL (encMsg 1) 1 (ro22o (decL decMsg (encL (encMsg 1) 1 l)))))
   (decReplica (encReplica 1 (decReplica (encReplica 1 r)))) view))),
   V.sl
   (List.length
   (Msg.certs
   (MsgResult.msg
   (ro31o f
   (decL decMsg
   (encL (encMsg 1) 1
   (ro22o (decL decMsg (encL (encMsg 1) 1 l)))))
   (decReplica (encReplica 1 (decReplica (encReplica 1 r)))) view))))
   (gL (encCert 1)
   (markC (1 : Int)
   (List.length
   (Msg.certs
   (MsgResult.msg
   (ro31o f
   (decL decMsg
   (encL (encMsg 1) 1
   (ro22o (decL decMsg (encL (encMsg 1) 1 l)))))
   (decReplica (encReplica 1 (decReplica (encReplica 1 r)))) view))))))
   1,
   V.sl
   (List.length
   (Msg.refs
   (MsgResult.msg
   (ro31o f
   (decL decMsg
   (encL (encMsg 1) 1
   (ro22o (decL decMsg (encL (encMsg 1) 1 l)))))
   (decReplica (encReplica 1 (decReplica (encReplica 1 r)))) view))))
   (gL encI
   (markI
   ((1 : Int) +
   (3 : Int) *
   (↑(List.length
   (Msg.certs
   (MsgResult.msg
   (ro31o f
   (decL decMsg
   (encL (encMsg 1) 1
   (ro22o (decL decMsg (encL (encMsg 1) 1 l)))))
   (decReplica (encReplica 1 (decReplica (encReplica 1 r)))) view)))) :
   Int))
   (List.length
   (Msg.refs
   (MsgResult.msg
   (ro31o f
   (decL decMsg
   (encL (encMsg 1) 1
   (ro22o (decL decMsg (encL (encMsg 1) 1 l)))))
   (decReplica (encReplica 1 (decReplica (encReplica 1 r)))) view))))))
   1])))
   (1 : Int) !=
   (1 : Int) +
   (3 : Int) *
   (↑(List.length
   (Msg.certs
   (MsgResult.msg
   (ro31o f
   (decL decMsg
   (encL (encMsg 1) 1 (ro22o (decL decMsg (encL (encMsg 1) 1 l)))))
   (decReplica (encReplica 1 (decReplica (encReplica 1 r)))) view)))) :
   Int) +
   (↑(List.length
   (Msg.refs
   (MsgResult.msg
   (ro31o f
   (decL decMsg
   (encL (encMsg 1) 1 (ro22o (decL decMsg (encL (encMsg 1) 1 l)))))
   (decReplica (encReplica 1 (decReplica (encReplica 1 r)))) view)))) :
   Int)) =
   true) →
   (VLe (V.bool false) (V.bool true))) ∧
   (((heldM
   (MsgResult.msg
   (decMsgResult
   (V.agg
   [V.int IntKind.i64
   (MsgResult.code
   (ro31o f
   (decL decMsg
   (encL (encMsg 1) 1 (ro22o (decL decMsg (encL (encMsg 1) 1 l)))))
   (decReplica (encReplica 1 (decReplica (encReplica 1 r)))) view)),
   V.int IntKind.i64
   (Msg.kind
   (MsgResult.msg
   (ro31o f
   (decL decMsg
   (encL (encMsg 1) 1 (ro22o (decL decMsg (encL (encMsg 1) 1 l)))))
   (decReplica (encReplica 1 (decReplica (encReplica 1 r)))) view))),
   V.int IntKind.i64
   (Msg.view
   (MsgResult.msg
   (ro31o f
   (decL decMsg
   (encL (encMsg 1) 1 (ro22o (decL decMsg (encL (encMsg 1) 1 l)))))
   (decReplica (encReplica 1 (decReplica (encReplica 1 r)))) view))),
   V.int IntKind.i64
   (Msg.sender
   (MsgResult.msg
   (ro31o f
   (decL decMsg
   (encL (encMsg 1) 1 (ro22o (decL decMsg (encL (encMsg 1) 1 l)))))
   (decReplica (encReplica 1 (decReplica (encReplica 1 r)))) view))),
   V.int IntKind.i64
   (Msg.slot
   (MsgResult.msg
   (ro31o f
   (decL decMsg
   (encL (encMsg 1) 1 (ro22o (decL decMsg (encL (encMsg 1) 1 l)))))
   (decReplica (encReplica 1 (decReplica (encReplica 1 r)))) view))),
   V.int IntKind.i64
   (Msg.value
   (MsgResult.msg
   (ro31o f
   (decL decMsg
   (encL (encMsg 1) 1 (ro22o (decL decMsg (encL (encMsg 1) 1 l)))))
   (decReplica (encReplica 1 (decReplica (encReplica 1 r)))) view))),
   V.sl
   (List.length
   (Msg.certs
   (MsgResult.msg
   (ro31o f
   (decL decMsg
   (encL (encMsg 1) 1
   (ro22o (decL decMsg (encL (encMsg 1) 1 l)))))
   (decReplica (encReplica 1 (decReplica (encReplica 1 r)))) view))))
   (gL (encCert 1)
   (markC (1 : Int)
   (List.length
   (Msg.certs
   (MsgResult.msg
   (ro31o f
   (decL decMsg
   (encL (encMsg 1) 1
   (ro22o (decL decMsg (encL (encMsg 1) 1 l)))))
   (decReplica (encReplica 1 (decReplica (encReplica 1 r)))) view))))))
   1,
   V.sl
   (List.length
   (Msg.refs
   (MsgResult.msg
   (ro31o f
   (decL decMsg
   (encL (encMsg 1) 1
   (ro22o (decL decMsg (encL (encMsg 1) 1 l)))))
   (decReplica (encReplica 1 (decReplica (encReplica 1 r)))) view))))
   (gL encI
   (markI
   ((1 : Int) +
   (3 : Int) *
   (↑(List.length
   (Msg.certs
   (MsgResult.msg
   (ro31o f
   (decL decMsg
   (encL (encMsg 1) 1
   (ro22o (decL decMsg (encL (encMsg 1) 1 l)))))
   (decReplica (encReplica 1 (decReplica (encReplica 1 r)))) view)))) :
   Int))
   (List.length
   (Msg.refs
   (MsgResult.msg
   (ro31o f
   (decL decMsg
   (encL (encMsg 1) 1
   (ro22o (decL decMsg (encL (encMsg 1) 1 l)))))
   (decReplica (encReplica 1 (decReplica (encReplica 1 r)))) view))))))
   1])))
   (1 : Int) !=
   (1 : Int) +
   (3 : Int) *
   (↑(List.length
   (Msg.certs
   (MsgResult.msg
   (ro31o f
   (decL decMsg
   (encL (encMsg 1) 1 (ro22o (decL decMsg (encL (encMsg 1) 1 l)))))
   (decReplica (encReplica 1 (decReplica (encReplica 1 r)))) view)))) :
   Int) +
   (↑(List.length
   (Msg.refs
   (MsgResult.msg
   (ro31o f
   (decL decMsg
   (encL (encMsg 1) 1 (ro22o (decL decMsg (encL (encMsg 1) 1 l)))))
   (decReplica (encReplica 1 (decReplica (encReplica 1 r)))) view)))) :
   Int)) =
   false) →
   (((VLe (encL (encMsg 1) 1 l)
   (encL (encMsg 1) 1 (decL decMsg (encL (encMsg 1) 1 l)))) ∧
   (pr22o (decL decMsg (encL (encMsg 1) 1 l)))) ∧
   (((VLe (encReplica 1 r) (encReplica 1 (decReplica (encReplica 1 r)))) ∧
   (pr23 (decReplica (encReplica 1 r)))) ∧
   (((VLe (encL (encMsg 1) 1 (ro22o (decL decMsg (encL (encMsg 1) 1 l))))
   (encL (encMsg 1) 1
   (decL decMsg (encL (encMsg 1) 1 (ro22o (decL decMsg (encL (encMsg 1) 1 l))))))) ∧
   ((VLe (encReplica 1 (decReplica (encReplica 1 r)))
   (encReplica 1 (decReplica (encReplica 1 (decReplica (encReplica 1 r)))))) ∧
   (pr31o f (decL decMsg (encL (encMsg 1) 1 (ro22o (decL decMsg (encL (encMsg 1) 1 l)))))
   (decReplica (encReplica 1 (decReplica (encReplica 1 r)))) view))) ∧
   (((VLe
   (encMsgResult 1
   (ro31o f
   (decL decMsg (encL (encMsg 1) 1 (ro22o (decL decMsg (encL (encMsg 1) 1 l)))))
   (decReplica (encReplica 1 (decReplica (encReplica 1 r)))) view))
   (encMsgResult 1
   (decMsgResult
   (encMsgResult 1
   (ro31o f
   (decL decMsg (encL (encMsg 1) 1 (ro22o (decL decMsg (encL (encMsg 1) 1 l)))))
   (decReplica (encReplica 1 (decReplica (encReplica 1 r)))) view))))) ∧
   ((VLe
   (encMsgResult 1
   (ro32o f
   (decL decMsg (encL (encMsg 1) 1 (ro22o (decL decMsg (encL (encMsg 1) 1 l)))))
   (decReplica (encReplica 1 (decReplica (encReplica 1 r)))) view))
   (encMsgResult 1
   (decMsgResult
   (encMsgResult 1
   (ro32o f
   (decL decMsg (encL (encMsg 1) 1 (ro22o (decL decMsg (encL (encMsg 1) 1 l)))))
   (decReplica (encReplica 1 (decReplica (encReplica 1 r)))) view))))) ∧
   (pr38
   (decMsgResult
   (encMsgResult 1
   (ro31o f
   (decL decMsg (encL (encMsg 1) 1 (ro22o (decL decMsg (encL (encMsg 1) 1 l)))))
   (decReplica (encReplica 1 (decReplica (encReplica 1 r)))) view)))
   (decMsgResult
   (encMsgResult 1
   (ro32o f
   (decL decMsg (encL (encMsg 1) 1 (ro22o (decL decMsg (encL (encMsg 1) 1 l)))))
   (decReplica (encReplica 1 (decReplica (encReplica 1 r)))) view)))))) ∧
   ((((!decide
   (decMsgResult
   (encMsgResult 1
   (ro31o f
   (decL decMsg
   (encL (encMsg 1) 1 (ro22o (decL decMsg (encL (encMsg 1) 1 l)))))
   (decReplica (encReplica 1 (decReplica (encReplica 1 r)))) view)) =
   decMsgResult
   (encMsgResult 1
   (ro32o f
   (decL decMsg
   (encL (encMsg 1) 1 (ro22o (decL decMsg (encL (encMsg 1) 1 l)))))
   (decReplica (encReplica 1 (decReplica (encReplica 1 r)))) view)))) =
   true) →
   (VLe (V.bool false) (V.bool true))) ∧
   (((!decide
   (decMsgResult
   (encMsgResult 1
   (ro31o f
   (decL decMsg
   (encL (encMsg 1) 1 (ro22o (decL decMsg (encL (encMsg 1) 1 l)))))
   (decReplica (encReplica 1 (decReplica (encReplica 1 r)))) view)) =
   decMsgResult
   (encMsgResult 1
   (ro32o f
   (decL decMsg
   (encL (encMsg 1) 1 (ro22o (decL decMsg (encL (encMsg 1) 1 l)))))
   (decReplica (encReplica 1 (decReplica (encReplica 1 r)))) view)))) =
   false) →
   (((VLe
   (V.agg
   [V.int IntKind.i64
   (MsgResult.code
   (ro31o f
   (decL decMsg
   (encL (encMsg 1) 1 (ro22o (decL decMsg (encL (encMsg 1) 1 l)))))
   (decReplica (encReplica 1 (decReplica (encReplica 1 r)))) view)),
   V.int IntKind.i64
   (Msg.kind
   (MsgResult.msg
   (ro31o f
   (decL decMsg
   (encL (encMsg 1) 1 (ro22o (decL decMsg (encL (encMsg 1) 1 l)))))
   (decReplica (encReplica 1 (decReplica (encReplica 1 r)))) view))),
   V.int IntKind.i64
   (Msg.view
   (MsgResult.msg
   (ro31o f
   (decL decMsg
   (encL (encMsg 1) 1 (ro22o (decL decMsg (encL (encMsg 1) 1 l)))))
   (decReplica (encReplica 1 (decReplica (encReplica 1 r)))) view))),
   V.int IntKind.i64
   (Msg.sender
   (MsgResult.msg
   (ro31o f
   (decL decMsg
   (encL (encMsg 1) 1 (ro22o (decL decMsg (encL (encMsg 1) 1 l)))))
   (decReplica (encReplica 1 (decReplica (encReplica 1 r)))) view))),
   V.int IntKind.i64
   (Msg.slot
   (MsgResult.msg
   (ro31o f
   (decL decMsg
   (encL (encMsg 1) 1 (ro22o (decL decMsg (encL (encMsg 1) 1 l)))))
   (decReplica (encReplica 1 (decReplica (encReplica 1 r)))) view))),
   V.int IntKind.i64
   (Msg.value
   (MsgResult.msg
   (ro31o f
   (decL decMsg
   (encL (encMsg 1) 1 (ro22o (decL decMsg (encL (encMsg 1) 1 l)))))
   (decReplica (encReplica 1 (decReplica (encReplica 1 r)))) view))),
   V.sl
   (List.length
   (Msg.certs
   (MsgResult.msg
   (ro31o f
   (decL decMsg
   (encL (encMsg 1) 1 (ro22o (decL decMsg (encL (encMsg 1) 1 l)))))
   (decReplica (encReplica 1 (decReplica (encReplica 1 r)))) view))))
   (gL (encCert 1)
   (markC (1 : Int)
   (List.length
   (Msg.certs
   (MsgResult.msg
   (ro31o f
   (decL decMsg
   (encL (encMsg 1) 1 (ro22o (decL decMsg (encL (encMsg 1) 1 l)))))
   (decReplica (encReplica 1 (decReplica (encReplica 1 r)))) view))))))
   1,
   V.sl
   (List.length
   (Msg.refs
   (MsgResult.msg
   (ro31o f
   (decL decMsg
   (encL (encMsg 1) 1 (ro22o (decL decMsg (encL (encMsg 1) 1 l)))))
   (decReplica (encReplica 1 (decReplica (encReplica 1 r)))) view))))
   (gL encI
   (markI
   ((1 : Int) +
   (3 : Int) *
   (↑(List.length
   (Msg.certs
   (MsgResult.msg
   (ro31o f
   (decL decMsg
   (encL (encMsg 1) 1
   (ro22o (decL decMsg (encL (encMsg 1) 1 l)))))
   (decReplica (encReplica 1 (decReplica (encReplica 1 r)))) view)))) :
   Int))
   (List.length
   (Msg.refs
   (MsgResult.msg
   (ro31o f
   (decL decMsg
   (encL (encMsg 1) 1 (ro22o (decL decMsg (encL (encMsg 1) 1 l)))))
   (decReplica (encReplica 1 (decReplica (encReplica 1 r)))) view))))))
   1])
   (encMsgResult 1
   (decMsgResult
   (V.agg
   [V.int IntKind.i64
   (MsgResult.code
   (ro31o f
   (decL decMsg
   (encL (encMsg 1) 1 (ro22o (decL decMsg (encL (encMsg 1) 1 l)))))
   (decReplica (encReplica 1 (decReplica (encReplica 1 r)))) view)),
   V.int IntKind.i64
   (Msg.kind
   (MsgResult.msg
   (ro31o f
   (decL decMsg
   (encL (encMsg 1) 1 (ro22o (decL decMsg (encL (encMsg 1) 1 l)))))
   (decReplica (encReplica 1 (decReplica (encReplica 1 r)))) view))),
   V.int IntKind.i64
   (Msg.view
   (MsgResult.msg
   (ro31o f
   (decL decMsg
   (encL (encMsg 1) 1 (ro22o (decL decMsg (encL (encMsg 1) 1 l)))))
   (decReplica (encReplica 1 (decReplica (encReplica 1 r)))) view))),
   V.int IntKind.i64
   (Msg.sender
   (MsgResult.msg
   (ro31o f
   (decL decMsg
   (encL (encMsg 1) 1 (ro22o (decL decMsg (encL (encMsg 1) 1 l)))))
   (decReplica (encReplica 1 (decReplica (encReplica 1 r)))) view))),
   V.int IntKind.i64
   (Msg.slot
   (MsgResult.msg
   (ro31o f
   (decL decMsg
   (encL (encMsg 1) 1 (ro22o (decL decMsg (encL (encMsg 1) 1 l)))))
   (decReplica (encReplica 1 (decReplica (encReplica 1 r)))) view))),
   V.int IntKind.i64
   (Msg.value
   (MsgResult.msg
   (ro31o f
   (decL decMsg
   (encL (encMsg 1) 1 (ro22o (decL decMsg (encL (encMsg 1) 1 l)))))
   (decReplica (encReplica 1 (decReplica (encReplica 1 r)))) view))),
   V.sl
   (List.length
   (Msg.certs
   (MsgResult.msg
   (ro31o f
   (decL decMsg
   (encL (encMsg 1) 1 (ro22o (decL decMsg (encL (encMsg 1) 1 l)))))
   (decReplica (encReplica 1 (decReplica (encReplica 1 r)))) view))))
   (gL (encCert 1)
   (markC (1 : Int)
   (List.length
   (Msg.certs
   (MsgResult.msg
   (ro31o f
   (decL decMsg
   (encL (encMsg 1) 1
   (ro22o (decL decMsg (encL (encMsg 1) 1 l)))))
   (decReplica (encReplica 1 (decReplica (encReplica 1 r)))) view))))))
   1,
   V.sl
   (List.length
   (Msg.refs
   (MsgResult.msg
   (ro31o f
   (decL decMsg
   (encL (encMsg 1) 1 (ro22o (decL decMsg (encL (encMsg 1) 1 l)))))
   (decReplica (encReplica 1 (decReplica (encReplica 1 r)))) view))))
   (gL encI
   (markI
   ((1 : Int) +
   (3 : Int) *
   (↑(List.length
   (Msg.certs
   (MsgResult.msg
   (ro31o f
   (decL decMsg
   (encL (encMsg 1) 1
   (ro22o (decL decMsg (encL (encMsg 1) 1 l)))))
   (decReplica (encReplica 1 (decReplica (encReplica 1 r)))) view)))) :
   Int))
   (List.length
   (Msg.refs
   (MsgResult.msg
   (ro31o f
   (decL decMsg
   (encL (encMsg 1) 1
   (ro22o (decL decMsg (encL (encMsg 1) 1 l)))))
   (decReplica (encReplica 1 (decReplica (encReplica 1 r)))) view))))))
   1])))) ∧
   (pr41
   (decMsgResult
   (V.agg
   [V.int IntKind.i64
   (MsgResult.code
   (ro31o f
   (decL decMsg
   (encL (encMsg 1) 1 (ro22o (decL decMsg (encL (encMsg 1) 1 l)))))
   (decReplica (encReplica 1 (decReplica (encReplica 1 r)))) view)),
   V.int IntKind.i64
   (Msg.kind
   (MsgResult.msg
   (ro31o f
   (decL decMsg
   (encL (encMsg 1) 1 (ro22o (decL decMsg (encL (encMsg 1) 1 l)))))
   (decReplica (encReplica 1 (decReplica (encReplica 1 r)))) view))),
   V.int IntKind.i64
   (Msg.view
   (MsgResult.msg
   (ro31o f
   (decL decMsg
   (encL (encMsg 1) 1 (ro22o (decL decMsg (encL (encMsg 1) 1 l)))))
   (decReplica (encReplica 1 (decReplica (encReplica 1 r)))) view))),
   V.int IntKind.i64
   (Msg.sender
   (MsgResult.msg
   (ro31o f
   (decL decMsg
   (encL (encMsg 1) 1 (ro22o (decL decMsg (encL (encMsg 1) 1 l)))))
   (decReplica (encReplica 1 (decReplica (encReplica 1 r)))) view))),
   V.int IntKind.i64
   (Msg.slot
   (MsgResult.msg
   (ro31o f
   (decL decMsg
   (encL (encMsg 1) 1 (ro22o (decL decMsg (encL (encMsg 1) 1 l)))))
   (decReplica (encReplica 1 (decReplica (encReplica 1 r)))) view))),
   V.int IntKind.i64
   (Msg.value
   (MsgResult.msg
   (ro31o f
   (decL decMsg
   (encL (encMsg 1) 1 (ro22o (decL decMsg (encL (encMsg 1) 1 l)))))
   (decReplica (encReplica 1 (decReplica (encReplica 1 r)))) view))),
   V.sl
   (List.length
   (Msg.certs
   (MsgResult.msg
   (ro31o f
   (decL decMsg
   (encL (encMsg 1) 1 (ro22o (decL decMsg (encL (encMsg 1) 1 l)))))
   (decReplica (encReplica 1 (decReplica (encReplica 1 r)))) view))))
   (gL (encCert 1)
   (markC (1 : Int)
   (List.length
   (Msg.certs
   (MsgResult.msg
   (ro31o f
   (decL decMsg
   (encL (encMsg 1) 1 (ro22o (decL decMsg (encL (encMsg 1) 1 l)))))
   (decReplica (encReplica 1 (decReplica (encReplica 1 r)))) view))))))
   1,
   V.sl
   (List.length
   (Msg.refs
   (MsgResult.msg
   (ro31o f
   (decL decMsg
   (encL (encMsg 1) 1 (ro22o (decL decMsg (encL (encMsg 1) 1 l)))))
   (decReplica (encReplica 1 (decReplica (encReplica 1 r)))) view))))
   (gL encI
   (markI
   ((1 : Int) +
   (3 : Int) *
   (↑(List.length
   (Msg.certs
   (MsgResult.msg
   (ro31o f
   (decL decMsg
   (encL (encMsg 1) 1
   (ro22o (decL decMsg (encL (encMsg 1) 1 l)))))
   (decReplica (encReplica 1 (decReplica (encReplica 1 r)))) view)))) :
   Int))
   (List.length
   (Msg.refs
   (MsgResult.msg
   (ro31o f
   (decL decMsg
   (encL (encMsg 1) 1 (ro22o (decL decMsg (encL (encMsg 1) 1 l)))))
   (decReplica (encReplica 1 (decReplica (encReplica 1 r)))) view))))))
   1]))
   (1 : Int))) ∧
   (((decide
   (heldM
   (MsgResult.msg
   (decMsgResult
   (V.agg
   [V.int IntKind.i64
   (MsgResult.code
   (ro31o f
   (decL decMsg
   (encL (encMsg 1) 1 (ro22o (decL decMsg (encL (encMsg 1) 1 l)))))
   (decReplica (encReplica 1 (decReplica (encReplica 1 r)))) view)),
   V.int IntKind.i64
   (Msg.kind
   (MsgResult.msg
   (ro31o f
   (decL decMsg
   (encL (encMsg 1) 1
   (ro22o (decL decMsg (encL (encMsg 1) 1 l)))))
   (decReplica (encReplica 1 (decReplica (encReplica 1 r)))) view))),
   V.int IntKind.i64
   (Msg.view
   (MsgResult.msg
   (ro31o f
   (decL decMsg
   (encL (encMsg 1) 1
   (ro22o (decL decMsg (encL (encMsg 1) 1 l)))))
   (decReplica (encReplica 1 (decReplica (encReplica 1 r)))) view))),
   V.int IntKind.i64
   (Msg.sender
   (MsgResult.msg
   (ro31o f
   (decL decMsg
   (encL (encMsg 1) 1
   (ro22o (decL decMsg (encL (encMsg 1) 1 l)))))
   (decReplica (encReplica 1 (decReplica (encReplica 1 r)))) view))),
   V.int IntKind.i64
   (Msg.slot
   (MsgResult.msg
   (ro31o f
   (decL decMsg
   (encL (encMsg 1) 1
   (ro22o (decL decMsg (encL (encMsg 1) 1 l)))))
   (decReplica (encReplica 1 (decReplica (encReplica 1 r)))) view))),
   V.int IntKind.i64
   (Msg.value
   (MsgResult.msg
   (ro31o f
   (decL decMsg
   (encL (encMsg 1) 1
   (ro22o (decL decMsg (encL (encMsg 1) 1 l)))))
   (decReplica (encReplica 1 (decReplica (encReplica 1 r)))) view))),
   V.sl
   (List.length
   (Msg.certs
   (MsgResult.msg
   (ro31o f
   (decL decMsg
   (encL (encMsg 1) 1
   (ro22o (decL decMsg (encL (encMsg 1) 1 l)))))
   (decReplica (encReplica 1 (decReplica (encReplica 1 r)))) view))))
   (gL (encCert 1)
   (markC (1 : Int)
   (List.length
   (Msg.certs
   (MsgResult.msg
   (ro31o f
   (decL decMsg
   (encL (encMsg 1) 1
   (ro22o (decL decMsg (encL (encMsg 1) 1 l)))))
   (decReplica (encReplica 1 (decReplica (encReplica 1 r)))) view))))))
   1,
   V.sl
   (List.length
   (Msg.refs
   (MsgResult.msg
   (ro31o f
   (decL decMsg
   (encL (encMsg 1) 1
   (ro22o (decL decMsg (encL (encMsg 1) 1 l)))))
   (decReplica (encReplica 1 (decReplica (encReplica 1 r)))) view))))
   (gL encI
   (markI
   ((1 : Int) +
   (3 : Int) *
   (↑(List.length
   (Msg.certs
   (MsgResult.msg
   (ro31o f
   (decL decMsg
   (encL (encMsg 1) 1
   (ro22o (decL decMsg (encL (encMsg 1) 1 l)))))
   (decReplica (encReplica 1 (decReplica (encReplica 1 r))))
   view)))) :
   Int))
   (List.length
   (Msg.refs
   (MsgResult.msg
   (ro31o f
   (decL decMsg
   (encL (encMsg 1) 1
   (ro22o (decL decMsg (encL (encMsg 1) 1 l)))))
   (decReplica (encReplica 1 (decReplica (encReplica 1 r)))) view))))))
   1])))
   (1 : Int) <
   (0 : Int)) =
   true) →
   (VLe (V.bool false) (V.bool true))) ∧
   ((decide
   (heldM
   (MsgResult.msg
   (decMsgResult
   (V.agg
   [V.int IntKind.i64
   (MsgResult.code
   (ro31o f
   (decL decMsg
   (encL (encMsg 1) 1 (ro22o (decL decMsg (encL (encMsg 1) 1 l)))))
   (decReplica (encReplica 1 (decReplica (encReplica 1 r)))) view)),
   V.int IntKind.i64
   (Msg.kind
   (MsgResult.msg
   (ro31o f
   (decL decMsg
   (encL (encMsg 1) 1
   (ro22o (decL decMsg (encL (encMsg 1) 1 l)))))
   (decReplica (encReplica 1 (decReplica (encReplica 1 r)))) view))),
   V.int IntKind.i64
   (Msg.view
   (MsgResult.msg
   (ro31o f
   (decL decMsg
   (encL (encMsg 1) 1
   (ro22o (decL decMsg (encL (encMsg 1) 1 l)))))
   (decReplica (encReplica 1 (decReplica (encReplica 1 r)))) view))),
   V.int IntKind.i64
   (Msg.sender
   (MsgResult.msg
   (ro31o f
   (decL decMsg
   (encL (encMsg 1) 1
   (ro22o (decL decMsg (encL (encMsg 1) 1 l)))))
   (decReplica (encReplica 1 (decReplica (encReplica 1 r)))) view))),
   V.int IntKind.i64
   (Msg.slot
   (MsgResult.msg
   (ro31o f
   (decL decMsg
   (encL (encMsg 1) 1
   (ro22o (decL decMsg (encL (encMsg 1) 1 l)))))
   (decReplica (encReplica 1 (decReplica (encReplica 1 r)))) view))),
   V.int IntKind.i64
   (Msg.value
   (MsgResult.msg
   (ro31o f
   (decL decMsg
   (encL (encMsg 1) 1
   (ro22o (decL decMsg (encL (encMsg 1) 1 l)))))
   (decReplica (encReplica 1 (decReplica (encReplica 1 r)))) view))),
   V.sl
   (List.length
   (Msg.certs
   (MsgResult.msg
   (ro31o f
   (decL decMsg
   (encL (encMsg 1) 1
   (ro22o (decL decMsg (encL (encMsg 1) 1 l)))))
   (decReplica (encReplica 1 (decReplica (encReplica 1 r)))) view))))
   (gL (encCert 1)
   (markC (1 : Int)
   (List.length
   (Msg.certs
   (MsgResult.msg
   (ro31o f
   (decL decMsg
   (encL (encMsg 1) 1
   (ro22o (decL decMsg (encL (encMsg 1) 1 l)))))
   (decReplica (encReplica 1 (decReplica (encReplica 1 r)))) view))))))
   1,
   V.sl
   (List.length
   (Msg.refs
   (MsgResult.msg
   (ro31o f
   (decL decMsg
   (encL (encMsg 1) 1
   (ro22o (decL decMsg (encL (encMsg 1) 1 l)))))
   (decReplica (encReplica 1 (decReplica (encReplica 1 r)))) view))))
   (gL encI
   (markI
   ((1 : Int) +
   (3 : Int) *
   (↑(List.length
   (Msg.certs
   (MsgResult.msg
   (ro31o f
   (decL decMsg
   (encL (encMsg 1) 1
   (ro22o (decL decMsg (encL (encMsg 1) 1 l)))))
   (decReplica (encReplica 1 (decReplica (encReplica 1 r))))
   view)))) :
   Int))
   (List.length
   (Msg.refs
   (MsgResult.msg
   (ro31o f
   (decL decMsg
   (encL (encMsg 1) 1
   (ro22o (decL decMsg (encL (encMsg 1) 1 l)))))
   (decReplica (encReplica 1 (decReplica (encReplica 1 r)))) view))))))
   1])))
   (1 : Int) <
   (0 : Int)) =
   false) →
   ((((heldM
   (MsgResult.msg
   (decMsgResult
   (V.agg
   [V.int IntKind.i64
   (MsgResult.code
   (ro31o f
   (decL decMsg
   (encL (encMsg 1) 1 (ro22o (decL decMsg (encL (encMsg 1) 1 l)))))
   (decReplica (encReplica 1 (decReplica (encReplica 1 r)))) view)),
   V.int IntKind.i64
   (Msg.kind
   (MsgResult.msg
   (ro31o f
   (decL decMsg
   (encL (encMsg 1) 1 (ro22o (decL decMsg (encL (encMsg 1) 1 l)))))
   (decReplica (encReplica 1 (decReplica (encReplica 1 r)))) view))),
   V.int IntKind.i64
   (Msg.view
   (MsgResult.msg
   (ro31o f
   (decL decMsg
   (encL (encMsg 1) 1 (ro22o (decL decMsg (encL (encMsg 1) 1 l)))))
   (decReplica (encReplica 1 (decReplica (encReplica 1 r)))) view))),
   V.int IntKind.i64
   (Msg.sender
   (MsgResult.msg
   (ro31o f
   (decL decMsg
   (encL (encMsg 1) 1 (ro22o (decL decMsg (encL (encMsg 1) 1 l)))))
   (decReplica (encReplica 1 (decReplica (encReplica 1 r)))) view))),
   V.int IntKind.i64
   (Msg.slot
   (MsgResult.msg
   (ro31o f
   (decL decMsg
   (encL (encMsg 1) 1 (ro22o (decL decMsg (encL (encMsg 1) 1 l)))))
   (decReplica (encReplica 1 (decReplica (encReplica 1 r)))) view))),
   V.int IntKind.i64
   (Msg.value
   (MsgResult.msg
   (ro31o f
   (decL decMsg
   (encL (encMsg 1) 1 (ro22o (decL decMsg (encL (encMsg 1) 1 l)))))
   (decReplica (encReplica 1 (decReplica (encReplica 1 r)))) view))),
   V.sl
   (List.length
   (Msg.certs
   (MsgResult.msg
   (ro31o f
   (decL decMsg
   (encL (encMsg 1) 1
   (ro22o (decL decMsg (encL (encMsg 1) 1 l)))))
   (decReplica (encReplica 1 (decReplica (encReplica 1 r)))) view))))
   (gL (encCert 1)
   (markC (1 : Int)
   (List.length
   (Msg.certs
   (MsgResult.msg
   (ro31o f
   (decL decMsg
   (encL (encMsg 1) 1
   (ro22o (decL decMsg (encL (encMsg 1) 1 l)))))
   (decReplica (encReplica 1 (decReplica (encReplica 1 r)))) view))))))
   1,
   V.sl
   (List.length
   (Msg.refs
   (MsgResult.msg
   (ro31o f
   (decL decMsg
   (encL (encMsg 1) 1
   (ro22o (decL decMsg (encL (encMsg 1) 1 l)))))
   (decReplica (encReplica 1 (decReplica (encReplica 1 r)))) view))))
   (gL encI
   (markI
   ((1 : Int) +
   (3 : Int) *
   (↑(List.length
   (Msg.certs
   (MsgResult.msg
   (ro31o f
   (decL decMsg
   (encL (encMsg 1) 1
   (ro22o (decL decMsg (encL (encMsg 1) 1 l)))))
   (decReplica (encReplica 1 (decReplica (encReplica 1 r)))) view)))) :
   Int))
   (List.length
   (Msg.refs
   (MsgResult.msg
   (ro31o f
   (decL decMsg
   (encL (encMsg 1) 1
   (ro22o (decL decMsg (encL (encMsg 1) 1 l)))))
   (decReplica (encReplica 1 (decReplica (encReplica 1 r)))) view))))))
   1])))
   (1 : Int) !=
   (1 : Int) +
   (3 : Int) *
   (↑(List.length
   (Msg.certs
   (MsgResult.msg
   (ro31o f
   (decL decMsg
   (encL (encMsg 1) 1 (ro22o (decL decMsg (encL (encMsg 1) 1 l)))))
   (decReplica (encReplica 1 (decReplica (encReplica 1 r)))) view)))) :
   Int) +
   (↑(List.length
   (Msg.refs
   (MsgResult.msg
   (ro31o f
   (decL decMsg
   (encL (encMsg 1) 1 (ro22o (decL decMsg (encL (encMsg 1) 1 l)))))
   (decReplica (encReplica 1 (decReplica (encReplica 1 r)))) view)))) :
   Int)) =
   true) →
   (VLe (V.bool false) (V.bool true))) ∧
   (((heldM
   (MsgResult.msg
   (decMsgResult
   (V.agg
   [V.int IntKind.i64
   (MsgResult.code
   (ro31o f
   (decL decMsg
   (encL (encMsg 1) 1 (ro22o (decL decMsg (encL (encMsg 1) 1 l)))))
   (decReplica (encReplica 1 (decReplica (encReplica 1 r)))) view)),
   V.int IntKind.i64
   (Msg.kind
   (MsgResult.msg
   (ro31o f
   (decL decMsg
   (encL (encMsg 1) 1 (ro22o (decL decMsg (encL (encMsg 1) 1 l)))))
   (decReplica (encReplica 1 (decReplica (encReplica 1 r)))) view))),
   V.int IntKind.i64
   (Msg.view
   (MsgResult.msg
   (ro31o f
   (decL decMsg
   (encL (encMsg 1) 1 (ro22o (decL decMsg (encL (encMsg 1) 1 l)))))
   (decReplica (encReplica 1 (decReplica (encReplica 1 r)))) view))),
   V.int IntKind.i64
   (Msg.sender
   (MsgResult.msg
   (ro31o f
   (decL decMsg
   (encL (encMsg 1) 1 (ro22o (decL decMsg (encL (encMsg 1) 1 l)))))
   (decReplica (encReplica 1 (decReplica (encReplica 1 r)))) view))),
   V.int IntKind.i64
   (Msg.slot
   (MsgResult.msg
   (ro31o f
   (decL decMsg
   (encL (encMsg 1) 1 (ro22o (decL decMsg (encL (encMsg 1) 1 l)))))
   (decReplica (encReplica 1 (decReplica (encReplica 1 r)))) view))),
   V.int IntKind.i64
   (Msg.value
   (MsgResult.msg
   (ro31o f
   (decL decMsg
   (encL (encMsg 1) 1 (ro22o (decL decMsg (encL (encMsg 1) 1 l)))))
   (decReplica (encReplica 1 (decReplica (encReplica 1 r)))) view))),
   V.sl
   (List.length
   (Msg.certs
   (MsgResult.msg
   (ro31o f
   (decL decMsg
   (encL (encMsg 1) 1
   (ro22o (decL decMsg (encL (encMsg 1) 1 l)))))
   (decReplica (encReplica 1 (decReplica (encReplica 1 r)))) view))))
   (gL (encCert 1)
   (markC (1 : Int)
   (List.length
   (Msg.certs
   (MsgResult.msg
   (ro31o f
   (decL decMsg
   (encL (encMsg 1) 1
   (ro22o (decL decMsg (encL (encMsg 1) 1 l)))))
   (decReplica (encReplica 1 (decReplica (encReplica 1 r)))) view))))))
   1,
   V.sl
   (List.length
   (Msg.refs
   (MsgResult.msg
   (ro31o f
   (decL decMsg
   (encL (encMsg 1) 1
   (ro22o (decL decMsg (encL (encMsg 1) 1 l)))))
   (decReplica (encReplica 1 (decReplica (encReplica 1 r)))) view))))
   (gL encI
   (markI
   ((1 : Int) +
   (3 : Int) *
   (↑(List.length
   (Msg.certs
   (MsgResult.msg
   (ro31o f
   (decL decMsg
   (encL (encMsg 1) 1
   (ro22o (decL decMsg (encL (encMsg 1) 1 l)))))
   (decReplica (encReplica 1 (decReplica (encReplica 1 r)))) view)))) :
   Int))
   (List.length
   (Msg.refs
   (MsgResult.msg
   (ro31o f
   (decL decMsg
   (encL (encMsg 1) 1
   (ro22o (decL decMsg (encL (encMsg 1) 1 l)))))
   (decReplica (encReplica 1 (decReplica (encReplica 1 r)))) view))))))
   1])))
   (1 : Int) !=
   (1 : Int) +
   (3 : Int) *
   (↑(List.length
   (Msg.certs
   (MsgResult.msg
   (ro31o f
   (decL decMsg
   (encL (encMsg 1) 1 (ro22o (decL decMsg (encL (encMsg 1) 1 l)))))
   (decReplica (encReplica 1 (decReplica (encReplica 1 r)))) view)))) :
   Int) +
   (↑(List.length
   (Msg.refs
   (MsgResult.msg
   (ro31o f
   (decL decMsg
   (encL (encMsg 1) 1 (ro22o (decL decMsg (encL (encMsg 1) 1 l)))))
   (decReplica (encReplica 1 (decReplica (encReplica 1 r)))) view)))) :
   Int)) =
   false) →
   (VLe (V.bool true) (V.bool true))))))))))))))))))))))))))))))))))))))))))))))) := by
    have hm : bdL l := hpre.2.1
    have f1 := @szMsgSF_bd l 1048576
    have f3 := @szMsgSF_le l 1048576 (by omega)
    obtain ⟨hl, hb⟩ := hm
    have hv : ∀ v, VLe v v := VLe.refl
    simp only [decL_Msg]
    refine ⟨⟨VLe.refl _, by omega, by unfold most; omega, hl, hb⟩, fun h => VLe.refl _, fun h => ?_⟩
    have h0 := of_decide_eq_false h
    obtain ⟨g1, g2⟩ := f1 (by omega)
    have p1 : pr22o l := ⟨by unfold most; omega, fun x hx => ⟨by have := g2 x hx; unfold most; omega, by have := g2 x hx; unfold most; omega⟩⟩
    have p2 : pr25 l l := ⟨hl, fun x hx y => hb x hx⟩
    have c1 : cntL l l.length ≤ 1048576 * 4194309 := by
      have := cntL_le (l := l) (n := 1048576) (by omega) fun x hx => by have := g2 x hx; omega
      have h2 : (l.length : Int) * (5 + 4 * (1048576 : Nat)) ≤ 1048576 * (5 + 4 * (1048576 : Nat)) := Int.mul_le_mul_of_nonneg_right (by omega) (by omega)
      omega
    have c2 := cntL_nonneg l l.length
    have p3 : mp39 l 1 := ⟨by omega, by omega, by omega⟩
    have q1 : decide (1 + cntL l l.length < 0) = false := by simp; omega
    have hn : (changeMsgF f l r view).msg.certs.length ≤ 240 ∧ (changeMsgF f l r view).msg.refs.length ≤ 240 := lenChangeMsg
    simp only [decL_Msg, dec_encMsgResult, dec_encReplica, ro22o, ro32o, ro31o, dec_markMsgR, heldM_mark, q1]
    generalize changeMsgF f l r view = W at *
    have p4 : pr38 W W := by
      refine ⟨?_, ?_⟩
      all_goals unfold maxLen
      all_goals omega
    have p5 : pr40 W.msg.certs.length W.msg.refs.length 1 := ⟨by omega, by omega⟩
    have p6 : pr41 ⟨W.code, ⟨W.msg.kind, W.msg.view, W.msg.sender, W.msg.slot, W.msg.value, markC 1 W.msg.certs.length, markI (1 + 3 * W.msg.certs.length) W.msg.refs.length⟩⟩ 1 := ⟨by omega, by simp; omega⟩
    have q2 : decide (1 + 3 * (W.msg.certs.length : Int) + W.msg.refs.length < 0) = false := by simp; omega
    have p7 : pr31o f l r view := ⟨hl, hb⟩
    have p8 : pr32o f l r view := ⟨hl, hb⟩
    have p9 : pr23 r := trivial
    simp [hv, p1, p2, p3, p4, p5, p6, p7, p8, p9, q2]
    exact ⟨q1, fun _ => ⟨⟨⟨W.msg.certs, rfl, fun _ _ => ELe.refl _⟩, ⟨W.msg.refs, rfl, fun _ _ => ELe.refl _⟩⟩, vle_markMsgR _ _ _ _ _ _ _ _ _ _⟩⟩
  exact Eq.mp (by kernel_rfl) key
theorem so9 : Sound Tryz.prog 9 (lawD Q9) := by
  refine sound_of_body hmix (pol := 0) Tryz.func9 rfl (by kernel_rfl) fun args bin ob r bout hDe hob => ?_
  unfold lawD at hDe
  split at hDe
  · cases hDe
    obtain ⟨f, l, r, view, hle, hpre⟩ := hob
    have hlen : args.length = 4 := hle.1.symm
    exact ⟨rfl, rfl, by rw [hlen]; exact Nat.le_of_ble_eq_true (by kernel_rfl), cx9 f l r view, Eq.mp (by kernel_rfl) htt, Eq.mp (by kernel_rfl) da9, Eq.mp (by kernel_rfl) (soundAllM_cons sm39 (soundAllM_nil (P := Tryz.prog))), by kernel_rfl, _, hle, Eq.mp (by kernel_rfl) (bd9 f l r view hpre)⟩
  · cases hDe

end Go.Av
