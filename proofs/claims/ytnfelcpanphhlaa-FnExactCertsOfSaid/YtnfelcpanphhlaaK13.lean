/- The law on what a replica committed. -/
import Derived.Test.YtnfelcpanphhlaaK12
namespace Go.Av
open Go.Proofs
set_option maxRecDepth 100000
set_option linter.unusedVariables false
set_option linter.unusedSimpArgs false


/-! ### laws.FnExactCertsOf -/
def pr10 (f : Int) (l : List Msg) (id : Int) (view : Int) : Prop := (Lit.int .i64 f).wf = true ∧ bdL l ∧ (Lit.int .i64 id).wf = true ∧ (Lit.int .i64 view).wf = true
noncomputable def rs10 (f : Int) (l : List Msg) (id : Int) (view : Int) : V := .bool (true)
def Q10 (vs : List V) : Prop := ∃ (f : Int) (l : List Msg) (id : Int) (view : Int), ArgsLe vs [.int .i64 (f), encL (encMsg 1) 1 (l), .int .i64 (id), .int .i64 (view)] ∧ pr10 f l id view
noncomputable def D10 : Nat → Option (Bool × FSpec) := lk [(34, (false, sp34)), (36, (false, sp36o)), (38, (false, sp38)), (49, (false, sp49o)), (50, (false, sp50o)), (51, (false, sp51)), (52, (true, sp52)), (53, (false, sp53))]
theorem da10 : SoundAll Try.prog D10 := soundAll_cons so34 (soundAll_cons so36o (soundAll_cons so38 (soundAll_cons so49o (soundAll_cons so50o (soundAll_cons so51 (soundAll_cons so52 (soundAll_cons so53 (soundAll_nil))))))))
noncomputable def cx10 (f : Int) (l : List Msg) (id : Int) (view : Int) : Cx := ⟨tt, D10, Try.f10.ntmps, [0, 1, 2, 3, 8, 9, 10, 11, 12, 13, 14, 15, 16, 21, 38, 43, 54, 62, 65, 75, 80, 83], [], [], fun _ => none, [13], (lk [(46, mm46)]), []⟩
theorem bd10 (f : Int) (l : List Msg) (id : Int) (view : Int) (hpre : pr10 f l id view) : bodyP (cx10 f l id view) Try.f10 0 [.int .i64 (f), encL (encMsg 1) 1 (l), .int .i64 (id), .int .i64 (view)] (fun rr => VLe rr (rs10 f l id view)) := by
  have key :
      (((VLe (encL (encMsg 1) 1 l)
   (encL (encMsg 1) 1 (decL decMsg (encL (encMsg 1) 1 l)))) ∧
   (pr34 (decL decMsg (encL (encMsg 1) 1 l)) (1048576 : Int))) ∧
   (((decide (szMsgSF (decL decMsg (encL (encMsg 1) 1 l)) (1048576 : Int) < (0 : Int)) = true) →
   (VLe (V.bool true) (V.bool true))) ∧
   ((decide (szMsgSF (decL decMsg (encL (encMsg 1) 1 l)) (1048576 : Int) < (0 : Int)) = false) →
   (((VLe (encL (encMsg 1) 1 l)
   (encL (encMsg 1) 1 (decL decMsg (encL (encMsg 1) 1 l)))) ∧
   (pr36o (decL decMsg (encL (encMsg 1) 1 l)))) ∧
   (((VLe (encL (encMsg 1) 1 (ro36o (decL decMsg (encL (encMsg 1) 1 l))))
   (encL (encMsg 1) 1
   (decL decMsg (encL (encMsg 1) 1 (ro36o (decL decMsg (encL (encMsg 1) 1 l))))))) ∧
   (pr49o f (decL decMsg (encL (encMsg 1) 1 (ro36o (decL decMsg (encL (encMsg 1) 1 l))))) id
   view)) ∧
   (((VLe (encL (encMsg 1) 1 l)
   (encL (encMsg 1) 1 (decL decMsg (encL (encMsg 1) 1 l)))) ∧
   (pr36o (decL decMsg (encL (encMsg 1) 1 l)))) ∧
   (((VLe (encL (encMsg 1) 1 (ro36o (decL decMsg (encL (encMsg 1) 1 l))))
   (encL (encMsg 1) 1
   (decL decMsg (encL (encMsg 1) 1 (ro36o (decL decMsg (encL (encMsg 1) 1 l))))))) ∧
   (pr50o f (decL decMsg (encL (encMsg 1) 1 (ro36o (decL decMsg (encL (encMsg 1) 1 l))))) id
   view)) ∧
   (((VLe
   (encCertsResult 1
   (ro50o f
   (decL decMsg (encL (encMsg 1) 1 (ro36o (decL decMsg (encL (encMsg 1) 1 l))))) id
   view))
   (encCertsResult 1
   (decCertsResult
   (encCertsResult 1
   (ro50o f
   (decL decMsg (encL (encMsg 1) 1 (ro36o (decL decMsg (encL (encMsg 1) 1 l)))))
   id view))))) ∧
   ((VLe
   (encCertsResult 1
   (ro49o f
   (decL decMsg (encL (encMsg 1) 1 (ro36o (decL decMsg (encL (encMsg 1) 1 l))))) id
   view))
   (encCertsResult 1
   (decCertsResult
   (encCertsResult 1
   (ro49o f
   (decL decMsg (encL (encMsg 1) 1 (ro36o (decL decMsg (encL (encMsg 1) 1 l)))))
   id view))))) ∧
   (pr51
   (decCertsResult
   (encCertsResult 1
   (ro50o f
   (decL decMsg (encL (encMsg 1) 1 (ro36o (decL decMsg (encL (encMsg 1) 1 l))))) id
   view)))
   (decCertsResult
   (encCertsResult 1
   (ro49o f
   (decL decMsg (encL (encMsg 1) 1 (ro36o (decL decMsg (encL (encMsg 1) 1 l))))) id
   view)))))) ∧
   ((((!decide
   (decCertsResult
   (encCertsResult 1
   (ro50o f
   (decL decMsg
   (encL (encMsg 1) 1 (ro36o (decL decMsg (encL (encMsg 1) 1 l)))))
   id view)) =
   decCertsResult
   (encCertsResult 1
   (ro49o f
   (decL decMsg
   (encL (encMsg 1) 1 (ro36o (decL decMsg (encL (encMsg 1) 1 l)))))
   id view)))) =
   true) →
   (VLe (V.bool false) (V.bool true))) ∧
   (((!decide
   (decCertsResult
   (encCertsResult 1
   (ro50o f
   (decL decMsg
   (encL (encMsg 1) 1 (ro36o (decL decMsg (encL (encMsg 1) 1 l)))))
   id view)) =
   decCertsResult
   (encCertsResult 1
   (ro49o f
   (decL decMsg
   (encL (encMsg 1) 1 (ro36o (decL decMsg (encL (encMsg 1) 1 l)))))
   id view)))) =
   false) →
   (((VLe (encL (encMsg 1) 1 l)
   (encL (encMsg 1) 1 (decL decMsg (encL (encMsg 1) 1 l)))) ∧
   (pr36o (decL decMsg (encL (encMsg 1) 1 l)))) ∧
   (((VLe (encL (encMsg 1) 1 (ro36o (decL decMsg (encL (encMsg 1) 1 l))))
   (encL (encMsg 1) 1
   (decL decMsg (encL (encMsg 1) 1 (ro36o (decL decMsg (encL (encMsg 1) 1 l))))))) ∧
   ((VLe (encL (encMsg 1) 1 (ro36o (decL decMsg (encL (encMsg 1) 1 l))))
   (encL (encMsg 1) 1
   (decL decMsg (encL (encMsg 1) 1 (ro36o (decL decMsg (encL (encMsg 1) 1 l))))))) ∧
   (pr38 (decL decMsg (encL (encMsg 1) 1 (ro36o (decL decMsg (encL (encMsg 1) 1 l)))))
   (decL decMsg (encL (encMsg 1) 1 (ro36o (decL decMsg (encL (encMsg 1) 1 l)))))))) ∧
   ((((!decide
   (decL decMsg (encL (encMsg 1) 1 (ro36o (decL decMsg (encL (encMsg 1) 1 l)))) =
   decL decMsg (encL (encMsg 1) 1 (ro36o (decL decMsg (encL (encMsg 1) 1 l)))))) =
   true) →
   (VLe (V.bool false) (V.bool true))) ∧
   (((!decide
   (decL decMsg (encL (encMsg 1) 1 (ro36o (decL decMsg (encL (encMsg 1) 1 l)))) =
   decL decMsg (encL (encMsg 1) 1 (ro36o (decL decMsg (encL (encMsg 1) 1 l)))))) =
   false) →
   (((VLe (encL (encMsg 1) 1 (ro36o (decL decMsg (encL (encMsg 1) 1 l))))
   (encL (encMsg 1) 1
   (decL decMsg (encL (encMsg 1) 1 (ro36o (decL decMsg (encL (encMsg 1) 1 l))))))) ∧
   (mp46 (decL decMsg (encL (encMsg 1) 1 (ro36o (decL decMsg (encL (encMsg 1) 1 l)))))
   (1 : Int))) ∧
   ((tq (!decide
   ((1 : Int) +
   cntL
   (decL decMsg (encL (encMsg 1) 1 (ro36o (decL decMsg (encL (encMsg 1) 1 l)))))
   (List.length
   (decL decMsg
   (encL (encMsg 1) 1 (ro36o (decL decMsg (encL (encMsg 1) 1 l)))))) <
   (0 : Int)))) ∧
   ((tq (!decide
   ((1 : Int) +
   cntL
   (decL decMsg (encL (encMsg 1) 1 (ro36o (decL decMsg (encL (encMsg 1) 1 l)))))
   (List.length
   (decL decMsg
   (encL (encMsg 1) 1 (ro36o (decL decMsg (encL (encMsg 1) 1 l)))))) <
   (0 : Int)))) ∧
   ((((!decide
   ((1 : Int) +
   cntL
   (decL decMsg
   (encL (encMsg 1) 1 (ro36o (decL decMsg (encL (encMsg 1) 1 l)))))
   (List.length
   (decL decMsg
   (encL (encMsg 1) 1 (ro36o (decL decMsg (encL (encMsg 1) 1 l)))))) <
   (0 : Int))) =
   true) →
   ((VLe
   (encCertsResult 1
   (ro50o f
   (decL decMsg (encL (encMsg 1) 1 (ro36o (decL decMsg (encL (encMsg 1) 1 l))))) id
   view))
   (encCertsResult 1
   (decCertsResult
   (encCertsResult 1
   (ro50o f
   (decL decMsg (encL (encMsg 1) 1 (ro36o (decL decMsg (encL (encMsg 1) 1 l)))))
   id view))))) ∧
   ((VLe
   (encCertsResult 1
   (ro49o f
   (decL decMsg (encL (encMsg 1) 1 (ro36o (decL decMsg (encL (encMsg 1) 1 l))))) id
   view))
   (encCertsResult 1
   (decCertsResult
   (encCertsResult 1
   (ro49o f
   (decL decMsg (encL (encMsg 1) 1 (ro36o (decL decMsg (encL (encMsg 1) 1 l)))))
   id view))))) ∧
   (pr51
   (decCertsResult
   (encCertsResult 1
   (ro50o f
   (decL decMsg (encL (encMsg 1) 1 (ro36o (decL decMsg (encL (encMsg 1) 1 l))))) id
   view)))
   (decCertsResult
   (encCertsResult 1
   (ro49o f
   (decL decMsg (encL (encMsg 1) 1 (ro36o (decL decMsg (encL (encMsg 1) 1 l))))) id
   view))))))) ∧
   ((tq (!decide
   ((1 : Int) +
   cntL
   (decL decMsg (encL (encMsg 1) 1 (ro36o (decL decMsg (encL (encMsg 1) 1 l)))))
   (List.length
   (decL decMsg
   (encL (encMsg 1) 1 (ro36o (decL decMsg (encL (encMsg 1) 1 l)))))) <
   (0 : Int)))) ∧
   (((true = true) →
   ((decide
   ((1 : Int) +
   cntL
   (decL decMsg (encL (encMsg 1) 1 (ro36o (decL decMsg (encL (encMsg 1) 1 l)))))
   (List.length
   (decL decMsg
   (encL (encMsg 1) 1 (ro36o (decL decMsg (encL (encMsg 1) 1 l)))))) <
   (0 : Int)) =
   false) →
   ((!decide
   ((1 : Int) +
   cntL
   (decL decMsg
   (encL (encMsg 1) 1 (ro36o (decL decMsg (encL (encMsg 1) 1 l)))))
   (List.length
   (decL decMsg
   (encL (encMsg 1) 1 (ro36o (decL decMsg (encL (encMsg 1) 1 l)))))) <
   (0 : Int))) =
   true))) ∧
   (∀ b : Bool,
   ((b =
   bif
   decide
   ((1 : Int) +
   cntL
   (decL decMsg
   (encL (encMsg 1) 1 (ro36o (decL decMsg (encL (encMsg 1) 1 l)))))
   (List.length
   (decL decMsg
   (encL (encMsg 1) 1 (ro36o (decL decMsg (encL (encMsg 1) 1 l)))))) <
   (0 : Int)) then
   true
   else
   !decide
   (decCertsResult
   (encCertsResult 1
   (ro50o f
   (decL decMsg
   (encL (encMsg 1) 1 (ro36o (decL decMsg (encL (encMsg 1) 1 l)))))
   id view)) =
   decCertsResult
   (encCertsResult 1
   (ro49o f
   (decL decMsg
   (encL (encMsg 1) 1 (ro36o (decL decMsg (encL (encMsg 1) 1 l)))))
   id view)))) →
   (((b = true) →
   (VLe (V.bool false) (V.bool true))) ∧
   ((b = false) →
   ((((0 = 0) ∧
   ((3 = 3) ∧
   ((100 = 100) ∧
   ((List.length
   (CertsResult.certs
   (ro50o f
   (decL decMsg (encL (encMsg 1) 1 (ro36o (decL decMsg (encL (encMsg 1) 1 l))))) id
   view)) =
   List.length
   (CertsResult.certs
   (ro50o f
   (decL decMsg (encL (encMsg 1) 1 (ro36o (decL decMsg (encL (encMsg 1) 1 l))))) id
   view))) ∧
   (∃ y : List Cert, ((List.length y =
   List.length
   (CertsResult.certs
   (ro50o f
   (decL decMsg (encL (encMsg 1) 1 (ro36o (decL decMsg (encL (encMsg 1) 1 l))))) id
   view))) ∧
   (∀ i : Nat,
   ((i <
   List.length
   (CertsResult.certs
   (ro50o f
   (decL decMsg (encL (encMsg 1) 1 (ro36o (decL decMsg (encL (encMsg 1) 1 l))))) id
   view))) →
   (ELe
   (encCert 1
   (List.getD
   (CertsResult.certs
   (ro50o f
   (decL decMsg (encL (encMsg 1) 1 (ro36o (decL decMsg (encL (encMsg 1) 1 l)))))
   id view))
   i default))
   (encCert 1 (List.getD y i default))))))))))) ∧
   (pr52
   (List.length
   (CertsResult.certs
   (ro50o f
   (decL decMsg (encL (encMsg 1) 1 (ro36o (decL decMsg (encL (encMsg 1) 1 l))))) id
   view)))
   (1 : Int))) ∧
   ((List.length
   (CertsResult.certs
   (ro50o f
   (decL decMsg (encL (encMsg 1) 1 (ro36o (decL decMsg (encL (encMsg 1) 1 l))))) id
   view)) =
   List.length
   (CertsResult.certs
   (ro50o f
   (decL decMsg (encL (encMsg 1) 1 (ro36o (decL decMsg (encL (encMsg 1) 1 l))))) id
   view))) ∧
   (((VLe
   (V.agg
   [V.int IntKind.i64
   (CertsResult.code
   (ro50o f
   (decL decMsg
   (encL (encMsg 1) 1 (ro36o (decL decMsg (encL (encMsg 1) 1 l)))))
   id view)),
   V.sl
   (List.length
   (CertsResult.certs
   (ro50o f
   (decL decMsg
   (encL (encMsg 1) 1 (ro36o (decL decMsg (encL (encMsg 1) 1 l)))))
   id view)))
   (gL (encCert 1)
   (markC (1 : Int)
   (List.length
   (CertsResult.certs
   (ro50o f
   (decL decMsg
   (encL (encMsg 1) 1 (ro36o (decL decMsg (encL (encMsg 1) 1 l)))))
   id view)))))
   1])
   (encCertsResult 1
   (decCertsResult
   (V.agg
   [V.int IntKind.i64
   (CertsResult.code
   (ro50o f
   (decL decMsg
   (encL (encMsg 1) 1 (ro36o (decL decMsg (encL (encMsg 1) 1 l)))))
   id view)),
   V.sl
   (List.length
   (CertsResult.certs
   (ro50o f
   (decL decMsg
   (encL (encMsg 1) 1 (ro36o (decL decMsg (encL (encMsg 1) 1 l)))))
   id view)))
   (gL (encCert 1)
   (markC (1 : Int)
   (List.length
   (CertsResult.certs
   (ro50o f
   (decL decMsg
   (encL (encMsg 1) 1 (ro36o (decL decMsg (encL (encMsg 1) 1 l)))))
   id view)))))
   1])))) ∧
   (pr53
   (decCertsResult
   (V.agg
   [V.int IntKind.i64
   (CertsResult.code
   (ro50o f
   (decL decMsg
   (encL (encMsg 1) 1 (ro36o (decL decMsg (encL (encMsg 1) 1 l)))))
   id view)),
   V.sl
   (List.length
   (CertsResult.certs
   (ro50o f
   (decL decMsg
   (encL (encMsg 1) 1 (ro36o (decL decMsg (encL (encMsg 1) 1 l)))))
   id view)))
   (gL (encCert 1)
   (markC (1 : Int)
   (List.length
   (CertsResult.certs
   (ro50o f
   (decL decMsg
   (encL (encMsg 1) 1 (ro36o (decL decMsg (encL (encMsg 1) 1 l)))))
   id view)))))
   1]))
   (1 : Int))) ∧
   (((decide
   (heldC
   (CertsResult.certs
   (decCertsResult
   (V.agg
   [V.int IntKind.i64
   (CertsResult.code
   (ro50o f
   (decL decMsg
   (encL (encMsg 1) 1 (ro36o (decL decMsg (encL (encMsg 1) 1 l)))))
   id view)),
   V.sl
   (List.length
   (CertsResult.certs
   (ro50o f
   (decL decMsg
   (encL (encMsg 1) 1
   (ro36o (decL decMsg (encL (encMsg 1) 1 l)))))
   id view)))
   (gL (encCert 1)
   (markC (1 : Int)
   (List.length
   (CertsResult.certs
   (ro50o f
   (decL decMsg
   (encL (encMsg 1) 1
   (ro36o (decL decMsg (encL (encMsg 1) 1 l)))))
   id view)))))
   1])))
   (1 : Int) <
   (0 : Int)) =
   true) →
   (VLe (V.bool false) (V.bool true))) ∧
   ((decide
   (heldC
   (CertsResult.certs
   (decCertsResult
   (V.agg
   [V.int IntKind.i64
   (CertsResult.code
   (ro50o f
   (decL decMsg
   (encL (encMsg 1) 1 (ro36o (decL decMsg (encL (encMsg 1) 1 l)))))
   id view)),
   V.sl
   (List.length
   (CertsResult.certs
   (ro50o f
   (decL decMsg
   (encL (encMsg 1) 1
   (ro36o (decL decMsg (encL (encMsg 1) 1 l)))))
   id view)))
   (gL (encCert 1)
   (markC (1 : Int)
   (List.length
   (CertsResult.certs
   (ro50o f
   (decL decMsg
   (encL (encMsg 1) 1
   (ro36o (decL decMsg (encL (encMsg 1) 1 l)))))
   id view)))))
   1])))
   (1 : Int) <
   (0 : Int)) =
   false) →
   ((((heldC
   (CertsResult.certs
   (decCertsResult
   (V.agg
   [V.int IntKind.i64
   (CertsResult.code
   (ro50o f
   (decL decMsg
   (encL (encMsg 1) 1 (ro36o (decL decMsg (encL (encMsg 1) 1 l)))))
   id view)),
   V.sl
   (List.length
   (CertsResult.certs
   (ro50o f
   (decL decMsg
   (encL (encMsg 1) 1 (ro36o (decL decMsg (encL (encMsg 1) 1 l)))))
   id view)))
   (gL (encCert 1)
   (markC (1 : Int)
   (List.length
   (CertsResult.certs
   (ro50o f
   (decL decMsg
   (encL (encMsg 1) 1
   (ro36o (decL decMsg (encL (encMsg 1) 1 l)))))
   id view)))))
   1])))
   (1 : Int) !=
   (1 : Int) +
   (3 : Int) *
   (↑(List.length
   (CertsResult.certs
   (ro50o f
   (decL decMsg
   (encL (encMsg 1) 1 (ro36o (decL decMsg (encL (encMsg 1) 1 l)))))
   id view))) :
   Int)) =
   true) →
   (VLe (V.bool false) (V.bool true))) ∧
   (((heldC
   (CertsResult.certs
   (decCertsResult
   (V.agg
   [V.int IntKind.i64
   (CertsResult.code
   (ro50o f
   (decL decMsg
   (encL (encMsg 1) 1 (ro36o (decL decMsg (encL (encMsg 1) 1 l)))))
   id view)),
   V.sl
   (List.length
   (CertsResult.certs
   (ro50o f
   (decL decMsg
   (encL (encMsg 1) 1 (ro36o (decL decMsg (encL (encMsg 1) 1 l)))))
   id view)))
   (gL (encCert 1)
   (markC (1 : Int)
   (List.length
   (CertsResult.certs
   (ro50o f
   (decL decMsg
   (encL (encMsg 1) 1
   (ro36o (decL decMsg (encL (encMsg 1) 1 l)))))
   id view)))))
   1])))
   (1 : Int) !=
   (1 : Int) +
   (3 : Int) *
   (↑(List.length
   (CertsResult.certs
   (ro50o f
   (decL decMsg
   (encL (encMsg 1) 1 (ro36o (decL decMsg (encL (encMsg 1) 1 l)))))
   id view))) :
   Int)) =
   false) →
   (((VLe (encL (encMsg 1) 1 l)
   (encL (encMsg 1) 1 (decL decMsg (encL (encMsg 1) 1 l)))) ∧
   (pr36o (decL decMsg (encL (encMsg 1) 1 l)))) ∧
   (((VLe (encL (encMsg 1) 1 (ro36o (decL decMsg (encL (encMsg 1) 1 l))))
   (encL (encMsg 1) 1
   (decL decMsg (encL (encMsg 1) 1 (ro36o (decL decMsg (encL (encMsg 1) 1 l))))))) ∧
   (pr50o f (decL decMsg (encL (encMsg 1) 1 (ro36o (decL decMsg (encL (encMsg 1) 1 l))))) id
   view)) ∧
   (((VLe
   (encCertsResult 1
   (ro50o f
   (decL decMsg (encL (encMsg 1) 1 (ro36o (decL decMsg (encL (encMsg 1) 1 l))))) id
   view))
   (encCertsResult 1
   (decCertsResult
   (encCertsResult 1
   (ro50o f
   (decL decMsg (encL (encMsg 1) 1 (ro36o (decL decMsg (encL (encMsg 1) 1 l)))))
   id view))))) ∧
   ((VLe
   (encCertsResult 1
   (ro49o f
   (decL decMsg (encL (encMsg 1) 1 (ro36o (decL decMsg (encL (encMsg 1) 1 l))))) id
   view))
   (encCertsResult 1
   (decCertsResult
   (encCertsResult 1
   (ro49o f
   (decL decMsg (encL (encMsg 1) 1 (ro36o (decL decMsg (encL (encMsg 1) 1 l)))))
   id view))))) ∧
   (pr51
   (decCertsResult
   (encCertsResult 1
   (ro50o f
   (decL decMsg (encL (encMsg 1) 1 (ro36o (decL decMsg (encL (encMsg 1) 1 l))))) id
   view)))
   (decCertsResult
   (encCertsResult 1
   (ro49o f
   (decL decMsg (encL (encMsg 1) 1 (ro36o (decL decMsg (encL (encMsg 1) 1 l))))) id
   view)))))) ∧
   ((((!decide
   (decCertsResult
   (encCertsResult 1
   (ro50o f
   (decL decMsg
   (encL (encMsg 1) 1 (ro36o (decL decMsg (encL (encMsg 1) 1 l)))))
   id view)) =
   decCertsResult
   (encCertsResult 1
   (ro49o f
   (decL decMsg
   (encL (encMsg 1) 1 (ro36o (decL decMsg (encL (encMsg 1) 1 l)))))
   id view)))) =
   true) →
   (VLe (V.bool false) (V.bool true))) ∧
   (((!decide
   (decCertsResult
   (encCertsResult 1
   (ro50o f
   (decL decMsg
   (encL (encMsg 1) 1 (ro36o (decL decMsg (encL (encMsg 1) 1 l)))))
   id view)) =
   decCertsResult
   (encCertsResult 1
   (ro49o f
   (decL decMsg
   (encL (encMsg 1) 1 (ro36o (decL decMsg (encL (encMsg 1) 1 l)))))
   id view)))) =
   false) →
   (((VLe
   (V.agg
   [V.int IntKind.i64
   (CertsResult.code
   (ro50o f
   (decL decMsg
   (encL (encMsg 1) 1 (ro36o (decL decMsg (encL (encMsg 1) 1 l)))))
   id view)),
   V.sl
   (List.length
   (CertsResult.certs
   (ro50o f
   (decL decMsg
   (encL (encMsg 1) 1 (ro36o (decL decMsg (encL (encMsg 1) 1 l)))))
   id view)))
   (gL (encCert 1)
   (markC (1 : Int)
   (List.length
   (CertsResult.certs
   (ro50o f
   (decL decMsg
   (encL (encMsg 1) 1 (ro36o (decL decMsg (encL (encMsg 1) 1 l)))))
   id view)))))
   1])
   (encCertsResult 1
   (decCertsResult
   (V.agg
   [V.int IntKind.i64
   (CertsResult.code
   (ro50o f
   (decL decMsg
   (encL (encMsg 1) 1 (ro36o (decL decMsg (encL (encMsg 1) 1 l)))))
   id view)),
   V.sl
   (List.length
   (CertsResult.certs
   (ro50o f
   (decL decMsg
   (encL (encMsg 1) 1 (ro36o (decL decMsg (encL (encMsg 1) 1 l)))))
   id view)))
   (gL (encCert 1)
   (markC (1 : Int)
   (List.length
   (CertsResult.certs
   (ro50o f
   (decL decMsg
   (encL (encMsg 1) 1 (ro36o (decL decMsg (encL (encMsg 1) 1 l)))))
   id view)))))
   1])))) ∧
   (pr53
   (decCertsResult
   (V.agg
   [V.int IntKind.i64
   (CertsResult.code
   (ro50o f
   (decL decMsg
   (encL (encMsg 1) 1 (ro36o (decL decMsg (encL (encMsg 1) 1 l)))))
   id view)),
   V.sl
   (List.length
   (CertsResult.certs
   (ro50o f
   (decL decMsg
   (encL (encMsg 1) 1 (ro36o (decL decMsg (encL (encMsg 1) 1 l)))))
   id view)))
   (gL (encCert 1)
   (markC (1 : Int)
   (List.length
   (CertsResult.certs
   (ro50o f
   (decL decMsg
   (encL (encMsg 1) 1 (ro36o (decL decMsg (encL (encMsg 1) 1 l)))))
   id view)))))
   1]))
   (1 : Int))) ∧
   (((decide
   (heldC
   (CertsResult.certs
   (decCertsResult
   (V.agg
   [V.int IntKind.i64
   (CertsResult.code
   (ro50o f
   (decL decMsg
   (encL (encMsg 1) 1 (ro36o (decL decMsg (encL (encMsg 1) 1 l)))))
   id view)),
   V.sl
   (List.length
   (CertsResult.certs
   (ro50o f
   (decL decMsg
   (encL (encMsg 1) 1
   (ro36o (decL decMsg (encL (encMsg 1) 1 l)))))
   id view)))
   (gL (encCert 1)
   (markC (1 : Int)
   (List.length
   (CertsResult.certs
   (ro50o f
   (decL decMsg
   (encL (encMsg 1) 1
   (ro36o (decL decMsg (encL (encMsg 1) 1 l)))))
   id view)))))
   1])))
   (1 : Int) <
   (0 : Int)) =
   true) →
   (VLe (V.bool false) (V.bool true))) ∧
   ((decide
   (heldC
   (CertsResult.certs
   (decCertsResult
   (V.agg
   [V.int IntKind.i64
   (CertsResult.code
   (ro50o f
   (decL decMsg
   (encL (encMsg 1) 1 (ro36o (decL decMsg (encL (encMsg 1) 1 l)))))
   id view)),
   V.sl
   (List.length
   (CertsResult.certs
   (ro50o f
   (decL decMsg
   (encL (encMsg 1) 1
   (ro36o (decL decMsg (encL (encMsg 1) 1 l)))))
   id view)))
   (gL (encCert 1)
   (markC (1 : Int)
   (List.length
   (CertsResult.certs
   (ro50o f
   (decL decMsg
   (encL (encMsg 1) 1
   (ro36o (decL decMsg (encL (encMsg 1) 1 l)))))
   id view)))))
   1])))
   (1 : Int) <
   (0 : Int)) =
   false) →
   ((((heldC
   (CertsResult.certs
   (decCertsResult
   (V.agg
   [V.int IntKind.i64
   (CertsResult.code
   (ro50o f
   (decL decMsg
   (encL (encMsg 1) 1 (ro36o (decL decMsg (encL (encMsg 1) 1 l)))))
   id view)),
   V.sl
   (List.length
   (CertsResult.certs
   (ro50o f
   (decL decMsg
   (encL (encMsg 1) 1 (ro36o (decL decMsg (encL (encMsg 1) 1 l)))))
   id view)))
   (gL (encCert 1)
   (markC (1 : Int)
   (List.length
   (CertsResult.certs
   (ro50o f
   (decL decMsg
   (encL (encMsg 1) 1
   (ro36o (decL decMsg (encL (encMsg 1) 1 l)))))
   id view)))))
   1])))
   (1 : Int) !=
   (1 : Int) +
   (3 : Int) *
   (↑(List.length
   (CertsResult.certs
   (ro50o f
   (decL decMsg
   (encL (encMsg 1) 1 (ro36o (decL decMsg (encL (encMsg 1) 1 l)))))
   id view))) :
   Int)) =
   true) →
   (VLe (V.bool false) (V.bool true))) ∧
   (((heldC
   (CertsResult.certs
   (decCertsResult
   (V.agg
   [V.int IntKind.i64
   (CertsResult.code
   (ro50o f
   (decL decMsg
   (encL (encMsg 1) 1 (ro36o (decL decMsg (encL (encMsg 1) 1 l)))))
   id view)),
   V.sl
   (List.length
   (CertsResult.certs
   (ro50o f
   (decL decMsg
   (encL (encMsg 1) 1 (ro36o (decL decMsg (encL (encMsg 1) 1 l)))))
   id view)))
   (gL (encCert 1)
   (markC (1 : Int)
   (List.length
   (CertsResult.certs
   (ro50o f
   (decL decMsg
   (encL (encMsg 1) 1
   (ro36o (decL decMsg (encL (encMsg 1) 1 l)))))
   id view)))))
   1])))
   (1 : Int) !=
   (1 : Int) +
   (3 : Int) *
   (↑(List.length
   (CertsResult.certs
   (ro50o f
   (decL decMsg
   (encL (encMsg 1) 1 (ro36o (decL decMsg (encL (encMsg 1) 1 l)))))
   id view))) :
   Int)) =
   false) →
   (VLe (V.bool true) (V.bool true))))))))))))))))))))))))))))))))))))))))))) := by
    have hm : bdL l := hpre.2.1
    have f1 := @szMsgSF_bd l 1048576
    have f3 := @szMsgSF_le l 1048576 (by omega)
    obtain ⟨hl, hb⟩ := hm
    have hv : ∀ v, VLe v v := VLe.refl
    simp only [decL_Msg]
    refine ⟨⟨VLe.refl _, by omega, by unfold most; omega, hl, hb⟩, fun h => VLe.refl _, fun h => ?_⟩
    have h0 := of_decide_eq_false h
    obtain ⟨g1, g2⟩ := f1 (by omega)
    have p1 : pr36o l := ⟨by unfold most; omega, fun x hx => ⟨by have := g2 x hx; unfold most; omega, by have := g2 x hx; unfold most; omega⟩⟩
    have p2 : pr38 l l := ⟨hl, fun x hx y => hb x hx⟩
    have c1 : cntL l l.length ≤ 1048576 * 4194309 := by
      have := cntL_le (l := l) (n := 1048576) (by omega) fun x hx => by have := g2 x hx; omega
      have h2 : (l.length : Int) * (5 + 4 * (1048576 : Nat)) ≤ 1048576 * (5 + 4 * (1048576 : Nat)) := Int.mul_le_mul_of_nonneg_right (by omega) (by omega)
      omega
    have c2 := cntL_nonneg l l.length
    have p3 : mp46 l 1 := ⟨by omega, by omega, by omega⟩
    have q1 : decide (1 + cntL l l.length < 0) = false := by simp; omega
    have hn : (certsOfF f l id view).certs.length ≤ 240 := certsOfF_len f l id view
    simp only [decL_Msg, dec_encCertsResult, ro36o, ro49o, ro50o, dec_markCerts, heldC_mark, markC_len, q1]
    generalize certsOfF f l id view = W at *
    have p4 : pr51 W W := by show W.certs.length ≤ maxLen; unfold maxLen; omega
    have p5 : pr52 W.certs.length 1 := ⟨by omega, by omega⟩
    have p6 : pr53 ⟨W.code, markC 1 W.certs.length⟩ 1 := ⟨by omega, by simp; omega⟩
    have q2 : decide (1 + 3 * (W.certs.length : Int) < 0) = false := by simp; omega
    simp [hv, p1, p2, p3, p4, p5, p6, q2]
    exact ⟨⟨hl, hb⟩, ⟨hl, hb⟩, q1, fun _ => ⟨⟨W.certs, rfl, fun _ _ => ELe.refl _⟩, vle_markCerts _ _ _, ⟨hl, hb⟩, vle_markCerts _ _ _⟩⟩
  exact Eq.mp (by kernel_rfl) key
theorem so10 : Sound Try.prog 10 (lawD Q10) := by
  refine sound_of_body hmix (pol := 0) Try.func10 rfl (by kernel_rfl) fun args bin ob r bout hDe hob => ?_
  unfold lawD at hDe
  split at hDe
  · cases hDe
    obtain ⟨f, l, id, view, hle, hpre⟩ := hob
    have hlen : args.length = 4 := hle.1.symm
    exact ⟨rfl, rfl, by rw [hlen]; exact Nat.le_of_ble_eq_true (by kernel_rfl), cx10 f l id view, Eq.mp (by kernel_rfl) htt, Eq.mp (by kernel_rfl) da10, Eq.mp (by kernel_rfl) (soundAllM_cons sm46 (soundAllM_nil (P := Try.prog))), by kernel_rfl, _, hle, Eq.mp (by kernel_rfl) (bd10 f l id view hpre)⟩
  · cases hDe

end Go.Av
