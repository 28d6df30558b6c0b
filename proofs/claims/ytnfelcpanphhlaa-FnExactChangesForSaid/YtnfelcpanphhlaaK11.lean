/- The law on the first changes to a view. -/
import Derived.Test.YtnfelcpanphhlaaK10
namespace Go.Av
open Go.Proofs
set_option maxRecDepth 100000
set_option linter.unusedVariables false
set_option linter.unusedSimpArgs false


/-! ### laws.FnExactChangesFor -/
def pr20 (f : Int) (l : List Msg) (view : Int) : Prop := (Lit.int .i64 f).wf = true ∧ bdL l ∧ (Lit.int .i64 view).wf = true
noncomputable def rs20 (f : Int) (l : List Msg) (view : Int) : V := .bool (true)
def Q20 (vs : List V) : Prop := ∃ (f : Int) (l : List Msg) (view : Int), ArgsLe vs [.int .i64 (f), encL (encMsg 1) 1 (l), .int .i64 (view)] ∧ pr20 f l view
noncomputable def D20 : Nat → Option (Bool × FSpec) := lk [(34, (false, sp34)), (36, (false, sp36o)), (38, (false, sp38)), (75, (false, sp75o)), (76, (false, sp76o)), (45, (false, sp45)), (47, (true, sp47)), (48, (false, sp48))]
theorem da20 : SoundAll Try.prog D20 := soundAll_cons so34 (soundAll_cons so36o (soundAll_cons so38 (soundAll_cons so75o (soundAll_cons so76o (soundAll_cons so45 (soundAll_cons so47 (soundAll_cons so48 (soundAll_nil))))))))
noncomputable def cx20 (f : Int) (l : List Msg) (view : Int) : Cx := ⟨tt, D20, Try.f20.ntmps, [0, 1, 2, 6, 7, 8, 9, 10, 11, 12, 13, 14, 19, 34, 39, 50, 58, 61, 70, 75, 78], [], [], fun _ => none, [13], (lk [(46, mm46)]), []⟩
theorem bd20 (f : Int) (l : List Msg) (view : Int) (hpre : pr20 f l view) : bodyP (cx20 f l view) Try.f20 0 [.int .i64 (f), encL (encMsg 1) 1 (l), .int .i64 (view)] (fun rr => VLe rr (rs20 f l view)) := by
  have key :
      (((VLe (encL (encMsg 1) 1 l)
   (encL (encMsg 1) 1 (decL decMsg (encL (encMsg 1) 1 l)))) ∧
   (pr34 (decL decMsg (encL (encMsg 1) 1 l)) (1048576 : Int))) ∧
   (((decide (szMsgSF (decL decMsg (encL (encMsg 1) 1 l)) (1048576 : Int) < (0 : Int)) = true) →
   (VLe (V.bool true) (V.bool true))) ∧
   ((decide (szMsgSF (decL decMsg (encL (encMsg 1) 1 l)) (1048576 : Int) < (0 : Int)) = false) →
   (((VLe (encL (encMsg 1) 1 l)
   (encL (encMsg 1) 1 (decL decMsg (encL (encMsg 1) 1 l)))) ∧
   (pr36o (decL decMsg (encL (encMsg 1) 1 l)))) ∧
   (((VLe (encL (encMsg 1) 1 (ro36o (decL decMsg (encL (encMsg 1) 1 l))))
   (encL (encMsg 1) 1
   (decL decMsg (encL (encMsg 1) 1 (ro36o (decL decMsg (encL (encMsg 1) 1 l))))))) ∧
   (pr75o f (decL decMsg (encL (encMsg 1) 1 (ro36o (decL decMsg (encL (encMsg 1) 1 l)))))
   view)) ∧
   (((VLe (encL (encMsg 1) 1 l)
   (encL (encMsg 1) 1 (decL decMsg (encL (encMsg 1) 1 l)))) ∧
   (pr36o (decL decMsg (encL (encMsg 1) 1 l)))) ∧
   (((VLe (encL (encMsg 1) 1 (ro36o (decL decMsg (encL (encMsg 1) 1 l))))
   (encL (encMsg 1) 1
   (decL decMsg (encL (encMsg 1) 1 (ro36o (decL decMsg (encL (encMsg 1) 1 l))))))) ∧
   (pr76o f (decL decMsg (encL (encMsg 1) 1 (ro36o (decL decMsg (encL (encMsg 1) 1 l)))))
   view)) ∧
   (((VLe
   (encIntsResult 1
   (ro76o f
   (decL decMsg (encL (encMsg 1) 1 (ro36o (decL decMsg (encL (encMsg 1) 1 l)))))
   view))
   (encIntsResult 1
   (decIntsResult
   (encIntsResult 1
   (ro76o f
   (decL decMsg (encL (encMsg 1) 1 (ro36o (decL decMsg (encL (encMsg 1) 1 l)))))
   view))))) ∧
   ((VLe
   (encIntsResult 1
   (ro75o f
   (decL decMsg (encL (encMsg 1) 1 (ro36o (decL decMsg (encL (encMsg 1) 1 l)))))
   view))
   (encIntsResult 1
   (decIntsResult
   (encIntsResult 1
   (ro75o f
   (decL decMsg (encL (encMsg 1) 1 (ro36o (decL decMsg (encL (encMsg 1) 1 l)))))
   view))))) ∧
   (pr45
   (decIntsResult
   (encIntsResult 1
   (ro76o f
   (decL decMsg (encL (encMsg 1) 1 (ro36o (decL decMsg (encL (encMsg 1) 1 l)))))
   view)))
   (decIntsResult
   (encIntsResult 1
   (ro75o f
   (decL decMsg (encL (encMsg 1) 1 (ro36o (decL decMsg (encL (encMsg 1) 1 l)))))
   view)))))) ∧
   ((((!decide
   (decIntsResult
   (encIntsResult 1
   (ro76o f
   (decL decMsg
   (encL (encMsg 1) 1 (ro36o (decL decMsg (encL (encMsg 1) 1 l)))))
   view)) =
   decIntsResult
   (encIntsResult 1
   (ro75o f
   (decL decMsg
   (encL (encMsg 1) 1 (ro36o (decL decMsg (encL (encMsg 1) 1 l)))))
   view)))) =
   true) →
   (VLe (V.bool false) (V.bool true))) ∧
   (((!decide
   (decIntsResult
   (encIntsResult 1
   (ro76o f
   (decL decMsg
   (encL (encMsg 1) 1 (ro36o (decL decMsg (encL (encMsg 1) 1 l)))))
   view)) =
   decIntsResult
   (encIntsResult 1
   (ro75o f
   (decL decMsg
   (encL (encMsg 1) 1 (ro36o (decL decMsg (encL (encMsg 1) 1 l)))))
   view)))) =
   false) →
   (((VLe (encL (encMsg 1) 1 l)
   (encL (encMsg 1) 1 (decL decMsg (encL (encMsg 1) 1 l)))) ∧
   (pr36o (decL decMsg (encL (encMsg 1) 1 l)))) ∧
   (((VLe (encL (encMsg 1) 1 (ro36o (decL decMsg (encL (encMsg 1) 1 l))))
   (encL (encMsg 1) 1
   (decL decMsg (encL (encMsg 1) 1 (ro36o (decL decMsg (encL (encMsg 1) 1 l))))))) ∧
   ((VLe (encL (encMsg 1) 1 (ro36o (decL decMsg (encL (encMsg 1) 1 l))))
   (encL (encMsg 1) 1
   (decL decMsg (encL (encMsg 1) 1 (ro36o (decL decMsg (encL (encMsg 1) 1 l))))))) ∧
   (pr38 (decL decMsg (encL (encMsg 1) 1 (ro36o (decL decMsg (encL (encMsg 1) 1 l)))))
   (decL decMsg (encL (encMsg 1) 1 (ro36o (decL decMsg (encL (encMsg 1) 1 l)))))))) ∧
   ((((!decide
   (decL decMsg (encL (encMsg 1) 1 (ro36o (decL decMsg (encL (encMsg 1) 1 l)))) =
   decL decMsg (encL (encMsg 1) 1 (ro36o (decL decMsg (encL (encMsg 1) 1 l)))))) =
   true) →
   (VLe (V.bool false) (V.bool true))) ∧
   (((!decide
   (decL decMsg (encL (encMsg 1) 1 (ro36o (decL decMsg (encL (encMsg 1) 1 l)))) =
   decL decMsg (encL (encMsg 1) 1 (ro36o (decL decMsg (encL (encMsg 1) 1 l)))))) =
   false) →
   (((VLe (encL (encMsg 1) 1 (ro36o (decL decMsg (encL (encMsg 1) 1 l))))
   (encL (encMsg 1) 1
   (decL decMsg (encL (encMsg 1) 1 (ro36o (decL decMsg (encL (encMsg 1) 1 l))))))) ∧
   (mp46 (decL decMsg (encL (encMsg 1) 1 (ro36o (decL decMsg (encL (encMsg 1) 1 l)))))
   (1 : Int))) ∧
   ((tq (!decide
   ((1 : Int) +
   cntL
   (decL decMsg (encL (encMsg 1) 1 (ro36o (decL decMsg (encL (encMsg 1) 1 l)))))
   (List.length
   (decL decMsg
   (encL (encMsg 1) 1 (ro36o (decL decMsg (encL (encMsg 1) 1 l)))))) <
   (0 : Int)))) ∧
   ((tq (!decide
   ((1 : Int) +
   cntL
   (decL decMsg (encL (encMsg 1) 1 (ro36o (decL decMsg (encL (encMsg 1) 1 l)))))
   (List.length
   (decL decMsg
   (encL (encMsg 1) 1 (ro36o (decL decMsg (encL (encMsg 1) 1 l)))))) <
   (0 : Int)))) ∧
   ((((!decide
   ((1 : Int) +
   cntL
   (decL decMsg
   (encL (encMsg 1) 1 (ro36o (decL decMsg (encL (encMsg 1) 1 l)))))
   (List.length
   (decL decMsg
   (encL (encMsg 1) 1 (ro36o (decL decMsg (encL (encMsg 1) 1 l)))))) <
   (0 : Int))) =
   true) →
   ((VLe
   (encIntsResult 1
   (ro76o f
   (decL decMsg (encL (encMsg 1) 1 (ro36o (decL decMsg (encL (encMsg 1) 1 l)))))
   view))
   (encIntsResult 1
   (decIntsResult
   (encIntsResult 1
   (ro76o f
   (decL decMsg (encL (encMsg 1) 1 (ro36o (decL decMsg (encL (encMsg 1) 1 l)))))
   view))))) ∧
   ((VLe
   (encIntsResult 1
   (ro75o f
   (decL decMsg (encL (encMsg 1) 1 (ro36o (decL decMsg (encL (encMsg 1) 1 l)))))
   view))
   (encIntsResult 1
   (decIntsResult
   (encIntsResult 1
   (ro75o f
   (decL decMsg (encL (encMsg 1) 1 (ro36o (decL decMsg (encL (encMsg 1) 1 l)))))
   view))))) ∧
   (pr45
   (decIntsResult
   (encIntsResult 1
   (ro76o f
   (decL decMsg (encL (encMsg 1) 1 (ro36o (decL decMsg (encL (encMsg 1) 1 l)))))
   view)))
   (decIntsResult
   (encIntsResult 1
   (ro75o f
   (decL decMsg (encL (encMsg 1) 1 (ro36o (decL decMsg (encL (encMsg 1) 1 l)))))
   view))))))) ∧
   ((tq (!decide
   ((1 : Int) +
   cntL
   (decL decMsg (encL (encMsg 1) 1 (ro36o (decL decMsg (encL (encMsg 1) 1 l)))))
   (List.length
   (decL decMsg
   (encL (encMsg 1) 1 (ro36o (decL decMsg (encL (encMsg 1) 1 l)))))) <
   (0 : Int)))) ∧
   (((true = true) →
   ((decide
   ((1 : Int) +
   cntL
   (decL decMsg (encL (encMsg 1) 1 (ro36o (decL decMsg (encL (encMsg 1) 1 l)))))
   (List.length
   (decL decMsg
   (encL (encMsg 1) 1 (ro36o (decL decMsg (encL (encMsg 1) 1 l)))))) <
   (0 : Int)) =
   false) →
   ((!decide
   ((1 : Int) +
   cntL
   (decL decMsg
   (encL (encMsg 1) 1 (ro36o (decL decMsg (encL (encMsg 1) 1 l)))))
   (List.length
   (decL decMsg
   (encL (encMsg 1) 1 (ro36o (decL decMsg (encL (encMsg 1) 1 l)))))) <
   (0 : Int))) =
   true))) ∧
   (∀ b : Bool,
   ((b =
   bif
   decide
   ((1 : Int) +
   cntL
   (decL decMsg
   (encL (encMsg 1) 1 (ro36o (decL decMsg (encL (encMsg 1) 1 l)))))
   (List.length
   (decL decMsg
   (encL (encMsg 1) 1 (ro36o (decL decMsg (encL (encMsg 1) 1 l)))))) <
   (0 : Int)) then
   true
   else
   !decide
   (decIntsResult
   (encIntsResult 1
   (ro76o f
   (decL decMsg
   (encL (encMsg 1) 1 (ro36o (decL decMsg (encL (encMsg 1) 1 l)))))
   view)) =
   decIntsResult
   (encIntsResult 1
   (ro75o f
   (decL decMsg
   (encL (encMsg 1) 1 (ro36o (decL decMsg (encL (encMsg 1) 1 l)))))
   view)))) →
   (((b = true) →
   (VLe (V.bool false) (V.bool true))) ∧
   ((b = false) →
   ((((0 = 0) ∧
   ((1 = 1) ∧
   ((100 = 100) ∧
   ((List.length
   (IntsResult.list
   (ro76o f
   (decL decMsg (encL (encMsg 1) 1 (ro36o (decL decMsg (encL (encMsg 1) 1 l)))))
   view)) =
   List.length
   (IntsResult.list
   (ro76o f
   (decL decMsg (encL (encMsg 1) 1 (ro36o (decL decMsg (encL (encMsg 1) 1 l)))))
   view))) ∧
   (∃ y : List Int, ((List.length y =
   List.length
   (IntsResult.list
   (ro76o f
   (decL decMsg (encL (encMsg 1) 1 (ro36o (decL decMsg (encL (encMsg 1) 1 l)))))
   view))) ∧
   (∀ i : Nat,
   ((i <
   List.length
   (IntsResult.list
   (ro76o f
   (decL decMsg (encL (encMsg 1) 1 (ro36o (decL decMsg (encL (encMsg 1) 1 l)))))
   view))) →
   (ELe
   (V.int IntKind.i64
   (List.getD
   (IntsResult.list
   (ro76o f
   (decL decMsg (encL (encMsg 1) 1 (ro36o (decL decMsg (encL (encMsg 1) 1 l)))))
   view))
   i default))
   (V.int IntKind.i64 (List.getD y i default))))))))))) ∧
   (pr47
   (List.length
   (IntsResult.list
   (ro76o f
   (decL decMsg (encL (encMsg 1) 1 (ro36o (decL decMsg (encL (encMsg 1) 1 l)))))
   view)))
   (1 : Int))) ∧
   ((List.length
   (IntsResult.list
   (ro76o f
   (decL decMsg (encL (encMsg 1) 1 (ro36o (decL decMsg (encL (encMsg 1) 1 l)))))
   view)) =
   List.length
   (IntsResult.list
   (ro76o f
   (decL decMsg (encL (encMsg 1) 1 (ro36o (decL decMsg (encL (encMsg 1) 1 l)))))
   view))) ∧
   (((VLe
   (V.agg
   [V.int IntKind.i64
   (IntsResult.code
   (ro76o f
   (decL decMsg
   (encL (encMsg 1) 1 (ro36o (decL decMsg (encL (encMsg 1) 1 l)))))
   view)),
   V.sl
   (List.length
   (IntsResult.list
   (ro76o f
   (decL decMsg
   (encL (encMsg 1) 1 (ro36o (decL decMsg (encL (encMsg 1) 1 l)))))
   view)))
   (gL encI
   (markI (1 : Int)
   (List.length
   (IntsResult.list
   (ro76o f
   (decL decMsg
   (encL (encMsg 1) 1 (ro36o (decL decMsg (encL (encMsg 1) 1 l)))))
   view)))))
   1])
   (encIntsResult 1
   (decIntsResult
   (V.agg
   [V.int IntKind.i64
   (IntsResult.code
   (ro76o f
   (decL decMsg
   (encL (encMsg 1) 1 (ro36o (decL decMsg (encL (encMsg 1) 1 l)))))
   view)),
   V.sl
   (List.length
   (IntsResult.list
   (ro76o f
   (decL decMsg
   (encL (encMsg 1) 1 (ro36o (decL decMsg (encL (encMsg 1) 1 l)))))
   view)))
   (gL encI
   (markI (1 : Int)
   (List.length
   (IntsResult.list
   (ro76o f
   (decL decMsg
   (encL (encMsg 1) 1 (ro36o (decL decMsg (encL (encMsg 1) 1 l)))))
   view)))))
   1])))) ∧
   (pr48
   (decIntsResult
   (V.agg
   [V.int IntKind.i64
   (IntsResult.code
   (ro76o f
   (decL decMsg
   (encL (encMsg 1) 1 (ro36o (decL decMsg (encL (encMsg 1) 1 l)))))
   view)),
   V.sl
   (List.length
   (IntsResult.list
   (ro76o f
   (decL decMsg
   (encL (encMsg 1) 1 (ro36o (decL decMsg (encL (encMsg 1) 1 l)))))
   view)))
   (gL encI
   (markI (1 : Int)
   (List.length
   (IntsResult.list
   (ro76o f
   (decL decMsg
   (encL (encMsg 1) 1 (ro36o (decL decMsg (encL (encMsg 1) 1 l)))))
   view)))))
   1]))
   (1 : Int))) ∧
   (((decide
   (heldI
   (IntsResult.list
   (decIntsResult
   (V.agg
   [V.int IntKind.i64
   (IntsResult.code
   (ro76o f
   (decL decMsg
   (encL (encMsg 1) 1 (ro36o (decL decMsg (encL (encMsg 1) 1 l)))))
   view)),
   V.sl
   (List.length
   (IntsResult.list
   (ro76o f
   (decL decMsg
   (encL (encMsg 1) 1
   (ro36o (decL decMsg (encL (encMsg 1) 1 l)))))
   view)))
   (gL encI
   (markI (1 : Int)
   (List.length
   (IntsResult.list
   (ro76o f
   (decL decMsg
   (encL (encMsg 1) 1
   (ro36o (decL decMsg (encL (encMsg 1) 1 l)))))
   view)))))
   1])))
   (1 : Int) <
   (0 : Int)) =
   true) →
   (VLe (V.bool false) (V.bool true))) ∧
   ((decide
   (heldI
   (IntsResult.list
   (decIntsResult
   (V.agg
   [V.int IntKind.i64
   (IntsResult.code
   (ro76o f
   (decL decMsg
   (encL (encMsg 1) 1 (ro36o (decL decMsg (encL (encMsg 1) 1 l)))))
   view)),
   V.sl
   (List.length
   (IntsResult.list
   (ro76o f
   (decL decMsg
   (encL (encMsg 1) 1
   (ro36o (decL decMsg (encL (encMsg 1) 1 l)))))
   view)))
   (gL encI
   (markI (1 : Int)
   (List.length
   (IntsResult.list
   (ro76o f
   (decL decMsg
   (encL (encMsg 1) 1
   (ro36o (decL decMsg (encL (encMsg 1) 1 l)))))
   view)))))
   1])))
   (1 : Int) <
   (0 : Int)) =
   false) →
   ((((heldI
   (IntsResult.list
   (decIntsResult
   (V.agg
   [V.int IntKind.i64
   (IntsResult.code
   (ro76o f
   (decL decMsg
   (encL (encMsg 1) 1 (ro36o (decL decMsg (encL (encMsg 1) 1 l)))))
   view)),
   V.sl
   (List.length
   (IntsResult.list
   (ro76o f
   (decL decMsg
   (encL (encMsg 1) 1 (ro36o (decL decMsg (encL (encMsg 1) 1 l)))))
   view)))
   (gL encI
   (markI (1 : Int)
   (List.length
   (IntsResult.list
   (ro76o f
   (decL decMsg
   (encL (encMsg 1) 1
   (ro36o (decL decMsg (encL (encMsg 1) 1 l)))))
   view)))))
   1])))
   (1 : Int) !=
   (1 : Int) +
   (↑(List.length
   (IntsResult.list
   (ro76o f
   (decL decMsg
   (encL (encMsg 1) 1 (ro36o (decL decMsg (encL (encMsg 1) 1 l)))))
   view))) :
   Int)) =
   true) →
   (VLe (V.bool false) (V.bool true))) ∧
   (((heldI
   (IntsResult.list
   (decIntsResult
   (V.agg
   [V.int IntKind.i64
   (IntsResult.code
   (ro76o f
   (decL decMsg
   (encL (encMsg 1) 1 (ro36o (decL decMsg (encL (encMsg 1) 1 l)))))
   view)),
   V.sl
   (List.length
   (IntsResult.list
   (ro76o f
   (decL decMsg
   (encL (encMsg 1) 1 (ro36o (decL decMsg (encL (encMsg 1) 1 l)))))
   view)))
   (gL encI
   (markI (1 : Int)
   (List.length
   (IntsResult.list
   (ro76o f
   (decL decMsg
   (encL (encMsg 1) 1
   (ro36o (decL decMsg (encL (encMsg 1) 1 l)))))
   view)))))
   1])))
   (1 : Int) !=
   (1 : Int) +
   (↑(List.length
   (IntsResult.list
   (ro76o f
   (decL decMsg
   (encL (encMsg 1) 1 (ro36o (decL decMsg (encL (encMsg 1) 1 l)))))
   view))) :
   Int)) =
   false) →
   (((VLe (encL (encMsg 1) 1 l)
   (encL (encMsg 1) 1 (decL decMsg (encL (encMsg 1) 1 l)))) ∧
   (pr36o (decL decMsg (encL (encMsg 1) 1 l)))) ∧
   (((VLe (encL (encMsg 1) 1 (ro36o (decL decMsg (encL (encMsg 1) 1 l))))
   (encL (encMsg 1) 1
   (decL decMsg (encL (encMsg 1) 1 (ro36o (decL decMsg (encL (encMsg 1) 1 l))))))) ∧
   (pr76o f (decL decMsg (encL (encMsg 1) 1 (ro36o (decL decMsg (encL (encMsg 1) 1 l)))))
   view)) ∧
   (((VLe
   (encIntsResult 1
   (ro76o f
   (decL decMsg (encL (encMsg 1) 1 (ro36o (decL decMsg (encL (encMsg 1) 1 l)))))
   view))
   (encIntsResult 1
   (decIntsResult
   (encIntsResult 1
   (ro76o f
   (decL decMsg (encL (encMsg 1) 1 (ro36o (decL decMsg (encL (encMsg 1) 1 l)))))
   view))))) ∧
   ((VLe
   (encIntsResult 1
   (ro75o f
   (decL decMsg (encL (encMsg 1) 1 (ro36o (decL decMsg (encL (encMsg 1) 1 l)))))
   view))
   (encIntsResult 1
   (decIntsResult
   (encIntsResult 1
   (ro75o f
   (decL decMsg (encL (encMsg 1) 1 (ro36o (decL decMsg (encL (encMsg 1) 1 l)))))
   view))))) ∧
   (pr45
   (decIntsResult
   (encIntsResult 1
   (ro76o f
   (decL decMsg (encL (encMsg 1) 1 (ro36o (decL decMsg (encL (encMsg 1) 1 l)))))
   view)))
   (decIntsResult
   (encIntsResult 1
   (ro75o f
   (decL decMsg (encL (encMsg 1) 1 (ro36o (decL decMsg (encL (encMsg 1) 1 l)))))
   view)))))) ∧
   ((((!decide
   (decIntsResult
   (encIntsResult 1
   (ro76o f
   (decL decMsg
   (encL (encMsg 1) 1 (ro36o (decL decMsg (encL (encMsg 1) 1 l)))))
   view)) =
   decIntsResult
   (encIntsResult 1
   (ro75o f
   (decL decMsg
   (encL (encMsg 1) 1 (ro36o (decL decMsg (encL (encMsg 1) 1 l)))))
   view)))) =
   true) →
   (VLe (V.bool false) (V.bool true))) ∧
   (((!decide
   (decIntsResult
   (encIntsResult 1
   (ro76o f
   (decL decMsg
   (encL (encMsg 1) 1 (ro36o (decL decMsg (encL (encMsg 1) 1 l)))))
   view)) =
   decIntsResult
   (encIntsResult 1
   (ro75o f
   (decL decMsg
   (encL (encMsg 1) 1 (ro36o (decL decMsg (encL (encMsg 1) 1 l)))))
   view)))) =
   false) →
   (((VLe
   (V.agg
   [V.int IntKind.i64
   (IntsResult.code
   (ro76o f
   (decL decMsg
   (encL (encMsg 1) 1 (ro36o (decL decMsg (encL (encMsg 1) 1 l)))))
   view)),
   V.sl
   (List.length
   (IntsResult.list
   (ro76o f
   (decL decMsg
   (encL (encMsg 1) 1 (ro36o (decL decMsg (encL (encMsg 1) 1 l)))))
   view)))
   (gL encI
   (markI (1 : Int)
   (List.length
   (IntsResult.list
   (ro76o f
   (decL decMsg
   (encL (encMsg 1) 1 (ro36o (decL decMsg (encL (encMsg 1) 1 l)))))
   view)))))
   1])
   (encIntsResult 1
   (decIntsResult
   (V.agg
   [V.int IntKind.i64
   (IntsResult.code
   (ro76o f
   (decL decMsg
   (encL (encMsg 1) 1 (ro36o (decL decMsg (encL (encMsg 1) 1 l)))))
   view)),
   V.sl
   (List.length
   (IntsResult.list
   (ro76o f
   (decL decMsg
   (encL (encMsg 1) 1 (ro36o (decL decMsg (encL (encMsg 1) 1 l)))))
   view)))
   (gL encI
   (markI (1 : Int)
   (List.length
   (IntsResult.list
   (ro76o f
   (decL decMsg
   (encL (encMsg 1) 1 (ro36o (decL decMsg (encL (encMsg 1) 1 l)))))
   view)))))
   1])))) ∧
   (pr48
   (decIntsResult
   (V.agg
   [V.int IntKind.i64
   (IntsResult.code
   (ro76o f
   (decL decMsg
   (encL (encMsg 1) 1 (ro36o (decL decMsg (encL (encMsg 1) 1 l)))))
   view)),
   V.sl
   (List.length
   (IntsResult.list
   (ro76o f
   (decL decMsg
   (encL (encMsg 1) 1 (ro36o (decL decMsg (encL (encMsg 1) 1 l)))))
   view)))
   (gL encI
   (markI (1 : Int)
   (List.length
   (IntsResult.list
   (ro76o f
   (decL decMsg
   (encL (encMsg 1) 1 (ro36o (decL decMsg (encL (encMsg 1) 1 l)))))
   view)))))
   1]))
   (1 : Int))) ∧
   (((decide
   (heldI
   (IntsResult.list
   (decIntsResult
   (V.agg
   [V.int IntKind.i64
   (IntsResult.code
   (ro76o f
   (decL decMsg
   (encL (encMsg 1) 1 (ro36o (decL decMsg (encL (encMsg 1) 1 l)))))
   view)),
   V.sl
   (List.length
   (IntsResult.list
   (ro76o f
   (decL decMsg
   (encL (encMsg 1) 1
   (ro36o (decL decMsg (encL (encMsg 1) 1 l)))))
   view)))
   (gL encI
   (markI (1 : Int)
   (List.length
   (IntsResult.list
   (ro76o f
   (decL decMsg
   (encL (encMsg 1) 1
   (ro36o (decL decMsg (encL (encMsg 1) 1 l)))))
   view)))))
   1])))
   (1 : Int) <
   (0 : Int)) =
   true) →
   (VLe (V.bool false) (V.bool true))) ∧
   ((decide
   (heldI
   (IntsResult.list
   (decIntsResult
   (V.agg
   [V.int IntKind.i64
   (IntsResult.code
   (ro76o f
   (decL decMsg
   (encL (encMsg 1) 1 (ro36o (decL decMsg (encL (encMsg 1) 1 l)))))
   view)),
   V.sl
   (List.length
   (IntsResult.list
   (ro76o f
   (decL decMsg
   (encL (encMsg 1) 1
   (ro36o (decL decMsg (encL (encMsg 1) 1 l)))))
   view)))
   (gL encI
   (markI (1 : Int)
   (List.length
   (IntsResult.list
   (ro76o f
   (decL decMsg
   (encL (encMsg 1) 1
   (ro36o (decL decMsg (encL (encMsg 1) 1 l)))))
   view)))))
   1])))
   (1 : Int) <
   (0 : Int)) =
   false) →
   ((((heldI
   (IntsResult.list
   (decIntsResult
   (V.agg
   [V.int IntKind.i64
   (IntsResult.code
   (ro76o f
   (decL decMsg
   (encL (encMsg 1) 1 (ro36o (decL decMsg (encL (encMsg 1) 1 l)))))
   view)),
   V.sl
   (List.length
   (IntsResult.list
   (ro76o f
   (decL decMsg
   (encL (encMsg 1) 1 (ro36o (decL decMsg (encL (encMsg 1) 1 l)))))
   view)))
   (gL encI
   (markI (1 : Int)
   (List.length
   (IntsResult.list
   (ro76o f
   (decL decMsg
   (encL (encMsg 1) 1
   (ro36o (decL decMsg (encL (encMsg 1) 1 l)))))
   view)))))
   1])))
   (1 : Int) !=
   (1 : Int) +
   (↑(List.length
   (IntsResult.list
   (ro76o f
   (decL decMsg
   (encL (encMsg 1) 1 (ro36o (decL decMsg (encL (encMsg 1) 1 l)))))
   view))) :
   Int)) =
   true) →
   (VLe (V.bool false) (V.bool true))) ∧
   (((heldI
   (IntsResult.list
   (decIntsResult
   (V.agg
   [V.int IntKind.i64
   (IntsResult.code
   (ro76o f
   (decL decMsg
   (encL (encMsg 1) 1 (ro36o (decL decMsg (encL (encMsg 1) 1 l)))))
   view)),
   V.sl
   (List.length
   (IntsResult.list
   (ro76o f
   (decL decMsg
   (encL (encMsg 1) 1 (ro36o (decL decMsg (encL (encMsg 1) 1 l)))))
   view)))
   (gL encI
   (markI (1 : Int)
   (List.length
   (IntsResult.list
   (ro76o f
   (decL decMsg
   (encL (encMsg 1) 1
   (ro36o (decL decMsg (encL (encMsg 1) 1 l)))))
   view)))))
   1])))
   (1 : Int) !=
   (1 : Int) +
   (↑(List.length
   (IntsResult.list
   (ro76o f
   (decL decMsg
   (encL (encMsg 1) 1 (ro36o (decL decMsg (encL (encMsg 1) 1 l)))))
   view))) :
   Int)) =
   false) →
   (VLe (V.bool true) (V.bool true))))))))))))))))))))))))))))))))))))))))))) := by
    have hm : bdL l := hpre.2.1
    have f1 := @szMsgSF_bd l 1048576
    have f3 := @szMsgSF_le l 1048576 (by omega)
    obtain ⟨hl, hb⟩ := hm
    have hv : ∀ v, VLe v v := VLe.refl
    simp only [decL_Msg]
    refine ⟨⟨VLe.refl _, by omega, by unfold most; omega, hl, hb⟩, fun h => VLe.refl _, fun h => ?_⟩
    have h0 := of_decide_eq_false h
    obtain ⟨g1, g2⟩ := f1 (by omega)
    have p1 : pr36o l := ⟨by unfold most; omega, fun x hx => ⟨by have := g2 x hx; unfold most; omega, by have := g2 x hx; unfold most; omega⟩⟩
    have p2 : pr38 l l := ⟨hl, fun x hx y => hb x hx⟩
    have c1 : cntL l l.length ≤ 1048576 * 4194309 := by
      have := cntL_le (l := l) (n := 1048576) (by omega) fun x hx => by have := g2 x hx; omega
      have h2 : (l.length : Int) * (5 + 4 * (1048576 : Nat)) ≤ 1048576 * (5 + 4 * (1048576 : Nat)) := Int.mul_le_mul_of_nonneg_right (by omega) (by omega)
      omega
    have c2 := cntL_nonneg l l.length
    have p3 : mp46 l 1 := ⟨by omega, by omega, by omega⟩
    have q1 : decide (1 + cntL l l.length < 0) = false := by simp; omega
    have hn : (changesForF f l view).list.length ≤ 240 := changesForF_len f l view
    simp only [decL_Msg, dec_encIntsResult, ro36o, ro75o, ro76o, dec_markInts, heldI_mark, markI_len, q1]
    generalize changesForF f l view = W at *
    have p4 : pr45 W W := by show W.list.length ≤ maxLen; unfold maxLen; omega
    have p5 : pr47 W.list.length 1 := ⟨by omega, by omega⟩
    have p6 : pr48 ⟨W.code, markI 1 W.list.length⟩ 1 := ⟨by omega, by simp; omega⟩
    have q2 : decide (1 + (W.list.length : Int) < 0) = false := by simp; omega
    simp [hv, p1, p2, p3, p4, p5, p6, q2]
    exact ⟨⟨hl, hb⟩, ⟨hl, hb⟩, q1, fun _ => ⟨⟨W.list, rfl, fun _ _ => ELe.refl _⟩, vle_markInts _ _ _, ⟨hl, hb⟩, vle_markInts _ _ _⟩⟩
  exact Eq.mp (by kernel_rfl) key
theorem so20 : Sound Try.prog 20 (lawD Q20) := by
  refine sound_of_body hmix (pol := 0) Try.func20 rfl (by kernel_rfl) fun args bin ob r bout hDe hob => ?_
  unfold lawD at hDe
  split at hDe
  · cases hDe
    obtain ⟨f, l, view, hle, hpre⟩ := hob
    have hlen : args.length = 3 := hle.1.symm
    exact ⟨rfl, rfl, by rw [hlen]; exact Nat.le_of_ble_eq_true (by kernel_rfl), cx20 f l view, Eq.mp (by kernel_rfl) htt, Eq.mp (by kernel_rfl) da20, Eq.mp (by kernel_rfl) (soundAllM_cons sm46 (soundAllM_nil (P := Try.prog))), by kernel_rfl, _, hle, Eq.mp (by kernel_rfl) (bd20 f l view hpre)⟩
  · cases hDe

end Go.Av
