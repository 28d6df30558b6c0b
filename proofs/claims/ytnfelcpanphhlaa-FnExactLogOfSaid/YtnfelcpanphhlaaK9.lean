/- The law on the log. -/
import Derived.Test.YtnfelcpanphhlaaK7
namespace Go.Av
open Go.Proofs
set_option maxRecDepth 100000
set_option linter.unusedVariables false
set_option linter.unusedSimpArgs false


/-! ### laws.FnExactLogOf -/
def pr19 (f : Int) (l : List Msg) : Prop := (Lit.int .i64 f).wf = true ∧ bdL l
noncomputable def rs19 (f : Int) (l : List Msg) : V := .bool (true)
def Q19 (vs : List V) : Prop := ∃ (f : Int) (l : List Msg), ArgsLe vs [.int .i64 (f), encL (encMsg 1) 1 (l)] ∧ pr19 f l
noncomputable def D19 : Nat → Option (Bool × FSpec) := lk [(34, (false, sp34)), (36, (false, sp36o)), (38, (false, sp38)), (69, (false, sp69o)), (68, (false, sp68o)), (45, (false, sp45)), (47, (true, sp47)), (48, (false, sp48))]
theorem da19 : SoundAll Try.prog D19 := soundAll_cons so34 (soundAll_cons so36o (soundAll_cons so38 (soundAll_cons so69o (soundAll_cons so68o (soundAll_cons so45 (soundAll_cons so47 (soundAll_cons so48 (soundAll_nil))))))))
noncomputable def cx19 (f : Int) (l : List Msg) : Cx := ⟨tt, D19, Try.f19.ntmps, [0, 1, 4, 5, 6, 7, 8, 9, 10, 11, 12, 17, 30, 35, 46, 54, 57, 65, 70, 73], [], [], fun _ => none, [13], (lk [(46, mm46)]), []⟩
theorem bd19 (f : Int) (l : List Msg) (hpre : pr19 f l) : bodyP (cx19 f l) Try.f19 0 [.int .i64 (f), encL (encMsg 1) 1 (l)] (fun rr => VLe rr (rs19 f l)) := by
  have key :
      (((VLe (encL (encMsg 1) 1 l)
   (encL (encMsg 1) 1 (decL decMsg (encL (encMsg 1) 1 l)))) ∧
   (pr34 (decL decMsg (encL (encMsg 1) 1 l)) (1048576 : Int))) ∧
   (((decide (szMsgSF (decL decMsg (encL (encMsg 1) 1 l)) (1048576 : Int) < (0 : Int)) = true) →
   (VLe (V.bool true) (V.bool true))) ∧
   ((decide (szMsgSF (decL decMsg (encL (encMsg 1) 1 l)) (1048576 : Int) < (0 : Int)) = false) →
   (((VLe (encL (encMsg 1) 1 l)
   (encL (encMsg 1) 1 (decL decMsg (encL (encMsg 1) 1 l)))) ∧
   (pr36o (decL decMsg (encL (encMsg 1) 1 l)))) ∧
   (((VLe (encL (encMsg 1) 1 (ro36o (decL decMsg (encL (encMsg 1) 1 l))))
   (encL (encMsg 1) 1
   (decL decMsg (encL (encMsg 1) 1 (ro36o (decL decMsg (encL (encMsg 1) 1 l))))))) ∧
   (pr69o f (decL decMsg (encL (encMsg 1) 1 (ro36o (decL decMsg (encL (encMsg 1) 1 l))))))) ∧
   (((VLe (encL (encMsg 1) 1 l)
   (encL (encMsg 1) 1 (decL decMsg (encL (encMsg 1) 1 l)))) ∧
   (pr36o (decL decMsg (encL (encMsg 1) 1 l)))) ∧
   (((VLe (encL (encMsg 1) 1 (ro36o (decL decMsg (encL (encMsg 1) 1 l))))
   (encL (encMsg 1) 1
   (decL decMsg (encL (encMsg 1) 1 (ro36o (decL decMsg (encL (encMsg 1) 1 l))))))) ∧
   (pr68o f (decL decMsg (encL (encMsg 1) 1 (ro36o (decL decMsg (encL (encMsg 1) 1 l))))))) ∧
   (((VLe
   (encIntsResult 1
   (ro68o f
   (decL decMsg (encL (encMsg 1) 1 (ro36o (decL decMsg (encL (encMsg 1) 1 l)))))))
   (encIntsResult 1
   (decIntsResult
   (encIntsResult 1
   (ro68o f
   (decL decMsg
   (encL (encMsg 1) 1 (ro36o (decL decMsg (encL (encMsg 1) 1 l)))))))))) ∧
   ((VLe
   (encIntsResult 1
   (ro69o f
   (decL decMsg (encL (encMsg 1) 1 (ro36o (decL decMsg (encL (encMsg 1) 1 l)))))))
   (encIntsResult 1
   (decIntsResult
   (encIntsResult 1
   (ro69o f
   (decL decMsg
   (encL (encMsg 1) 1 (ro36o (decL decMsg (encL (encMsg 1) 1 l)))))))))) ∧
   (pr45
   (decIntsResult
   (encIntsResult 1
   (ro68o f
   (decL decMsg (encL (encMsg 1) 1 (ro36o (decL decMsg (encL (encMsg 1) 1 l))))))))
   (decIntsResult
   (encIntsResult 1
   (ro69o f
   (decL decMsg (encL (encMsg 1) 1 (ro36o (decL decMsg (encL (encMsg 1) 1 l))))))))))) ∧
   ((((!decide
   (decIntsResult
   (encIntsResult 1
   (ro68o f
   (decL decMsg
   (encL (encMsg 1) 1 (ro36o (decL decMsg (encL (encMsg 1) 1 l))))))) =
   decIntsResult
   (encIntsResult 1
   (ro69o f
   (decL decMsg
   (encL (encMsg 1) 1 (ro36o (decL decMsg (encL (encMsg 1) 1 l))))))))) =
   true) →
   (VLe (V.bool false) (V.bool true))) ∧
   (((!decide
   (decIntsResult
   (encIntsResult 1
   (ro68o f
   (decL decMsg
   (encL (encMsg 1) 1 (ro36o (decL decMsg (encL (encMsg 1) 1 l))))))) =
   decIntsResult
   (encIntsResult 1
   (ro69o f
   (decL decMsg
   (encL (encMsg 1) 1 (ro36o (decL decMsg (encL (encMsg 1) 1 l))))))))) =
   false) →
   (((VLe (encL (encMsg 1) 1 l)
   (encL (encMsg 1) 1 (decL decMsg (encL (encMsg 1) 1 l)))) ∧
   (pr36o (decL decMsg (encL (encMsg 1) 1 l)))) ∧
   (((VLe (encL (encMsg 1) 1 (ro36o (decL decMsg (encL (encMsg 1) 1 l))))
   (encL (encMsg 1) 1
   (decL decMsg (encL (encMsg 1) 1 (ro36o (decL decMsg (encL (encMsg 1) 1 l))))))) ∧
   ((VLe (encL (encMsg 1) 1 (ro36o (decL decMsg (encL (encMsg 1) 1 l))))
   (encL (encMsg 1) 1
   (decL decMsg (encL (encMsg 1) 1 (ro36o (decL decMsg (encL (encMsg 1) 1 l))))))) ∧
   (pr38 (decL decMsg (encL (encMsg 1) 1 (ro36o (decL decMsg (encL (encMsg 1) 1 l)))))
   (decL decMsg (encL (encMsg 1) 1 (ro36o (decL decMsg (encL (encMsg 1) 1 l)))))))) ∧
   ((((!decide
   (decL decMsg (encL (encMsg 1) 1 (ro36o (decL decMsg (encL (encMsg 1) 1 l)))) =
   decL decMsg (encL (encMsg 1) 1 (ro36o (decL decMsg (encL (encMsg 1) 1 l)))))) =
   true) →
   (VLe (V.bool false) (V.bool true))) ∧
   (((!decide
   (decL decMsg (encL (encMsg 1) 1 (ro36o (decL decMsg (encL (encMsg 1) 1 l)))) =
   decL decMsg (encL (encMsg 1) 1 (ro36o (decL decMsg (encL (encMsg 1) 1 l)))))) =
   false) →
   (((VLe (encL (encMsg 1) 1 (ro36o (decL decMsg (encL (encMsg 1) 1 l))))
   (encL (encMsg 1) 1
   (decL decMsg (encL (encMsg 1) 1 (ro36o (decL decMsg (encL (encMsg 1) 1 l))))))) ∧
   (mp46 (decL decMsg (encL (encMsg 1) 1 (ro36o (decL decMsg (encL (encMsg 1) 1 l)))))
   (1 : Int))) ∧
   ((tq (!decide
   ((1 : Int) +
   cntL
   (decL decMsg (encL (encMsg 1) 1 (ro36o (decL decMsg (encL (encMsg 1) 1 l)))))
   (List.length
   (decL decMsg
   (encL (encMsg 1) 1 (ro36o (decL decMsg (encL (encMsg 1) 1 l)))))) <
   (0 : Int)))) ∧
   ((tq (!decide
   ((1 : Int) +
   cntL
   (decL decMsg (encL (encMsg 1) 1 (ro36o (decL decMsg (encL (encMsg 1) 1 l)))))
   (List.length
   (decL decMsg
   (encL (encMsg 1) 1 (ro36o (decL decMsg (encL (encMsg 1) 1 l)))))) <
   (0 : Int)))) ∧
   ((((!decide
   ((1 : Int) +
   cntL
   (decL decMsg
   (encL (encMsg 1) 1 (ro36o (decL decMsg (encL (encMsg 1) 1 l)))))
   (List.length
   (decL decMsg
   (encL (encMsg 1) 1 (ro36o (decL decMsg (encL (encMsg 1) 1 l)))))) <
   (0 : Int))) =
   true) →
   ((VLe
   (encIntsResult 1
   (ro68o f
   (decL decMsg (encL (encMsg 1) 1 (ro36o (decL decMsg (encL (encMsg 1) 1 l)))))))
   (encIntsResult 1
   (decIntsResult
   (encIntsResult 1
   (ro68o f
   (decL decMsg
   (encL (encMsg 1) 1 (ro36o (decL decMsg (encL (encMsg 1) 1 l)))))))))) ∧
   ((VLe
   (encIntsResult 1
   (ro69o f
   (decL decMsg (encL (encMsg 1) 1 (ro36o (decL decMsg (encL (encMsg 1) 1 l)))))))
   (encIntsResult 1
   (decIntsResult
   (encIntsResult 1
   (ro69o f
   (decL decMsg
   (encL (encMsg 1) 1 (ro36o (decL decMsg (encL (encMsg 1) 1 l)))))))))) ∧
   (pr45
   (decIntsResult
   (encIntsResult 1
   (ro68o f
   (decL decMsg (encL (encMsg 1) 1 (ro36o (decL decMsg (encL (encMsg 1) 1 l))))))))
   (decIntsResult
   (encIntsResult 1
   (ro69o f
   (decL decMsg (encL (encMsg 1) 1 (ro36o (decL decMsg (encL (encMsg 1) 1 l)))))))))))) ∧
   ((tq (!decide
   ((1 : Int) +
   cntL
   (decL decMsg (encL (encMsg 1) 1 (ro36o (decL decMsg (encL (encMsg 1) 1 l)))))
   (List.length
   (decL decMsg
   (encL (encMsg 1) 1 (ro36o (decL decMsg (encL (encMsg 1) 1 l)))))) <
   (0 : Int)))) ∧
   (((true = true) →
   ((decide
   ((1 : Int) +
   cntL
   (decL decMsg (encL (encMsg 1) 1 (ro36o (decL decMsg (encL (encMsg 1) 1 l)))))
   (List.length
   (decL decMsg
   (encL (encMsg 1) 1 (ro36o (decL decMsg (encL (encMsg 1) 1 l)))))) <
   (0 : Int)) =
   false) →
   ((!decide
   ((1 : Int) +
   cntL
   (decL decMsg
   (encL (encMsg 1) 1 (ro36o (decL decMsg (encL (encMsg 1) 1 l)))))
   (List.length
   (decL decMsg
   (encL (encMsg 1) 1 (ro36o (decL decMsg (encL (encMsg 1) 1 l)))))) <
   (0 : Int))) =
   true))) ∧
   (∀ b : Bool,
   ((b =
   bif
   decide
   ((1 : Int) +
   cntL
   (decL decMsg
   (encL (encMsg 1) 1 (ro36o (decL decMsg (encL (encMsg 1) 1 l)))))
   (List.length
   (decL decMsg
   (encL (encMsg 1) 1 (ro36o (decL decMsg (encL (encMsg 1) 1 l)))))) <
   (0 : Int)) then
   true
   else
   !decide
   (decIntsResult
   (encIntsResult 1
   (ro68o f
   (decL decMsg
   (encL (encMsg 1) 1 (ro36o (decL decMsg (encL (encMsg 1) 1 l))))))) =
   decIntsResult
   (encIntsResult 1
   (ro69o f
   (decL decMsg
   (encL (encMsg 1) 1 (ro36o (decL decMsg (encL (encMsg 1) 1 l))))))))) →
   (((b = true) →
   (VLe (V.bool false) (V.bool true))) ∧
   ((b = false) →
   ((((0 = 0) ∧
   ((1 = 1) ∧
   ((100 = 100) ∧
   ((List.length
   (IntsResult.list
   (ro68o f
   (decL decMsg
   (encL (encMsg 1) 1 (ro36o (decL decMsg (encL (encMsg 1) 1 l))))))) =
   List.length
   (IntsResult.list
   (ro68o f
   (decL decMsg (encL (encMsg 1) 1 (ro36o (decL decMsg (encL (encMsg 1) 1 l)))))))) ∧
   (∃ y : List Int, ((List.length y =
   List.length
   (IntsResult.list
   (ro68o f
   (decL decMsg (encL (encMsg 1) 1 (ro36o (decL decMsg (encL (encMsg 1) 1 l)))))))) ∧
   (∀ i : Nat,
   ((i <
   List.length
   (IntsResult.list
   (ro68o f
   (decL decMsg (encL (encMsg 1) 1 (ro36o (decL decMsg (encL (encMsg 1) 1 l)))))))) →
   (ELe
   (V.int IntKind.i64
   (List.getD
   (IntsResult.list
   (ro68o f
   (decL decMsg
   (encL (encMsg 1) 1 (ro36o (decL decMsg (encL (encMsg 1) 1 l)))))))
   i default))
   (V.int IntKind.i64 (List.getD y i default))))))))))) ∧
   (pr47
   (List.length
   (IntsResult.list
   (ro68o f
   (decL decMsg (encL (encMsg 1) 1 (ro36o (decL decMsg (encL (encMsg 1) 1 l))))))))
   (1 : Int))) ∧
   ((List.length
   (IntsResult.list
   (ro68o f
   (decL decMsg
   (encL (encMsg 1) 1 (ro36o (decL decMsg (encL (encMsg 1) 1 l))))))) =
   List.length
   (IntsResult.list
   (ro68o f
   (decL decMsg (encL (encMsg 1) 1 (ro36o (decL decMsg (encL (encMsg 1) 1 l)))))))) ∧
   (((VLe
   (V.agg
   [V.int IntKind.i64
   (IntsResult.code
   (ro68o f
   (decL decMsg
   (encL (encMsg 1) 1 (ro36o (decL decMsg (encL (encMsg 1) 1 l))))))),
   V.sl
   (List.length
   (IntsResult.list
   (ro68o f
   (decL decMsg
   (encL (encMsg 1) 1 (ro36o (decL decMsg (encL (encMsg 1) 1 l))))))))
   (gL encI
   (markI (1 : Int)
   (List.length
   (IntsResult.list
   (ro68o f
   (decL decMsg
   (encL (encMsg 1) 1
   (ro36o (decL decMsg (encL (encMsg 1) 1 l))))))))))
   1])
   (encIntsResult 1
   (decIntsResult
   (V.agg
   [V.int IntKind.i64
   (IntsResult.code
   (ro68o f
   (decL decMsg
   (encL (encMsg 1) 1 (ro36o (decL decMsg (encL (encMsg 1) 1 l))))))),
   V.sl
   (List.length
   (IntsResult.list
   (ro68o f
   (decL decMsg
   (encL (encMsg 1) 1 (ro36o (decL decMsg (encL (encMsg 1) 1 l))))))))
   (gL encI
   (markI (1 : Int)
   (List.length
   (IntsResult.list
   (ro68o f
   (decL decMsg
   (encL (encMsg 1) 1
   (ro36o (decL decMsg (encL (encMsg 1) 1 l))))))))))
   1])))) ∧
   (pr48
   (decIntsResult
   (V.agg
   [V.int IntKind.i64
   (IntsResult.code
   (ro68o f
   (decL decMsg
   (encL (encMsg 1) 1 (ro36o (decL decMsg (encL (encMsg 1) 1 l))))))),
   V.sl
   (List.length
   (IntsResult.list
   (ro68o f
   (decL decMsg
   (encL (encMsg 1) 1 (ro36o (decL decMsg (encL (encMsg 1) 1 l))))))))
   (gL encI
   (markI (1 : Int)
   (List.length
   (IntsResult.list
   (ro68o f
   (decL decMsg
   (encL (encMsg 1) 1
   (ro36o (decL decMsg (encL (encMsg 1) 1 l))))))))))
   1]))
   (1 : Int))) ∧
   (((decide
   (heldI
   (IntsResult.list
   (decIntsResult
   (V.agg
   [V.int IntKind.i64
   (IntsResult.code
   (ro68o f
   (decL decMsg
   (encL (encMsg 1) 1
   (ro36o (decL decMsg (encL (encMsg 1) 1 l))))))),
   V.sl
   (List.length
   (IntsResult.list
   (ro68o f
   (decL decMsg
   (encL (encMsg 1) 1
   (ro36o (decL decMsg (encL (encMsg 1) 1 l))))))))
   (gL encI
   (markI (1 : Int)
   (List.length
   (IntsResult.list
   (ro68o f
   (decL decMsg
   (encL (encMsg 1) 1
   (ro36o (decL decMsg (encL (encMsg 1) 1 l))))))))))
   1])))
   (1 : Int) <
   (0 : Int)) =
   true) →
   (VLe (V.bool false) (V.bool true))) ∧
   ((decide
   (heldI
   (IntsResult.list
   (decIntsResult
   (V.agg
   [V.int IntKind.i64
   (IntsResult.code
   (ro68o f
   (decL decMsg
   (encL (encMsg 1) 1
   (ro36o (decL decMsg (encL (encMsg 1) 1 l))))))),
   V.sl
   (List.length
   (IntsResult.list
   (ro68o f
   (decL decMsg
   (encL (encMsg 1) 1
   (ro36o (decL decMsg (encL (encMsg 1) 1 l))))))))
   (gL encI
   (markI (1 : Int)
   (List.length
   (IntsResult.list
   (ro68o f
   (decL decMsg
   (encL (encMsg 1) 1
   (ro36o (decL decMsg (encL (encMsg 1) 1 l))))))))))
   1])))
   (1 : Int) <
   (0 : Int)) =
   false) →
   ((((heldI
   (IntsResult.list
   (decIntsResult
   (V.agg
   [V.int IntKind.i64
   (IntsResult.code
   (ro68o f
   (decL decMsg
   (encL (encMsg 1) 1
   (ro36o (decL decMsg (encL (encMsg 1) 1 l))))))),
   V.sl
   (List.length
   (IntsResult.list
   (ro68o f
   (decL decMsg
   (encL (encMsg 1) 1
   (ro36o (decL decMsg (encL (encMsg 1) 1 l))))))))
   (gL encI
   (markI (1 : Int)
   (List.length
   (IntsResult.list
   (ro68o f
   (decL decMsg
   (encL (encMsg 1) 1
   (ro36o (decL decMsg (encL (encMsg 1) 1 l))))))))))
   1])))
   (1 : Int) !=
   (1 : Int) +
   (↑(List.length
   (IntsResult.list
   (ro68o f
   (decL decMsg
   (encL (encMsg 1) 1 (ro36o (decL decMsg (encL (encMsg 1) 1 l)))))))) :
   Int)) =
   true) →
   (VLe (V.bool false) (V.bool true))) ∧
   (((heldI
   (IntsResult.list
   (decIntsResult
   (V.agg
   [V.int IntKind.i64
   (IntsResult.code
   (ro68o f
   (decL decMsg
   (encL (encMsg 1) 1
   (ro36o (decL decMsg (encL (encMsg 1) 1 l))))))),
   V.sl
   (List.length
   (IntsResult.list
   (ro68o f
   (decL decMsg
   (encL (encMsg 1) 1
   (ro36o (decL decMsg (encL (encMsg 1) 1 l))))))))
   (gL encI
   (markI (1 : Int)
   (List.length
   (IntsResult.list
   (ro68o f
   (decL decMsg
   (encL (encMsg 1) 1
   (ro36o (decL decMsg (encL (encMsg 1) 1 l))))))))))
   1])))
   (1 : Int) !=
   (1 : Int) +
   (↑(List.length
   (IntsResult.list
   (ro68o f
   (decL decMsg
   (encL (encMsg 1) 1 (ro36o (decL decMsg (encL (encMsg 1) 1 l)))))))) :
   Int)) =
   false) →
   (((VLe (encL (encMsg 1) 1 l)
   (encL (encMsg 1) 1 (decL decMsg (encL (encMsg 1) 1 l)))) ∧
   (pr36o (decL decMsg (encL (encMsg 1) 1 l)))) ∧
   (((VLe (encL (encMsg 1) 1 (ro36o (decL decMsg (encL (encMsg 1) 1 l))))
   (encL (encMsg 1) 1
   (decL decMsg (encL (encMsg 1) 1 (ro36o (decL decMsg (encL (encMsg 1) 1 l))))))) ∧
   (pr68o f (decL decMsg (encL (encMsg 1) 1 (ro36o (decL decMsg (encL (encMsg 1) 1 l))))))) ∧
   (((VLe
   (encIntsResult 1
   (ro68o f
   (decL decMsg (encL (encMsg 1) 1 (ro36o (decL decMsg (encL (encMsg 1) 1 l)))))))
   (encIntsResult 1
   (decIntsResult
   (encIntsResult 1
   (ro68o f
   (decL decMsg
   (encL (encMsg 1) 1 (ro36o (decL decMsg (encL (encMsg 1) 1 l)))))))))) ∧
   ((VLe
   (encIntsResult 1
   (ro69o f
   (decL decMsg (encL (encMsg 1) 1 (ro36o (decL decMsg (encL (encMsg 1) 1 l)))))))
   (encIntsResult 1
   (decIntsResult
   (encIntsResult 1
   (ro69o f
   (decL decMsg
   (encL (encMsg 1) 1 (ro36o (decL decMsg (encL (encMsg 1) 1 l)))))))))) ∧
   (pr45
   (decIntsResult
   (encIntsResult 1
   (ro68o f
   (decL decMsg (encL (encMsg 1) 1 (ro36o (decL decMsg (encL (encMsg 1) 1 l))))))))
   (decIntsResult
   (encIntsResult 1
   (ro69o f
   (decL decMsg (encL (encMsg 1) 1 (ro36o (decL decMsg (encL (encMsg 1) 1 l))))))))))) ∧
   ((((!decide
   (decIntsResult
   (encIntsResult 1
   (ro68o f
   (decL decMsg
   (encL (encMsg 1) 1 (ro36o (decL decMsg (encL (encMsg 1) 1 l))))))) =
   decIntsResult
   (encIntsResult 1
   (ro69o f
   (decL decMsg
   (encL (encMsg 1) 1 (ro36o (decL decMsg (encL (encMsg 1) 1 l))))))))) =
   true) →
   (VLe (V.bool false) (V.bool true))) ∧
   (((!decide
   (decIntsResult
   (encIntsResult 1
   (ro68o f
   (decL decMsg
   (encL (encMsg 1) 1 (ro36o (decL decMsg (encL (encMsg 1) 1 l))))))) =
   decIntsResult
   (encIntsResult 1
   (ro69o f
   (decL decMsg
   (encL (encMsg 1) 1 (ro36o (decL decMsg (encL (encMsg 1) 1 l))))))))) =
   false) →
   (((VLe
   (V.agg
   [V.int IntKind.i64
   (IntsResult.code
   (ro68o f
   (decL decMsg
   (encL (encMsg 1) 1 (ro36o (decL decMsg (encL (encMsg 1) 1 l))))))),
   V.sl
   (List.length
   (IntsResult.list
   (ro68o f
   (decL decMsg
   (encL (encMsg 1) 1 (ro36o (decL decMsg (encL (encMsg 1) 1 l))))))))
   (gL encI
   (markI (1 : Int)
   (List.length
   (IntsResult.list
   (ro68o f
   (decL decMsg
   (encL (encMsg 1) 1
   (ro36o (decL decMsg (encL (encMsg 1) 1 l))))))))))
   1])
   (encIntsResult 1
   (decIntsResult
   (V.agg
   [V.int IntKind.i64
   (IntsResult.code
   (ro68o f
   (decL decMsg
   (encL (encMsg 1) 1 (ro36o (decL decMsg (encL (encMsg 1) 1 l))))))),
   V.sl
   (List.length
   (IntsResult.list
   (ro68o f
   (decL decMsg
   (encL (encMsg 1) 1 (ro36o (decL decMsg (encL (encMsg 1) 1 l))))))))
   (gL encI
   (markI (1 : Int)
   (List.length
   (IntsResult.list
   (ro68o f
   (decL decMsg
   (encL (encMsg 1) 1
   (ro36o (decL decMsg (encL (encMsg 1) 1 l))))))))))
   1])))) ∧
   (pr48
   (decIntsResult
   (V.agg
   [V.int IntKind.i64
   (IntsResult.code
   (ro68o f
   (decL decMsg
   (encL (encMsg 1) 1 (ro36o (decL decMsg (encL (encMsg 1) 1 l))))))),
   V.sl
   (List.length
   (IntsResult.list
   (ro68o f
   (decL decMsg
   (encL (encMsg 1) 1 (ro36o (decL decMsg (encL (encMsg 1) 1 l))))))))
   (gL encI
   (markI (1 : Int)
   (List.length
   (IntsResult.list
   (ro68o f
   (decL decMsg
   (encL (encMsg 1) 1
   (ro36o (decL decMsg (encL (encMsg 1) 1 l))))))))))
   1]))
   (1 : Int))) ∧
   (((decide
   (heldI
   (IntsResult.list
   (decIntsResult
   (V.agg
   [V.int IntKind.i64
   (IntsResult.code
   (ro68o f
   (decL decMsg
   (encL (encMsg 1) 1
   (ro36o (decL decMsg (encL (encMsg 1) 1 l))))))),
   V.sl
   (List.length
   (IntsResult.list
   (ro68o f
   (decL decMsg
   (encL (encMsg 1) 1
   (ro36o (decL decMsg (encL (encMsg 1) 1 l))))))))
   (gL encI
   (markI (1 : Int)
   (List.length
   (IntsResult.list
   (ro68o f
   (decL decMsg
   (encL (encMsg 1) 1
   (ro36o (decL decMsg (encL (encMsg 1) 1 l))))))))))
   1])))
   (1 : Int) <
   (0 : Int)) =
   true) →
   (VLe (V.bool false) (V.bool true))) ∧
   ((decide
   (heldI
   (IntsResult.list
   (decIntsResult
   (V.agg
   [V.int IntKind.i64
   (IntsResult.code
   (ro68o f
   (decL decMsg
   (encL (encMsg 1) 1
   (ro36o (decL decMsg (encL (encMsg 1) 1 l))))))),
   V.sl
   (List.length
   (IntsResult.list
   (ro68o f
   (decL decMsg
   (encL (encMsg 1) 1
   (ro36o (decL decMsg (encL (encMsg 1) 1 l))))))))
   (gL encI
   (markI (1 : Int)
   (List.length
   (IntsResult.list
   (ro68o f
   (decL decMsg
   (encL (encMsg 1) 1
   (ro36o (decL decMsg (encL (encMsg 1) 1 l))))))))))
   1])))
   (1 : Int) <
   (0 : Int)) =
   false) →
   ((((heldI
   (IntsResult.list
   (decIntsResult
   (V.agg
   [V.int IntKind.i64
   (IntsResult.code
   (ro68o f
   (decL decMsg
   (encL (encMsg 1) 1
   (ro36o (decL decMsg (encL (encMsg 1) 1 l))))))),
   V.sl
   (List.length
   (IntsResult.list
   (ro68o f
   (decL decMsg
   (encL (encMsg 1) 1
   (ro36o (decL decMsg (encL (encMsg 1) 1 l))))))))
   (gL encI
   (markI (1 : Int)
   (List.length
   (IntsResult.list
   (ro68o f
   (decL decMsg
   (encL (encMsg 1) 1
   (ro36o (decL decMsg (encL (encMsg 1) 1 l))))))))))
   1])))
   (1 : Int) !=
   (1 : Int) +
   (↑(List.length
   (IntsResult.list
   (ro68o f
   (decL decMsg
   (encL (encMsg 1) 1 (ro36o (decL decMsg (encL (encMsg 1) 1 l)))))))) :
   Int)) =
   true) →
   (VLe (V.bool false) (V.bool true))) ∧
   (((heldI
   (IntsResult.list
   (decIntsResult
   (V.agg
   [V.int IntKind.i64
   (IntsResult.code
   (ro68o f
   (decL decMsg
   (encL (encMsg 1) 1
   (ro36o (decL decMsg (encL (encMsg 1) 1 l))))))),
   V.sl
   (List.length
   (IntsResult.list
   (ro68o f
   (decL decMsg
   (encL (encMsg 1) 1
   (ro36o (decL decMsg (encL (encMsg 1) 1 l))))))))
   (gL encI
   (markI (1 : Int)
   (List.length
   (IntsResult.list
   (ro68o f
   (decL decMsg
   (encL (encMsg 1) 1
   (ro36o (decL decMsg (encL (encMsg 1) 1 l))))))))))
   1])))
   (1 : Int) !=
   (1 : Int) +
   (↑(List.length
   (IntsResult.list
   (ro68o f
   (decL decMsg
   (encL (encMsg 1) 1 (ro36o (decL decMsg (encL (encMsg 1) 1 l)))))))) :
   Int)) =
   false) →
   (VLe (V.bool true) (V.bool true))))))))))))))))))))))))))))))))))))))))))) := by
    have hm : bdL l := hpre.2
    have f1 := @szMsgSF_bd l 1048576
    have f3 := @szMsgSF_le l 1048576 (by omega)
    obtain ⟨hl, hb⟩ := hm
    have hv : ∀ v, VLe v v := VLe.refl
    simp only [decL_Msg]
    refine ⟨⟨VLe.refl _, by omega, by unfold most; omega, hl, hb⟩, fun h => VLe.refl _, fun h => ?_⟩
    have h0 := of_decide_eq_false h
    obtain ⟨g1, g2⟩ := f1 (by omega)
    have p1 : pr36o l := ⟨by unfold most; omega, fun x hx => ⟨by have := g2 x hx; unfold most; omega, by have := g2 x hx; unfold most; omega⟩⟩
    have p2 : pr38 l l := ⟨hl, fun x hx y => hb x hx⟩
    have c1 : cntL l l.length ≤ 1048576 * 4194309 := by
      have := cntL_le (l := l) (n := 1048576) (by omega) fun x hx => by have := g2 x hx; omega
      have h2 : (l.length : Int) * (5 + 4 * (1048576 : Nat)) ≤ 1048576 * (5 + 4 * (1048576 : Nat)) := Int.mul_le_mul_of_nonneg_right (by omega) (by omega)
      omega
    have c2 := cntL_nonneg l l.length
    have p3 : mp46 l 1 := ⟨by omega, by omega, by omega⟩
    have q1 : decide (1 + cntL l l.length < 0) = false := by simp; omega
    have hn : (logOfF f l).list.length ≤ 240 := logOfF_len f l
    simp only [decL_Msg, dec_encIntsResult, ro36o, ro69o, ro68o, dec_markInts, heldI_mark, markI_len, q1]
    generalize logOfF f l = W at *
    have p4 : pr45 W W := by show W.list.length ≤ maxLen; unfold maxLen; omega
    have p5 : pr47 W.list.length 1 := ⟨by omega, by omega⟩
    have p6 : pr48 ⟨W.code, markI 1 W.list.length⟩ 1 := ⟨by omega, by simp; omega⟩
    have q2 : decide (1 + (W.list.length : Int) < 0) = false := by simp; omega
    simp [hv, p1, p2, p3, p4, p5, p6, q2]
    exact ⟨⟨hl, hb⟩, ⟨hl, hb⟩, q1, fun _ => ⟨⟨W.list, rfl, fun _ _ => ELe.refl _⟩, vle_markInts _ _ _, ⟨hl, hb⟩, vle_markInts _ _ _⟩⟩
  exact Eq.mp (by kernel_rfl) key
theorem so19 : Sound Try.prog 19 (lawD Q19) := by
  refine sound_of_body hmix (pol := 0) Try.func19 rfl (by kernel_rfl) fun args bin ob r bout hDe hob => ?_
  unfold lawD at hDe
  split at hDe
  · cases hDe
    obtain ⟨f, l, hle, hpre⟩ := hob
    have hlen : args.length = 2 := hle.1.symm
    exact ⟨rfl, rfl, by rw [hlen]; exact Nat.le_of_ble_eq_true (by kernel_rfl), cx19 f l, Eq.mp (by kernel_rfl) htt, Eq.mp (by kernel_rfl) da19, Eq.mp (by kernel_rfl) (soundAllM_cons sm46 (soundAllM_nil (P := Try.prog))), by kernel_rfl, _, hle, Eq.mp (by kernel_rfl) (bd19 f l hpre)⟩
  · cases hDe

end Go.Av
