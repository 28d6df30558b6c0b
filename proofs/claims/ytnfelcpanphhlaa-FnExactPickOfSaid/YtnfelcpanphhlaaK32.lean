/- The law on what a new view has to take over. -/
import Derived.Test.YtnfelcpanphhlaaK31
namespace Go.Av
open Go.Proofs
set_option maxRecDepth 100000
set_option linter.unusedVariables false
set_option linter.unusedSimpArgs false


/-! ### laws.FnExactPickOf -/
def pr11 (f : Int) (l : List Msg) (refs : List Int) : Prop := (Lit.int .i64 f).wf = true ∧ bdL l ∧ (refs.length ≤ maxLen ∧ ∀ x ∈ refs, (Lit.int .i64 x).wf = true)
noncomputable def rs11 (f : Int) (l : List Msg) (refs : List Int) : V := .bool (true)
def Q11 (vs : List V) : Prop := ∃ (f : Int) (l : List Msg) (refs : List Int), ArgsLe vs [.int .i64 (f), encL (encMsg 1) 1 (l), encL encI 1 (refs)] ∧ pr11 f l refs
noncomputable def D11 : Nat → Option (Bool × FSpec) := lk [(34, (false, sp34)), (36, (false, sp36o)), (54, (false, sp54o)), (38, (false, sp38)), (55, (false, sp55)), (42, (false, sp42o)), (41, (false, sp41o)), (45, (false, sp45)), (56, (true, sp56)), (47, (true, sp47)), (48, (false, sp48))]
theorem da11 : SoundAll Try.prog D11 := soundAll_cons so34 (soundAll_cons so36o (soundAll_cons so54o (soundAll_cons so38 (soundAll_cons so55 (soundAll_cons so42o (soundAll_cons so41o (soundAll_cons so45 (soundAll_cons so56 (soundAll_cons so47 (soundAll_cons so48 (soundAll_nil)))))))))))
noncomputable def cx11 (f : Int) (l : List Msg) (refs : List Int) : Cx := ⟨tt, D11, Try.f11.ntmps, [0, 1, 2, 6, 7, 8, 9, 10, 11, 12, 13, 14, 15, 18, 23, 41, 46, 51, 65, 73, 76, 86, 91, 94], [], [], fun _ => none, [18], (lk [(46, mm46)]), []⟩
theorem bd11 (f : Int) (l : List Msg) (refs : List Int) (hpre : pr11 f l refs) : bodyP (cx11 f l refs) Try.f11 0 [.int .i64 (f), encL (encMsg 1) 1 (l), encL encI 1 (refs)] (fun rr => VLe rr (rs11 f l refs)) := by
  have key :
      (((decide ((↑(List.length refs) : Int) > (1048576 : Int)) = true) →
   (VLe (V.bool true) (V.bool true))) ∧
   ((decide ((↑(List.length refs) : Int) > (1048576 : Int)) = false) →
   (((VLe (encL (encMsg 1) 1 l)
   (encL (encMsg 1) 1 (decL decMsg (encL (encMsg 1) 1 l)))) ∧
   (pr34 (decL decMsg (encL (encMsg 1) 1 l)) (1048576 : Int))) ∧
   (((decide (szMsgSF (decL decMsg (encL (encMsg 1) 1 l)) (1048576 : Int) < (0 : Int)) = true) →
   (VLe (V.bool true) (V.bool true))) ∧
   ((decide (szMsgSF (decL decMsg (encL (encMsg 1) 1 l)) (1048576 : Int) < (0 : Int)) = false) →
   (((VLe (encL (encMsg 1) 1 l)
   (encL (encMsg 1) 1 (decL decMsg (encL (encMsg 1) 1 l)))) ∧
   (pr36o (decL decMsg (encL (encMsg 1) 1 l)))) ∧
   (((VLe (encL encI 1 refs) (encL encI 1 (decL decI (encL encI 1 refs)))) ∧
   (pr54o (decL decI (encL encI 1 refs)))) ∧
   (((VLe (encL (encMsg 1) 1 (ro36o (decL decMsg (encL (encMsg 1) 1 l))))
   (encL (encMsg 1) 1
   (decL decMsg (encL (encMsg 1) 1 (ro36o (decL decMsg (encL (encMsg 1) 1 l))))))) ∧
   ((VLe (encL encI 1 (ro54o (decL decI (encL encI 1 refs))))
   (encL encI 1 (decL decI (encL encI 1 (ro54o (decL decI (encL encI 1 refs))))))) ∧
   (pr42o f (decL decMsg (encL (encMsg 1) 1 (ro36o (decL decMsg (encL (encMsg 1) 1 l)))))
   (decL decI (encL encI 1 (ro54o (decL decI (encL encI 1 refs)))))))) ∧
   (((VLe (encL (encMsg 1) 1 l)
   (encL (encMsg 1) 1 (decL decMsg (encL (encMsg 1) 1 l)))) ∧
   (pr36o (decL decMsg (encL (encMsg 1) 1 l)))) ∧
   (((VLe (encL encI 1 refs) (encL encI 1 (decL decI (encL encI 1 refs)))) ∧
   (pr54o (decL decI (encL encI 1 refs)))) ∧
   (((VLe (encL (encMsg 1) 1 (ro36o (decL decMsg (encL (encMsg 1) 1 l))))
   (encL (encMsg 1) 1
   (decL decMsg (encL (encMsg 1) 1 (ro36o (decL decMsg (encL (encMsg 1) 1 l))))))) ∧
   ((VLe (encL encI 1 (ro54o (decL decI (encL encI 1 refs))))
   (encL encI 1 (decL decI (encL encI 1 (ro54o (decL decI (encL encI 1 refs))))))) ∧
   (pr41o f (decL decMsg (encL (encMsg 1) 1 (ro36o (decL decMsg (encL (encMsg 1) 1 l)))))
   (decL decI (encL encI 1 (ro54o (decL decI (encL encI 1 refs)))))))) ∧
   (((VLe
   (encIntsResult 1
   (ro41o f
   (decL decMsg (encL (encMsg 1) 1 (ro36o (decL decMsg (encL (encMsg 1) 1 l)))))
   (decL decI (encL encI 1 (ro54o (decL decI (encL encI 1 refs)))))))
   (encIntsResult 1
   (decIntsResult
   (encIntsResult 1
   (ro41o f
   (decL decMsg (encL (encMsg 1) 1 (ro36o (decL decMsg (encL (encMsg 1) 1 l)))))
   (decL decI (encL encI 1 (ro54o (decL decI (encL encI 1 refs)))))))))) ∧
   ((VLe
   (encIntsResult 1
   (ro42o f
   (decL decMsg (encL (encMsg 1) 1 (ro36o (decL decMsg (encL (encMsg 1) 1 l)))))
   (decL decI (encL encI 1 (ro54o (decL decI (encL encI 1 refs)))))))
   (encIntsResult 1
   (decIntsResult
   (encIntsResult 1
   (ro42o f
   (decL decMsg (encL (encMsg 1) 1 (ro36o (decL decMsg (encL (encMsg 1) 1 l)))))
   (decL decI (encL encI 1 (ro54o (decL decI (encL encI 1 refs)))))))))) ∧
   (pr45
   (decIntsResult
   (encIntsResult 1
   (ro41o f
   (decL decMsg (encL (encMsg 1) 1 (ro36o (decL decMsg (encL (encMsg 1) 1 l)))))
   (decL decI (encL encI 1 (ro54o (decL decI (encL encI 1 refs))))))))
   (decIntsResult
   (encIntsResult 1
   (ro42o f
   (decL decMsg (encL (encMsg 1) 1 (ro36o (decL decMsg (encL (encMsg 1) 1 l)))))
   (decL decI (encL encI 1 (ro54o (decL decI (encL encI 1 refs))))))))))) ∧
   ((((!decide
   (decIntsResult
   (encIntsResult 1
   (ro41o f
   (decL decMsg
   (encL (encMsg 1) 1 (ro36o (decL decMsg (encL (encMsg 1) 1 l)))))
   (decL decI (encL encI 1 (ro54o (decL decI (encL encI 1 refs))))))) =
   decIntsResult
   (encIntsResult 1
   (ro42o f
   (decL decMsg
   (encL (encMsg 1) 1 (ro36o (decL decMsg (encL (encMsg 1) 1 l)))))
   (decL decI (encL encI 1 (ro54o (decL decI (encL encI 1 refs))))))))) =
   true) →
   (VLe (V.bool false) (V.bool true))) ∧
   (((!decide
   (decIntsResult
   (encIntsResult 1
   (ro41o f
   (decL decMsg
   (encL (encMsg 1) 1 (ro36o (decL decMsg (encL (encMsg 1) 1 l)))))
   (decL decI (encL encI 1 (ro54o (decL decI (encL encI 1 refs))))))) =
   decIntsResult
   (encIntsResult 1
   (ro42o f
   (decL decMsg
   (encL (encMsg 1) 1 (ro36o (decL decMsg (encL (encMsg 1) 1 l)))))
   (decL decI (encL encI 1 (ro54o (decL decI (encL encI 1 refs))))))))) =
   false) →
   (((VLe (encL (encMsg 1) 1 l)
   (encL (encMsg 1) 1 (decL decMsg (encL (encMsg 1) 1 l)))) ∧
   (pr36o (decL decMsg (encL (encMsg 1) 1 l)))) ∧
   (((VLe (encL (encMsg 1) 1 (ro36o (decL decMsg (encL (encMsg 1) 1 l))))
   (encL (encMsg 1) 1
   (decL decMsg (encL (encMsg 1) 1 (ro36o (decL decMsg (encL (encMsg 1) 1 l))))))) ∧
   ((VLe (encL (encMsg 1) 1 (ro36o (decL decMsg (encL (encMsg 1) 1 l))))
   (encL (encMsg 1) 1
   (decL decMsg (encL (encMsg 1) 1 (ro36o (decL decMsg (encL (encMsg 1) 1 l))))))) ∧
   (pr38 (decL decMsg (encL (encMsg 1) 1 (ro36o (decL decMsg (encL (encMsg 1) 1 l)))))
   (decL decMsg (encL (encMsg 1) 1 (ro36o (decL decMsg (encL (encMsg 1) 1 l)))))))) ∧
   ((((!decide
   (decL decMsg (encL (encMsg 1) 1 (ro36o (decL decMsg (encL (encMsg 1) 1 l)))) =
   decL decMsg (encL (encMsg 1) 1 (ro36o (decL decMsg (encL (encMsg 1) 1 l)))))) =
   true) →
   (VLe (V.bool false) (V.bool true))) ∧
   (((!decide
   (decL decMsg (encL (encMsg 1) 1 (ro36o (decL decMsg (encL (encMsg 1) 1 l)))) =
   decL decMsg (encL (encMsg 1) 1 (ro36o (decL decMsg (encL (encMsg 1) 1 l)))))) =
   false) →
   (((VLe (encL encI 1 refs) (encL encI 1 (decL decI (encL encI 1 refs)))) ∧
   (pr54o (decL decI (encL encI 1 refs)))) ∧
   (((VLe (encL encI 1 (ro54o (decL decI (encL encI 1 refs))))
   (encL encI 1 (decL decI (encL encI 1 (ro54o (decL decI (encL encI 1 refs))))))) ∧
   ((VLe (encL encI 1 (ro54o (decL decI (encL encI 1 refs))))
   (encL encI 1 (decL decI (encL encI 1 (ro54o (decL decI (encL encI 1 refs))))))) ∧
   (pr55 (decL decI (encL encI 1 (ro54o (decL decI (encL encI 1 refs)))))
   (decL decI (encL encI 1 (ro54o (decL decI (encL encI 1 refs)))))))) ∧
   ((((!decide
   (decL decI (encL encI 1 (ro54o (decL decI (encL encI 1 refs)))) =
   decL decI (encL encI 1 (ro54o (decL decI (encL encI 1 refs)))))) =
   true) →
   (VLe (V.bool false) (V.bool true))) ∧
   (((!decide
   (decL decI (encL encI 1 (ro54o (decL decI (encL encI 1 refs)))) =
   decL decI (encL encI 1 (ro54o (decL decI (encL encI 1 refs)))))) =
   false) →
   (((VLe (encL (encMsg 1) 1 (ro36o (decL decMsg (encL (encMsg 1) 1 l))))
   (encL (encMsg 1) 1
   (decL decMsg (encL (encMsg 1) 1 (ro36o (decL decMsg (encL (encMsg 1) 1 l))))))) ∧
   (mp46 (decL decMsg (encL (encMsg 1) 1 (ro36o (decL decMsg (encL (encMsg 1) 1 l)))))
   (1 : Int))) ∧
   ((((0 = 0) ∧
   ((1 = 1) ∧
   ((100 = 100) ∧
   ((List.length (ro54o (decL decI (encL encI 1 refs))) = List.length (ro54o (decL decI (encL encI 1 refs)))) ∧
   (∃ y : List Int, ((List.length y = List.length (ro54o (decL decI (encL encI 1 refs)))) ∧
   (∀ i : Nat,
   ((i < List.length (ro54o (decL decI (encL encI 1 refs)))) →
   (ELe (V.int IntKind.i64 (List.getD (ro54o (decL decI (encL encI 1 refs))) i default))
   (V.int IntKind.i64 (List.getD y i default))))))))))) ∧
   (pr56 (List.length (ro54o (decL decI (encL encI 1 refs))))
   ((1 : Int) +
   cntL (decL decMsg (encL (encMsg 1) 1 (ro36o (decL decMsg (encL (encMsg 1) 1 l)))))
   (List.length
   (decL decMsg (encL (encMsg 1) 1 (ro36o (decL decMsg (encL (encMsg 1) 1 l))))))))) ∧
   ((List.length (ro54o (decL decI (encL encI 1 refs))) = List.length (ro54o (decL decI (encL encI 1 refs)))) ∧
   ((tq (!decide
   ((1 : Int) +
   cntL
   (decL decMsg
   (encL (encMsg 1) 1 (ro36o (decL decMsg (encL (encMsg 1) 1 l)))))
   (List.length
   (decL decMsg
   (encL (encMsg 1) 1 (ro36o (decL decMsg (encL (encMsg 1) 1 l)))))) +
   (↑(List.length (ro54o (decL decI (encL encI 1 refs)))) : Int) <
   (0 : Int)))) ∧
   ((tq (!decide
   ((1 : Int) +
   cntL
   (decL decMsg
   (encL (encMsg 1) 1 (ro36o (decL decMsg (encL (encMsg 1) 1 l)))))
   (List.length
   (decL decMsg
   (encL (encMsg 1) 1 (ro36o (decL decMsg (encL (encMsg 1) 1 l)))))) +
   (↑(List.length (ro54o (decL decI (encL encI 1 refs)))) : Int) <
   (0 : Int)))) ∧
   ((((!decide
   ((1 : Int) +
   cntL
   (decL decMsg
   (encL (encMsg 1) 1 (ro36o (decL decMsg (encL (encMsg 1) 1 l)))))
   (List.length
   (decL decMsg
   (encL (encMsg 1) 1 (ro36o (decL decMsg (encL (encMsg 1) 1 l)))))) +
   (↑(List.length (ro54o (decL decI (encL encI 1 refs)))) : Int) <
   (0 : Int))) =
   true) →
   ((VLe
   (encIntsResult 1
   (ro41o f
   (decL decMsg (encL (encMsg 1) 1 (ro36o (decL decMsg (encL (encMsg 1) 1 l)))))
   (decL decI (encL encI 1 (ro54o (decL decI (encL encI 1 refs)))))))
   (encIntsResult 1
   (decIntsResult
   (encIntsResult 1
   (ro41o f
   (decL decMsg (encL (encMsg 1) 1 (ro36o (decL decMsg (encL (encMsg 1) 1 l)))))
   (decL decI (encL encI 1 (ro54o (decL decI (encL encI 1 refs)))))))))) ∧
   ((VLe
   (encIntsResult 1
   (ro42o f
   (decL decMsg (encL (encMsg 1) 1 (ro36o (decL decMsg (encL (encMsg 1) 1 l)))))
   (decL decI (encL encI 1 (ro54o (decL decI (encL encI 1 refs)))))))
   (encIntsResult 1
   (decIntsResult
   (encIntsResult 1
   (ro42o f
   (decL decMsg (encL (encMsg 1) 1 (ro36o (decL decMsg (encL (encMsg 1) 1 l)))))
   (decL decI (encL encI 1 (ro54o (decL decI (encL encI 1 refs)))))))))) ∧
   (pr45
   (decIntsResult
   (encIntsResult 1
   (ro41o f
   (decL decMsg (encL (encMsg 1) 1 (ro36o (decL decMsg (encL (encMsg 1) 1 l)))))
   (decL decI (encL encI 1 (ro54o (decL decI (encL encI 1 refs))))))))
   (decIntsResult
   (encIntsResult 1
   (ro42o f
   (decL decMsg (encL (encMsg 1) 1 (ro36o (decL decMsg (encL (encMsg 1) 1 l)))))
   (decL decI (encL encI 1 (ro54o (decL decI (encL encI 1 refs)))))))))))) ∧
   ((tq (!decide
   ((1 : Int) +
   cntL
   (decL decMsg
   (encL (encMsg 1) 1 (ro36o (decL decMsg (encL (encMsg 1) 1 l)))))
   (List.length
   (decL decMsg
   (encL (encMsg 1) 1 (ro36o (decL decMsg (encL (encMsg 1) 1 l)))))) +
   (↑(List.length (ro54o (decL decI (encL encI 1 refs)))) : Int) <
   (0 : Int)))) ∧
   (((true = true) →
   ((decide
   ((1 : Int) +
   cntL
   (decL decMsg
   (encL (encMsg 1) 1 (ro36o (decL decMsg (encL (encMsg 1) 1 l)))))
   (List.length
   (decL decMsg
   (encL (encMsg 1) 1 (ro36o (decL decMsg (encL (encMsg 1) 1 l)))))) +
   (↑(List.length (ro54o (decL decI (encL encI 1 refs)))) : Int) <
   (0 : Int)) =
   false) →
   ((!decide
   ((1 : Int) +
   cntL
   (decL decMsg
   (encL (encMsg 1) 1 (ro36o (decL decMsg (encL (encMsg 1) 1 l)))))
   (List.length
   (decL decMsg
   (encL (encMsg 1) 1 (ro36o (decL decMsg (encL (encMsg 1) 1 l)))))) +
   (↑(List.length (ro54o (decL decI (encL encI 1 refs)))) : Int) <
   (0 : Int))) =
   true))) ∧
   (∀ b : Bool,
   ((b =
   bif
   decide
   ((1 : Int) +
   cntL
   (decL decMsg
   (encL (encMsg 1) 1 (ro36o (decL decMsg (encL (encMsg 1) 1 l)))))
   (List.length
   (decL decMsg
   (encL (encMsg 1) 1 (ro36o (decL decMsg (encL (encMsg 1) 1 l)))))) +
   (↑(List.length (ro54o (decL decI (encL encI 1 refs)))) : Int) <
   (0 : Int)) then
   true
   else
   !decide
   (decIntsResult
   (encIntsResult 1
   (ro41o f
   (decL decMsg
   (encL (encMsg 1) 1 (ro36o (decL decMsg (encL (encMsg 1) 1 l)))))
   (decL decI (encL encI 1 (ro54o (decL decI (encL encI 1 refs))))))) =
   decIntsResult
   (encIntsResult 1
   (ro42o f
   (decL decMsg
   (encL (encMsg 1) 1 (ro36o (decL decMsg (encL (encMsg 1) 1 l)))))
   (decL decI (encL encI 1 (ro54o (decL decI (encL encI 1 refs))))))))) →
   (((b = true) →
   (VLe (V.bool false) (V.bool true))) ∧
   ((b = false) →
   ((((0 = 0) ∧
   ((1 = 1) ∧
   ((100 = 100) ∧
   ((List.length
   (IntsResult.list
   (ro41o f
   (decL decMsg (encL (encMsg 1) 1 (ro36o (decL decMsg (encL (encMsg 1) 1 l)))))
   (decL decI (encL encI 1 (ro54o (decL decI (encL encI 1 refs))))))) =
   List.length
   (IntsResult.list
   (ro41o f
   (decL decMsg (encL (encMsg 1) 1 (ro36o (decL decMsg (encL (encMsg 1) 1 l)))))
   (decL decI (encL encI 1 (ro54o (decL decI (encL encI 1 refs)))))))) ∧
   (∃ y : List Int, ((List.length y =
   List.length
   (IntsResult.list
   (ro41o f
   (decL decMsg (encL (encMsg 1) 1 (ro36o (decL decMsg (encL (encMsg 1) 1 l)))))
   (decL decI (encL encI 1 (ro54o (decL decI (encL encI 1 refs)))))))) ∧
   (∀ i : Nat,
   ((i <
   List.length
   (IntsResult.list
   (ro41o f
   (decL decMsg (encL (encMsg 1) 1 (ro36o (decL decMsg (encL (encMsg 1) 1 l)))))
   (decL decI (encL encI 1 (ro54o (decL decI (encL encI 1 refs)))))))) →
   (ELe
   (V.int IntKind.i64
   (List.getD
   (IntsResult.list
   (ro41o f
   (decL decMsg (encL (encMsg 1) 1 (ro36o (decL decMsg (encL (encMsg 1) 1 l)))))
   (decL decI (encL encI 1 (ro54o (decL decI (encL encI 1 refs)))))))
   i default))
   (V.int IntKind.i64 (List.getD y i default))))))))))) ∧
   (pr47
   (List.length
   (IntsResult.list
   (ro41o f
   (decL decMsg (encL (encMsg 1) 1 (ro36o (decL decMsg (encL (encMsg 1) 1 l)))))
   (decL decI (encL encI 1 (ro54o (decL decI (encL encI 1 refs))))))))
   (1 : Int))) ∧
   ((List.length
   (IntsResult.list
   (ro41o f
   (decL decMsg (encL (encMsg 1) 1 (ro36o (decL decMsg (encL (encMsg 1) 1 l)))))
   (decL decI (encL encI 1 (ro54o (decL decI (encL encI 1 refs))))))) =
   List.length
   (IntsResult.list
   (ro41o f
   (decL decMsg (encL (encMsg 1) 1 (ro36o (decL decMsg (encL (encMsg 1) 1 l)))))
   (decL decI (encL encI 1 (ro54o (decL decI (encL encI 1 refs)))))))) ∧
   (((VLe
   (V.agg
   [V.int IntKind.i64
   (IntsResult.code
   (ro41o f
   (decL decMsg
   (encL (encMsg 1) 1 (ro36o (decL decMsg (encL (encMsg 1) 1 l)))))
   (decL decI (encL encI 1 (ro54o (decL decI (encL encI 1 refs))))))),
   V.sl
   (List.length
   (IntsResult.list
   (ro41o f
   (decL decMsg
   (encL (encMsg 1) 1 (ro36o (decL decMsg (encL (encMsg 1) 1 l)))))
   (decL decI (encL encI 1 (ro54o (decL decI (encL encI 1 refs))))))))
   (gL encI
   (markI (1 : Int)
   (List.length
   (IntsResult.list
   (ro41o f
   (decL decMsg
   (encL (encMsg 1) 1 (ro36o (decL decMsg (encL (encMsg 1) 1 l)))))
   (decL decI (encL encI 1 (ro54o (decL decI (encL encI 1 refs))))))))))
   1])
   (encIntsResult 1
   (decIntsResult
   (V.agg
   [V.int IntKind.i64
   (IntsResult.code
   (ro41o f
   (decL decMsg
   (encL (encMsg 1) 1 (ro36o (decL decMsg (encL (encMsg 1) 1 l)))))
   (decL decI (encL encI 1 (ro54o (decL decI (encL encI 1 refs))))))),
   V.sl
   (List.length
   (IntsResult.list
   (ro41o f
   (decL decMsg
   (encL (encMsg 1) 1 (ro36o (decL decMsg (encL (encMsg 1) 1 l)))))
   (decL decI (encL encI 1 (ro54o (decL decI (encL encI 1 refs))))))))
   (gL encI
   (markI (1 : Int)
   (List.length
   (IntsResult.list
   (ro41o f
   (decL decMsg
   (encL (encMsg 1) 1 (ro36o (decL decMsg (encL (encMsg 1) 1 l)))))
   (decL decI (encL encI 1 (ro54o (decL decI (encL encI 1 refs))))))))))
   1])))) ∧
   (pr48
   (decIntsResult
   (V.agg
   [V.int IntKind.i64
   (IntsResult.code
   (ro41o f
   (decL decMsg
   (encL (encMsg 1) 1 (ro36o (decL decMsg (encL (encMsg 1) 1 l)))))
   (decL decI (encL encI 1 (ro54o (decL decI (encL encI 1 refs))))))),
   V.sl
   (List.length
   (IntsResult.list
   (ro41o f
   (decL decMsg
   (encL (encMsg 1) 1 (ro36o (decL decMsg (encL (encMsg 1) 1 l)))))
   (decL decI (encL encI 1 (ro54o (decL decI (encL encI 1 refs))))))))
   (gL encI
   (markI (1 : Int)
   (List.length
   (IntsResult.list
   (ro41o f
   (decL decMsg
   (encL (encMsg 1) 1 (ro36o (decL decMsg (encL (encMsg 1) 1 l)))))
   (decL decI (encL encI 1 (ro54o (decL decI (encL encI 1 refs))))))))))
   1]))
   (1 : Int))) ∧
   (((decide
   (heldI
   (IntsResult.list
   (decIntsResult
   (V.agg
   [V.int IntKind.i64
   (IntsResult.code
   (ro41o f
   (decL decMsg
   (encL (encMsg 1) 1 (ro36o (decL decMsg (encL (encMsg 1) 1 l)))))
   (decL decI (encL encI 1 (ro54o (decL decI (encL encI 1 refs))))))),
   V.sl
   (List.length
   (IntsResult.list
   (ro41o f
   (decL decMsg
   (encL (encMsg 1) 1
   (ro36o (decL decMsg (encL (encMsg 1) 1 l)))))
   (decL decI (encL encI 1 (ro54o (decL decI (encL encI 1 refs))))))))
   (gL encI
   (markI (1 : Int)
   (List.length
   (IntsResult.list
   (ro41o f
   (decL decMsg
   (encL (encMsg 1) 1
   (ro36o (decL decMsg (encL (encMsg 1) 1 l)))))
   (decL decI (encL encI 1 (ro54o (decL decI (encL encI 1 refs))))))))))
   1])))
   (1 : Int) <
   (0 : Int)) =
   true) →
   (VLe (V.bool false) (V.bool true))) ∧
   ((decide
   (heldI
   (IntsResult.list
   (decIntsResult
   (V.agg
   [V.int IntKind.i64
   (IntsResult.code
   (ro41o f
   (decL decMsg
   (encL (encMsg 1) 1 (ro36o (decL decMsg (encL (encMsg 1) 1 l)))))
   (decL decI (encL encI 1 (ro54o (decL decI (encL encI 1 refs))))))),
   V.sl
   (List.length
   (IntsResult.list
   (ro41o f
   (decL decMsg
   (encL (encMsg 1) 1
   (ro36o (decL decMsg (encL (encMsg 1) 1 l)))))
   (decL decI (encL encI 1 (ro54o (decL decI (encL encI 1 refs))))))))
   (gL encI
   (markI (1 : Int)
   (List.length
   (IntsResult.list
   (ro41o f
   (decL decMsg
   (encL (encMsg 1) 1
   (ro36o (decL decMsg (encL (encMsg 1) 1 l)))))
   (decL decI (encL encI 1 (ro54o (decL decI (encL encI 1 refs))))))))))
   1])))
   (1 : Int) <
   (0 : Int)) =
   false) →
   ((((heldI
   (IntsResult.list
   (decIntsResult
   (V.agg
   [V.int IntKind.i64
   (IntsResult.code
   (ro41o f
   (decL decMsg
   (encL (encMsg 1) 1 (ro36o (decL decMsg (encL (encMsg 1) 1 l)))))
   (decL decI (encL encI 1 (ro54o (decL decI (encL encI 1 refs))))))),
   V.sl
   (List.length
   (IntsResult.list
   (ro41o f
   (decL decMsg
   (encL (encMsg 1) 1 (ro36o (decL decMsg (encL (encMsg 1) 1 l)))))
   (decL decI (encL encI 1 (ro54o (decL decI (encL encI 1 refs))))))))
   (gL encI
   (markI (1 : Int)
   (List.length
   (IntsResult.list
   (ro41o f
   (decL decMsg
   (encL (encMsg 1) 1
   (ro36o (decL decMsg (encL (encMsg 1) 1 l)))))
   (decL decI (encL encI 1 (ro54o (decL decI (encL encI 1 refs))))))))))
   1])))
   (1 : Int) !=
   (1 : Int) +
   (↑(List.length
   (IntsResult.list
   (ro41o f
   (decL decMsg
   (encL (encMsg 1) 1 (ro36o (decL decMsg (encL (encMsg 1) 1 l)))))
   (decL decI (encL encI 1 (ro54o (decL decI (encL encI 1 refs)))))))) :
   Int)) =
   true) →
   (VLe (V.bool false) (V.bool true))) ∧
   (((heldI
   (IntsResult.list
   (decIntsResult
   (V.agg
   [V.int IntKind.i64
   (IntsResult.code
   (ro41o f
   (decL decMsg
   (encL (encMsg 1) 1 (ro36o (decL decMsg (encL (encMsg 1) 1 l)))))
   (decL decI (encL encI 1 (ro54o (decL decI (encL encI 1 refs))))))),
   V.sl
   (List.length
   (IntsResult.list
   (ro41o f
   (decL decMsg
   (encL (encMsg 1) 1 (ro36o (decL decMsg (encL (encMsg 1) 1 l)))))
   (decL decI (encL encI 1 (ro54o (decL decI (encL encI 1 refs))))))))
   (gL encI
   (markI (1 : Int)
   (List.length
   (IntsResult.list
   (ro41o f
   (decL decMsg
   (encL (encMsg 1) 1
   (ro36o (decL decMsg (encL (encMsg 1) 1 l)))))
   (decL decI (encL encI 1 (ro54o (decL decI (encL encI 1 refs))))))))))
   1])))
   (1 : Int) !=
   (1 : Int) +
   (↑(List.length
   (IntsResult.list
   (ro41o f
   (decL decMsg
   (encL (encMsg 1) 1 (ro36o (decL decMsg (encL (encMsg 1) 1 l)))))
   (decL decI (encL encI 1 (ro54o (decL decI (encL encI 1 refs)))))))) :
   Int)) =
   false) →
   (((VLe (encL (encMsg 1) 1 l)
   (encL (encMsg 1) 1 (decL decMsg (encL (encMsg 1) 1 l)))) ∧
   (pr36o (decL decMsg (encL (encMsg 1) 1 l)))) ∧
   (((VLe (encL encI 1 refs) (encL encI 1 (decL decI (encL encI 1 refs)))) ∧
   (pr54o (decL decI (encL encI 1 refs)))) ∧
   (((VLe (encL (encMsg 1) 1 (ro36o (decL decMsg (encL (encMsg 1) 1 l))))
   (encL (encMsg 1) 1
   (decL decMsg (encL (encMsg 1) 1 (ro36o (decL decMsg (encL (encMsg 1) 1 l))))))) ∧
   ((VLe (encL encI 1 (ro54o (decL decI (encL encI 1 refs))))
   (encL encI 1 (decL decI (encL encI 1 (ro54o (decL decI (encL encI 1 refs))))))) ∧
   (pr41o f (decL decMsg (encL (encMsg 1) 1 (ro36o (decL decMsg (encL (encMsg 1) 1 l)))))
   (decL decI (encL encI 1 (ro54o (decL decI (encL encI 1 refs)))))))) ∧
   (((VLe
   (encIntsResult 1
   (ro41o f
   (decL decMsg (encL (encMsg 1) 1 (ro36o (decL decMsg (encL (encMsg 1) 1 l)))))
   (decL decI (encL encI 1 (ro54o (decL decI (encL encI 1 refs)))))))
   (encIntsResult 1
   (decIntsResult
   (encIntsResult 1
   (ro41o f
   (decL decMsg (encL (encMsg 1) 1 (ro36o (decL decMsg (encL (encMsg 1) 1 l)))))
   (decL decI (encL encI 1 (ro54o (decL decI (encL encI 1 refs)))))))))) ∧
   ((VLe
   (encIntsResult 1
   (ro42o f
   (decL decMsg (encL (encMsg 1) 1 (ro36o (decL decMsg (encL (encMsg 1) 1 l)))))
   (decL decI (encL encI 1 (ro54o (decL decI (encL encI 1 refs)))))))
   (encIntsResult 1
   (decIntsResult
   (encIntsResult 1
   (ro42o f
   (decL decMsg (encL (encMsg 1) 1 (ro36o (decL decMsg (encL (encMsg 1) 1 l)))))
   (decL decI (encL encI 1 (ro54o (decL decI (encL encI 1 refs)))))))))) ∧
   (pr45
   (decIntsResult
   (encIntsResult 1
   (ro41o f
   (decL decMsg (encL (encMsg 1) 1 (ro36o (decL decMsg (encL (encMsg 1) 1 l)))))
   (decL decI (encL encI 1 (ro54o (decL decI (encL encI 1 refs))))))))
   (decIntsResult
   (encIntsResult 1
   (ro42o f
   (decL decMsg (encL (encMsg 1) 1 (ro36o (decL decMsg (encL (encMsg 1) 1 l)))))
   (decL decI (encL encI 1 (ro54o (decL decI (encL encI 1 refs))))))))))) ∧
   ((((!decide
   (decIntsResult
   (encIntsResult 1
   (ro41o f
   (decL decMsg
   (encL (encMsg 1) 1 (ro36o (decL decMsg (encL (encMsg 1) 1 l)))))
   (decL decI (encL encI 1 (ro54o (decL decI (encL encI 1 refs))))))) =
   decIntsResult
   (encIntsResult 1
   (ro42o f
   (decL decMsg
   (encL (encMsg 1) 1 (ro36o (decL decMsg (encL (encMsg 1) 1 l)))))
   (decL decI (encL encI 1 (ro54o (decL decI (encL encI 1 refs))))))))) =
   true) →
   (VLe (V.bool false) (V.bool true))) ∧
   (((!decide
   (decIntsResult
   (encIntsResult 1
   (ro41o f
   (decL decMsg
   (encL (encMsg 1) 1 (ro36o (decL decMsg (encL (encMsg 1) 1 l)))))
   (decL decI (encL encI 1 (ro54o (decL decI (encL encI 1 refs))))))) =
   decIntsResult
   (encIntsResult 1
   (ro42o f
   (decL decMsg
   (encL (encMsg 1) 1 (ro36o (decL decMsg (encL (encMsg 1) 1 l)))))
   (decL decI (encL encI 1 (ro54o (decL decI (encL encI 1 refs))))))))) =
   false) →
   (((VLe
   (V.agg
   [V.int IntKind.i64
   (IntsResult.code
   (ro41o f
   (decL decMsg
   (encL (encMsg 1) 1 (ro36o (decL decMsg (encL (encMsg 1) 1 l)))))
   (decL decI (encL encI 1 (ro54o (decL decI (encL encI 1 refs))))))),
   V.sl
   (List.length
   (IntsResult.list
   (ro41o f
   (decL decMsg
   (encL (encMsg 1) 1 (ro36o (decL decMsg (encL (encMsg 1) 1 l)))))
   (decL decI (encL encI 1 (ro54o (decL decI (encL encI 1 refs))))))))
   (gL encI
   (markI (1 : Int)
   (List.length
   (IntsResult.list
   (ro41o f
   (decL decMsg
   (encL (encMsg 1) 1 (ro36o (decL decMsg (encL (encMsg 1) 1 l)))))
   (decL decI (encL encI 1 (ro54o (decL decI (encL encI 1 refs))))))))))
   1])
   (encIntsResult 1
   (decIntsResult
   (V.agg
   [V.int IntKind.i64
   (IntsResult.code
   (ro41o f
   (decL decMsg
   (encL (encMsg 1) 1 (ro36o (decL decMsg (encL (encMsg 1) 1 l)))))
   (decL decI (encL encI 1 (ro54o (decL decI (encL encI 1 refs))))))),
   V.sl
   (List.length
   (IntsResult.list
   (ro41o f
   (decL decMsg
   (encL (encMsg 1) 1 (ro36o (decL decMsg (encL (encMsg 1) 1 l)))))
   (decL decI (encL encI 1 (ro54o (decL decI (encL encI 1 refs))))))))
   (gL encI
   (markI (1 : Int)
   (List.length
   (IntsResult.list
   (ro41o f
   (decL decMsg
   (encL (encMsg 1) 1 (ro36o (decL decMsg (encL (encMsg 1) 1 l)))))
   (decL decI (encL encI 1 (ro54o (decL decI (encL encI 1 refs))))))))))
   1])))) ∧
   (pr48
   (decIntsResult
   (V.agg
   [V.int IntKind.i64
   (IntsResult.code
   (ro41o f
   (decL decMsg
   (encL (encMsg 1) 1 (ro36o (decL decMsg (encL (encMsg 1) 1 l)))))
   (decL decI (encL encI 1 (ro54o (decL decI (encL encI 1 refs))))))),
   V.sl
   (List.length
   (IntsResult.list
   (ro41o f
   (decL decMsg
   (encL (encMsg 1) 1 (ro36o (decL decMsg (encL (encMsg 1) 1 l)))))
   (decL decI (encL encI 1 (ro54o (decL decI (encL encI 1 refs))))))))
   (gL encI
   (markI (1 : Int)
   (List.length
   (IntsResult.list
   (ro41o f
   (decL decMsg
   (encL (encMsg 1) 1 (ro36o (decL decMsg (encL (encMsg 1) 1 l)))))
   (decL decI (encL encI 1 (ro54o (decL decI (encL encI 1 refs))))))))))
   1]))
   (1 : Int))) ∧
   (((decide
   (heldI
   (IntsResult.list
   (decIntsResult
   (V.agg
   [V.int IntKind.i64
   (IntsResult.code
   (ro41o f
   (decL decMsg
   (encL (encMsg 1) 1 (ro36o (decL decMsg (encL (encMsg 1) 1 l)))))
   (decL decI (encL encI 1 (ro54o (decL decI (encL encI 1 refs))))))),
   V.sl
   (List.length
   (IntsResult.list
   (ro41o f
   (decL decMsg
   (encL (encMsg 1) 1
   (ro36o (decL decMsg (encL (encMsg 1) 1 l)))))
   (decL decI (encL encI 1 (ro54o (decL decI (encL encI 1 refs))))))))
   (gL encI
   (markI (1 : Int)
   (List.length
   (IntsResult.list
   (ro41o f
   (decL decMsg
   (encL (encMsg 1) 1
   (ro36o (decL decMsg (encL (encMsg 1) 1 l)))))
   (decL decI (encL encI 1 (ro54o (decL decI (encL encI 1 refs))))))))))
   1])))
   (1 : Int) <
   (0 : Int)) =
   true) →
   (VLe (V.bool false) (V.bool true))) ∧
   ((decide
   (heldI
   (IntsResult.list
   (decIntsResult
   (V.agg
   [V.int IntKind.i64
   (IntsResult.code
   (ro41o f
   (decL decMsg
   (encL (encMsg 1) 1 (ro36o (decL decMsg (encL (encMsg 1) 1 l)))))
   (decL decI (encL encI 1 (ro54o (decL decI (encL encI 1 refs))))))),
   V.sl
   (List.length
   (IntsResult.list
   (ro41o f
   (decL decMsg
   (encL (encMsg 1) 1
   (ro36o (decL decMsg (encL (encMsg 1) 1 l)))))
   (decL decI (encL encI 1 (ro54o (decL decI (encL encI 1 refs))))))))
   (gL encI
   (markI (1 : Int)
   (List.length
   (IntsResult.list
   (ro41o f
   (decL decMsg
   (encL (encMsg 1) 1
   (ro36o (decL decMsg (encL (encMsg 1) 1 l)))))
   (decL decI (encL encI 1 (ro54o (decL decI (encL encI 1 refs))))))))))
   1])))
   (1 : Int) <
   (0 : Int)) =
   false) →
   ((((heldI
   (IntsResult.list
   (decIntsResult
   (V.agg
   [V.int IntKind.i64
   (IntsResult.code
   (ro41o f
   (decL decMsg
   (encL (encMsg 1) 1 (ro36o (decL decMsg (encL (encMsg 1) 1 l)))))
   (decL decI (encL encI 1 (ro54o (decL decI (encL encI 1 refs))))))),
   V.sl
   (List.length
   (IntsResult.list
   (ro41o f
   (decL decMsg
   (encL (encMsg 1) 1 (ro36o (decL decMsg (encL (encMsg 1) 1 l)))))
   (decL decI (encL encI 1 (ro54o (decL decI (encL encI 1 refs))))))))
   (gL encI
   (markI (1 : Int)
   (List.length
   (IntsResult.list
   (ro41o f
   (decL decMsg
   (encL (encMsg 1) 1
   (ro36o (decL decMsg (encL (encMsg 1) 1 l)))))
   (decL decI (encL encI 1 (ro54o (decL decI (encL encI 1 refs))))))))))
   1])))
   (1 : Int) !=
   (1 : Int) +
   (↑(List.length
   (IntsResult.list
   (ro41o f
   (decL decMsg
   (encL (encMsg 1) 1 (ro36o (decL decMsg (encL (encMsg 1) 1 l)))))
   (decL decI (encL encI 1 (ro54o (decL decI (encL encI 1 refs)))))))) :
   Int)) =
   true) →
   (VLe (V.bool false) (V.bool true))) ∧
   (((heldI
   (IntsResult.list
   (decIntsResult
   (V.agg
   [V.int IntKind.i64
   (IntsResult.code
   (ro41o f
   (decL decMsg
   (encL (encMsg 1) 1 (ro36o (decL decMsg (encL (encMsg 1) 1 l)))))
   (decL decI (encL encI 1 (ro54o (decL decI (encL encI 1 refs))))))),
   V.sl
   (List.length
   (IntsResult.list
   (ro41o f
   (decL decMsg
   (encL (encMsg 1) 1 (ro36o (decL decMsg (encL (encMsg 1) 1 l)))))
   (decL decI (encL encI 1 (ro54o (decL decI (encL encI 1 refs))))))))
   (gL encI
   (markI (1 : Int)
   (List.length
   (IntsResult.list
   (ro41o f
   (decL decMsg
   (encL (encMsg 1) 1
   (ro36o (decL decMsg (encL (encMsg 1) 1 l)))))
   (decL decI (encL encI 1 (ro54o (decL decI (encL encI 1 refs))))))))))
   1])))
   (1 : Int) !=
   (1 : Int) +
   (↑(List.length
   (IntsResult.list
   (ro41o f
   (decL decMsg
   (encL (encMsg 1) 1 (ro36o (decL decMsg (encL (encMsg 1) 1 l)))))
   (decL decI (encL encI 1 (ro54o (decL decI (encL encI 1 refs)))))))) :
   Int)) =
   false) →
   (VLe (V.bool true) (V.bool true)))))))))))))))))))))))))))))))))))))))))))))))))))))) := by
    have hm : bdL l := hpre.2.1
    have hrl := hpre.2.2.1
    have f1 := @szMsgSF_bd l 1048576
    have f3 := @szMsgSF_le l 1048576 (by omega)
    obtain ⟨hl, hb⟩ := hm
    have hv : ∀ v, VLe v v := VLe.refl
    simp only [decL_Msg, decL_ints]
    refine ⟨fun h => VLe.refl _, fun hr1 => ⟨⟨VLe.refl _, by omega, by unfold most; omega, hl, hb⟩, fun h => VLe.refl _, fun h => ?_⟩⟩
    have hr1 : refs.length ≤ 1048576 := by have := of_decide_eq_false hr1; omega
    have h0 := of_decide_eq_false h
    obtain ⟨g1, g2⟩ := f1 (by omega)
    have p1 : pr36o l := ⟨by unfold most; omega, fun x hx => ⟨by have := g2 x hx; unfold most; omega, by have := g2 x hx; unfold most; omega⟩⟩
    have p2 : pr38 l l := ⟨hl, fun x hx y => hb x hx⟩
    have p0 : pr54o refs := by show refs.length ≤ most; unfold most; omega
    have p20 : pr55 refs refs := by show refs.length ≤ maxLen; exact hrl
    have c1 : cntL l l.length ≤ 1048576 * 4194309 := by
      have := cntL_le (l := l) (n := 1048576) (by omega) fun x hx => by have := g2 x hx; omega
      have h2 : (l.length : Int) * (5 + 4 * (1048576 : Nat)) ≤ 1048576 * (5 + 4 * (1048576 : Nat)) := Int.mul_le_mul_of_nonneg_right (by omega) (by omega)
      omega
    have c2 := cntL_nonneg l l.length
    have p3 : mp46 l 1 := ⟨by omega, by omega, by omega⟩
    have p30 : pr56 refs.length (1 + cntL l l.length) := ⟨by omega, by omega⟩
    have q1 : decide (1 + cntL l l.length + refs.length < 0) = false := by simp; omega
    have hn : (pickOfF f l refs).list.length ≤ 240 := pickOfF_len f l refs
    simp only [decL_Msg, decL_ints, dec_encIntsResult, ro36o, ro54o, ro42o, ro41o, dec_markInts, heldI_mark, markI_len, q1]
    generalize pickOfF f l refs = W at *
    have p4 : pr45 W W := by show W.list.length ≤ maxLen; unfold maxLen; omega
    have p5 : pr47 W.list.length 1 := ⟨by omega, by omega⟩
    have p6 : pr48 ⟨W.code, markI 1 W.list.length⟩ 1 := ⟨by omega, by simp; omega⟩
    have q2 : decide (1 + (W.list.length : Int) < 0) = false := by simp; omega
    have p7 : pr41o f l refs := ⟨⟨hl, hb⟩, hr1⟩
    have p8 : pr42o f l refs := ⟨⟨hl, hb⟩, hr1⟩
    simp [hv, p0, p1, p2, p20, p3, p30, p4, p5, p6, p7, p8, q2]
    exact ⟨⟨refs, rfl, fun _ _ => ELe.refl _⟩, q1, fun _ => ⟨⟨W.list, rfl, fun _ _ => ELe.refl _⟩, vle_markInts _ _ _⟩⟩
  exact Eq.mp (by kernel_rfl) key
theorem so11 : Sound Try.prog 11 (lawD Q11) := by
  refine sound_of_body hmix (pol := 0) Try.func11 rfl (by kernel_rfl) fun args bin ob r bout hDe hob => ?_
  unfold lawD at hDe
  split at hDe
  · cases hDe
    obtain ⟨f, l, refs, hle, hpre⟩ := hob
    have hlen : args.length = 3 := hle.1.symm
    exact ⟨rfl, rfl, by rw [hlen]; exact Nat.le_of_ble_eq_true (by kernel_rfl), cx11 f l refs, Eq.mp (by kernel_rfl) htt, Eq.mp (by kernel_rfl) da11, Eq.mp (by kernel_rfl) (soundAllM_cons sm46 (soundAllM_nil (P := Try.prog))), by kernel_rfl, _, hle, Eq.mp (by kernel_rfl) (bd11 f l refs hpre)⟩
  · cases hDe

end Go.Av
