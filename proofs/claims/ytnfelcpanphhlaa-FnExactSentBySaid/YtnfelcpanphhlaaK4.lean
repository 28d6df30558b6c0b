/- The law on what a replica sent. -/
import Derived.Test.YtnfelcpanphhlaaK3
namespace Go.Av
open Go.Proofs
set_option maxRecDepth 100000
set_option linter.unusedVariables false
set_option linter.unusedSimpArgs false


/-! ### laws.FnExactSentBy -/
def pr9 (f : Int) (l : List Msg) (who : Int) : Prop := (Lit.int .i64 f).wf = true ∧ bdL l ∧ (Lit.int .i64 who).wf = true
noncomputable def rs9 (f : Int) (l : List Msg) (who : Int) : V := .bool (true)
def Q9 (vs : List V) : Prop := ∃ (f : Int) (l : List Msg) (who : Int), ArgsLe vs [.int .i64 (f), encL (encMsg 1) 1 (l), .int .i64 (who)] ∧ pr9 f l who
noncomputable def D9 : Nat → Option (Bool × FSpec) := lk [(34, (false, sp34)), (36, (false, sp36o)), (38, (false, sp38)), (43, (false, sp43o)), (44, (false, sp44o)), (45, (false, sp45)), (47, (true, sp47)), (48, (false, sp48))]
theorem da9 : SoundAll Try.prog D9 := soundAll_cons so34 (soundAll_cons so36o (soundAll_cons so38 (soundAll_cons so43o (soundAll_cons so44o (soundAll_cons so45 (soundAll_cons so47 (soundAll_cons so48 (soundAll_nil))))))))
noncomputable def cx9 (f : Int) (l : List Msg) (who : Int) : Cx := ⟨tt, D9, Try.f9.ntmps, [0, 1, 2, 6, 7, 8, 9, 10, 11, 12, 13, 14, 19, 34, 39, 50, 58, 61, 70, 75, 78], [], [], fun _ => none, [13], (lk [(46, mm46)])⟩
theorem bd9 (f : Int) (l : List Msg) (who : Int) (hpre : pr9 f l who) : bodyP (cx9 f l who) Try.f9 0 [.int .i64 (f), encL (encMsg 1) 1 (l), .int .i64 (who)] (fun rr => VLe rr (rs9 f l who)) := by
  have key :
      (((VLe (encL (encMsg (1 : Nat)) (1 : Nat) l)
  (encL (encMsg (1 : Nat)) (1 : Nat) (decL decMsg (encL (encMsg (1 : Nat)) (1 : Nat) l)))) ∧
        (pr34 (decL decMsg (encL (encMsg (1 : Nat)) (1 : Nat) l)) (1048576 : Int))) ∧
       (((decide (szMsgSF (decL decMsg (encL (encMsg (1 : Nat)) (1 : Nat) l)) (1048576 : Int) < (0 : Int)) = true) →
          (VLe (V.bool true) (V.bool true))) ∧
        ((decide (szMsgSF (decL decMsg (encL (encMsg (1 : Nat)) (1 : Nat) l)) (1048576 : Int) < (0 : Int)) = false) →
          (((VLe (encL (encMsg (1 : Nat)) (1 : Nat) l)
  (encL (encMsg (1 : Nat)) (1 : Nat) (decL decMsg (encL (encMsg (1 : Nat)) (1 : Nat) l)))) ∧
            (pr36o (decL decMsg (encL (encMsg (1 : Nat)) (1 : Nat) l)))) ∧
           (((VLe (encL (encMsg (1 : Nat)) (1 : Nat) (ro36o (decL decMsg (encL (encMsg (1 : Nat)) (1 : Nat) l))))
  (encL (encMsg (1 : Nat)) (1 : Nat)
    (decL decMsg (encL (encMsg (1 : Nat)) (1 : Nat) (ro36o (decL decMsg (encL (encMsg (1 : Nat)) (1 : Nat) l))))))) ∧
             (pr43o f (decL decMsg (encL (encMsg (1 : Nat)) (1 : Nat) (ro36o (decL decMsg (encL (encMsg (1 : Nat)) (1 : Nat) l)))))
  who)) ∧
            (((VLe (encL (encMsg (1 : Nat)) (1 : Nat) l)
  (encL (encMsg (1 : Nat)) (1 : Nat) (decL decMsg (encL (encMsg (1 : Nat)) (1 : Nat) l)))) ∧
              (pr36o (decL decMsg (encL (encMsg (1 : Nat)) (1 : Nat) l)))) ∧
             (((VLe (encL (encMsg (1 : Nat)) (1 : Nat) (ro36o (decL decMsg (encL (encMsg (1 : Nat)) (1 : Nat) l))))
  (encL (encMsg (1 : Nat)) (1 : Nat)
    (decL decMsg (encL (encMsg (1 : Nat)) (1 : Nat) (ro36o (decL decMsg (encL (encMsg (1 : Nat)) (1 : Nat) l))))))) ∧
               (pr44o f (decL decMsg (encL (encMsg (1 : Nat)) (1 : Nat) (ro36o (decL decMsg (encL (encMsg (1 : Nat)) (1 : Nat) l)))))
  who)) ∧
              (((VLe
  (encIntsResult (1 : Nat)
    (ro44o f
      (decL decMsg (encL (encMsg (1 : Nat)) (1 : Nat) (ro36o (decL decMsg (encL (encMsg (1 : Nat)) (1 : Nat) l)))))
      who))
  (encIntsResult (1 : Nat)
    (decIntsResult
      (encIntsResult (1 : Nat)
        (ro44o f
          (decL decMsg (encL (encMsg (1 : Nat)) (1 : Nat) (ro36o (decL decMsg (encL (encMsg (1 : Nat)) (1 : Nat) l)))))
          who))))) ∧
                ((VLe
  (encIntsResult (1 : Nat)
    (ro43o f
      (decL decMsg (encL (encMsg (1 : Nat)) (1 : Nat) (ro36o (decL decMsg (encL (encMsg (1 : Nat)) (1 : Nat) l)))))
      who))
  (encIntsResult (1 : Nat)
    (decIntsResult
      (encIntsResult (1 : Nat)
        (ro43o f
          (decL decMsg (encL (encMsg (1 : Nat)) (1 : Nat) (ro36o (decL decMsg (encL (encMsg (1 : Nat)) (1 : Nat) l)))))
          who))))) ∧
                 (pr45
  (decIntsResult
    (encIntsResult (1 : Nat)
      (ro44o f
        (decL decMsg (encL (encMsg (1 : Nat)) (1 : Nat) (ro36o (decL decMsg (encL (encMsg (1 : Nat)) (1 : Nat) l)))))
        who)))
  (decIntsResult
    (encIntsResult (1 : Nat)
      (ro43o f
        (decL decMsg (encL (encMsg (1 : Nat)) (1 : Nat) (ro36o (decL decMsg (encL (encMsg (1 : Nat)) (1 : Nat) l)))))
        who)))))) ∧
               ((((!decide
      (decIntsResult
          (encIntsResult (1 : Nat)
            (ro44o f
              (decL decMsg
                (encL (encMsg (1 : Nat)) (1 : Nat) (ro36o (decL decMsg (encL (encMsg (1 : Nat)) (1 : Nat) l)))))
              who)) =
        decIntsResult
          (encIntsResult (1 : Nat)
            (ro43o f
              (decL decMsg
                (encL (encMsg (1 : Nat)) (1 : Nat) (ro36o (decL decMsg (encL (encMsg (1 : Nat)) (1 : Nat) l)))))
              who)))) =
  true) →
                  (VLe (V.bool false) (V.bool true))) ∧
                (((!decide
      (decIntsResult
          (encIntsResult (1 : Nat)
            (ro44o f
              (decL decMsg
                (encL (encMsg (1 : Nat)) (1 : Nat) (ro36o (decL decMsg (encL (encMsg (1 : Nat)) (1 : Nat) l)))))
              who)) =
        decIntsResult
          (encIntsResult (1 : Nat)
            (ro43o f
              (decL decMsg
                (encL (encMsg (1 : Nat)) (1 : Nat) (ro36o (decL decMsg (encL (encMsg (1 : Nat)) (1 : Nat) l)))))
              who)))) =
  false) →
                  (((VLe (encL (encMsg (1 : Nat)) (1 : Nat) l)
  (encL (encMsg (1 : Nat)) (1 : Nat) (decL decMsg (encL (encMsg (1 : Nat)) (1 : Nat) l)))) ∧
                    (pr36o (decL decMsg (encL (encMsg (1 : Nat)) (1 : Nat) l)))) ∧
                   (((VLe (encL (encMsg (1 : Nat)) (1 : Nat) (ro36o (decL decMsg (encL (encMsg (1 : Nat)) (1 : Nat) l))))
  (encL (encMsg (1 : Nat)) (1 : Nat)
    (decL decMsg (encL (encMsg (1 : Nat)) (1 : Nat) (ro36o (decL decMsg (encL (encMsg (1 : Nat)) (1 : Nat) l))))))) ∧
                     ((VLe (encL (encMsg (1 : Nat)) (1 : Nat) (ro36o (decL decMsg (encL (encMsg (1 : Nat)) (1 : Nat) l))))
  (encL (encMsg (1 : Nat)) (1 : Nat)
    (decL decMsg (encL (encMsg (1 : Nat)) (1 : Nat) (ro36o (decL decMsg (encL (encMsg (1 : Nat)) (1 : Nat) l))))))) ∧
                      (pr38 (decL decMsg (encL (encMsg (1 : Nat)) (1 : Nat) (ro36o (decL decMsg (encL (encMsg (1 : Nat)) (1 : Nat) l)))))
  (decL decMsg (encL (encMsg (1 : Nat)) (1 : Nat) (ro36o (decL decMsg (encL (encMsg (1 : Nat)) (1 : Nat) l)))))))) ∧
                    ((((!decide
      (decL decMsg (encL (encMsg (1 : Nat)) (1 : Nat) (ro36o (decL decMsg (encL (encMsg (1 : Nat)) (1 : Nat) l)))) =
        decL decMsg (encL (encMsg (1 : Nat)) (1 : Nat) (ro36o (decL decMsg (encL (encMsg (1 : Nat)) (1 : Nat) l)))))) =
  true) →
                       (VLe (V.bool false) (V.bool true))) ∧
                     (((!decide
      (decL decMsg (encL (encMsg (1 : Nat)) (1 : Nat) (ro36o (decL decMsg (encL (encMsg (1 : Nat)) (1 : Nat) l)))) =
        decL decMsg (encL (encMsg (1 : Nat)) (1 : Nat) (ro36o (decL decMsg (encL (encMsg (1 : Nat)) (1 : Nat) l)))))) =
  false) →
                       (((VLe (encL (encMsg (1 : Nat)) (1 : Nat) (ro36o (decL decMsg (encL (encMsg (1 : Nat)) (1 : Nat) l))))
  (encL (encMsg (1 : Nat)) (1 : Nat)
    (decL decMsg (encL (encMsg (1 : Nat)) (1 : Nat) (ro36o (decL decMsg (encL (encMsg (1 : Nat)) (1 : Nat) l))))))) ∧
 (mp46 (decL decMsg (encL (encMsg (1 : Nat)) (1 : Nat) (ro36o (decL decMsg (encL (encMsg (1 : Nat)) (1 : Nat) l)))))
  (1 : Int))) ∧
                        ((((!decide
      ((1 : Int) +
          cntL
            (decL decMsg
              (encL (encMsg (1 : Nat)) (1 : Nat) (ro36o (decL decMsg (encL (encMsg (1 : Nat)) (1 : Nat) l)))))
            (List.length
              (decL decMsg
                (encL (encMsg (1 : Nat)) (1 : Nat) (ro36o (decL decMsg (encL (encMsg (1 : Nat)) (1 : Nat) l)))))) <
        (0 : Int))) =
  true) →
   (((!decide
      ((1 : Int) +
          cntL
            (decL decMsg
              (encL (encMsg (1 : Nat)) (1 : Nat) (ro36o (decL decMsg (encL (encMsg (1 : Nat)) (1 : Nat) l)))))
            (List.length
              (decL decMsg
                (encL (encMsg (1 : Nat)) (1 : Nat) (ro36o (decL decMsg (encL (encMsg (1 : Nat)) (1 : Nat) l)))))) <
        (0 : Int))) =
  true) →
     ((!decide
      ((1 : Int) +
          cntL
            (decL decMsg
              (encL (encMsg (1 : Nat)) (1 : Nat) (ro36o (decL decMsg (encL (encMsg (1 : Nat)) (1 : Nat) l)))))
            (List.length
              (decL decMsg
                (encL (encMsg (1 : Nat)) (1 : Nat) (ro36o (decL decMsg (encL (encMsg (1 : Nat)) (1 : Nat) l)))))) <
        (0 : Int))) =
  true))) ∧
 ((((!decide
      ((1 : Int) +
          cntL
            (decL decMsg
              (encL (encMsg (1 : Nat)) (1 : Nat) (ro36o (decL decMsg (encL (encMsg (1 : Nat)) (1 : Nat) l)))))
            (List.length
              (decL decMsg
                (encL (encMsg (1 : Nat)) (1 : Nat) (ro36o (decL decMsg (encL (encMsg (1 : Nat)) (1 : Nat) l)))))) <
        (0 : Int))) =
  true) →
    (((!decide
      ((1 : Int) +
          cntL
            (decL decMsg
              (encL (encMsg (1 : Nat)) (1 : Nat) (ro36o (decL decMsg (encL (encMsg (1 : Nat)) (1 : Nat) l)))))
            (List.length
              (decL decMsg
                (encL (encMsg (1 : Nat)) (1 : Nat) (ro36o (decL decMsg (encL (encMsg (1 : Nat)) (1 : Nat) l)))))) <
        (0 : Int))) =
  true) →
      ((!decide
      ((1 : Int) +
          cntL
            (decL decMsg
              (encL (encMsg (1 : Nat)) (1 : Nat) (ro36o (decL decMsg (encL (encMsg (1 : Nat)) (1 : Nat) l)))))
            (List.length
              (decL decMsg
                (encL (encMsg (1 : Nat)) (1 : Nat) (ro36o (decL decMsg (encL (encMsg (1 : Nat)) (1 : Nat) l)))))) <
        (0 : Int))) =
  true))) ∧
  ((((!decide
      ((1 : Int) +
          cntL
            (decL decMsg
              (encL (encMsg (1 : Nat)) (1 : Nat) (ro36o (decL decMsg (encL (encMsg (1 : Nat)) (1 : Nat) l)))))
            (List.length
              (decL decMsg
                (encL (encMsg (1 : Nat)) (1 : Nat) (ro36o (decL decMsg (encL (encMsg (1 : Nat)) (1 : Nat) l)))))) <
        (0 : Int))) =
  true) →
     ((VLe
  (encIntsResult (1 : Nat)
    (ro44o f
      (decL decMsg (encL (encMsg (1 : Nat)) (1 : Nat) (ro36o (decL decMsg (encL (encMsg (1 : Nat)) (1 : Nat) l)))))
      who))
  (encIntsResult (1 : Nat)
    (decIntsResult
      (encIntsResult (1 : Nat)
        (ro44o f
          (decL decMsg (encL (encMsg (1 : Nat)) (1 : Nat) (ro36o (decL decMsg (encL (encMsg (1 : Nat)) (1 : Nat) l)))))
          who))))) ∧
      ((VLe
  (encIntsResult (1 : Nat)
    (ro43o f
      (decL decMsg (encL (encMsg (1 : Nat)) (1 : Nat) (ro36o (decL decMsg (encL (encMsg (1 : Nat)) (1 : Nat) l)))))
      who))
  (encIntsResult (1 : Nat)
    (decIntsResult
      (encIntsResult (1 : Nat)
        (ro43o f
          (decL decMsg (encL (encMsg (1 : Nat)) (1 : Nat) (ro36o (decL decMsg (encL (encMsg (1 : Nat)) (1 : Nat) l)))))
          who))))) ∧
       (pr45
  (decIntsResult
    (encIntsResult (1 : Nat)
      (ro44o f
        (decL decMsg (encL (encMsg (1 : Nat)) (1 : Nat) (ro36o (decL decMsg (encL (encMsg (1 : Nat)) (1 : Nat) l)))))
        who)))
  (decIntsResult
    (encIntsResult (1 : Nat)
      (ro43o f
        (decL decMsg (encL (encMsg (1 : Nat)) (1 : Nat) (ro36o (decL decMsg (encL (encMsg (1 : Nat)) (1 : Nat) l)))))
        who))))))) ∧
   ((((!decide
      ((1 : Int) +
          cntL
            (decL decMsg
              (encL (encMsg (1 : Nat)) (1 : Nat) (ro36o (decL decMsg (encL (encMsg (1 : Nat)) (1 : Nat) l)))))
            (List.length
              (decL decMsg
                (encL (encMsg (1 : Nat)) (1 : Nat) (ro36o (decL decMsg (encL (encMsg (1 : Nat)) (1 : Nat) l)))))) <
        (0 : Int))) =
  true) →
      (((!decide
      ((1 : Int) +
          cntL
            (decL decMsg
              (encL (encMsg (1 : Nat)) (1 : Nat) (ro36o (decL decMsg (encL (encMsg (1 : Nat)) (1 : Nat) l)))))
            (List.length
              (decL decMsg
                (encL (encMsg (1 : Nat)) (1 : Nat) (ro36o (decL decMsg (encL (encMsg (1 : Nat)) (1 : Nat) l)))))) <
        (0 : Int))) =
  true) →
        ((!decide
      ((1 : Int) +
          cntL
            (decL decMsg
              (encL (encMsg (1 : Nat)) (1 : Nat) (ro36o (decL decMsg (encL (encMsg (1 : Nat)) (1 : Nat) l)))))
            (List.length
              (decL decMsg
                (encL (encMsg (1 : Nat)) (1 : Nat) (ro36o (decL decMsg (encL (encMsg (1 : Nat)) (1 : Nat) l)))))) <
        (0 : Int))) =
  true))) ∧
    (((true = true) →
       ((decide
    ((1 : Int) +
        cntL
          (decL decMsg (encL (encMsg (1 : Nat)) (1 : Nat) (ro36o (decL decMsg (encL (encMsg (1 : Nat)) (1 : Nat) l)))))
          (List.length
            (decL decMsg
              (encL (encMsg (1 : Nat)) (1 : Nat) (ro36o (decL decMsg (encL (encMsg (1 : Nat)) (1 : Nat) l)))))) <
      (0 : Int)) =
  false) →
         ((!decide
      ((1 : Int) +
          cntL
            (decL decMsg
              (encL (encMsg (1 : Nat)) (1 : Nat) (ro36o (decL decMsg (encL (encMsg (1 : Nat)) (1 : Nat) l)))))
            (List.length
              (decL decMsg
                (encL (encMsg (1 : Nat)) (1 : Nat) (ro36o (decL decMsg (encL (encMsg (1 : Nat)) (1 : Nat) l)))))) <
        (0 : Int))) =
  true))) ∧
     (∀ b : Bool,
       ((b =
  bif
      decide
        ((1 : Int) +
            cntL
              (decL decMsg
                (encL (encMsg (1 : Nat)) (1 : Nat) (ro36o (decL decMsg (encL (encMsg (1 : Nat)) (1 : Nat) l)))))
              (List.length
                (decL decMsg
                  (encL (encMsg (1 : Nat)) (1 : Nat) (ro36o (decL decMsg (encL (encMsg (1 : Nat)) (1 : Nat) l)))))) <
          (0 : Int)) then
    true
  else
    !decide
        (decIntsResult
            (encIntsResult (1 : Nat)
              (ro44o f
                (decL decMsg
                  (encL (encMsg (1 : Nat)) (1 : Nat) (ro36o (decL decMsg (encL (encMsg (1 : Nat)) (1 : Nat) l)))))
                who)) =
          decIntsResult
            (encIntsResult (1 : Nat)
              (ro43o f
                (decL decMsg
                  (encL (encMsg (1 : Nat)) (1 : Nat) (ro36o (decL decMsg (encL (encMsg (1 : Nat)) (1 : Nat) l)))))
                who)))) →
         (((b = true) →
            (VLe (V.bool false) (V.bool true))) ∧
          ((b = false) →
            (((((0 : Nat) = (0 : Nat)) ∧
               (((1 : Nat) = (1 : Nat)) ∧
                (((100 : Nat) = (100 : Nat)) ∧
                 ((List.length
    (IntsResult.list
      (ro44o f
        (decL decMsg (encL (encMsg (1 : Nat)) (1 : Nat) (ro36o (decL decMsg (encL (encMsg (1 : Nat)) (1 : Nat) l)))))
        who)) =
  List.length
    (IntsResult.list
      (ro44o f
        (decL decMsg (encL (encMsg (1 : Nat)) (1 : Nat) (ro36o (decL decMsg (encL (encMsg (1 : Nat)) (1 : Nat) l)))))
        who))) ∧
                  (∃ y : List Int, ((List.length y =
  List.length
    (IntsResult.list
      (ro44o f
        (decL decMsg (encL (encMsg (1 : Nat)) (1 : Nat) (ro36o (decL decMsg (encL (encMsg (1 : Nat)) (1 : Nat) l)))))
        who))) ∧
                    (∀ i : Nat,
                      ((i <
  List.length
    (IntsResult.list
      (ro44o f
        (decL decMsg (encL (encMsg (1 : Nat)) (1 : Nat) (ro36o (decL decMsg (encL (encMsg (1 : Nat)) (1 : Nat) l)))))
        who))) →
                        (ELe
  (V.int IntKind.i64
    (List.getD
      (IntsResult.list
        (ro44o f
          (decL decMsg (encL (encMsg (1 : Nat)) (1 : Nat) (ro36o (decL decMsg (encL (encMsg (1 : Nat)) (1 : Nat) l)))))
          who))
      i default))
  (V.int IntKind.i64 (List.getD y i default))))))))))) ∧
              (pr47
  (List.length
    (IntsResult.list
      (ro44o f
        (decL decMsg (encL (encMsg (1 : Nat)) (1 : Nat) (ro36o (decL decMsg (encL (encMsg (1 : Nat)) (1 : Nat) l)))))
        who)))
  (1 : Int))) ∧
             ((List.length
    (IntsResult.list
      (ro44o f
        (decL decMsg (encL (encMsg (1 : Nat)) (1 : Nat) (ro36o (decL decMsg (encL (encMsg (1 : Nat)) (1 : Nat) l)))))
        who)) =
  List.length
    (IntsResult.list
      (ro44o f
        (decL decMsg (encL (encMsg (1 : Nat)) (1 : Nat) (ro36o (decL decMsg (encL (encMsg (1 : Nat)) (1 : Nat) l)))))
        who))) ∧
              (((VLe
  (V.agg
    [V.int IntKind.i64
        (IntsResult.code
          (ro44o f
            (decL decMsg
              (encL (encMsg (1 : Nat)) (1 : Nat) (ro36o (decL decMsg (encL (encMsg (1 : Nat)) (1 : Nat) l)))))
            who)),
      V.sl
        (List.length
          (IntsResult.list
            (ro44o f
              (decL decMsg
                (encL (encMsg (1 : Nat)) (1 : Nat) (ro36o (decL decMsg (encL (encMsg (1 : Nat)) (1 : Nat) l)))))
              who)))
        (gL encI
          (markI (1 : Int)
            (List.length
              (IntsResult.list
                (ro44o f
                  (decL decMsg
                    (encL (encMsg (1 : Nat)) (1 : Nat) (ro36o (decL decMsg (encL (encMsg (1 : Nat)) (1 : Nat) l)))))
                  who)))))
        (1 : Nat)])
  (encIntsResult (1 : Nat)
    (decIntsResult
      (V.agg
        [V.int IntKind.i64
            (IntsResult.code
              (ro44o f
                (decL decMsg
                  (encL (encMsg (1 : Nat)) (1 : Nat) (ro36o (decL decMsg (encL (encMsg (1 : Nat)) (1 : Nat) l)))))
                who)),
          V.sl
            (List.length
              (IntsResult.list
                (ro44o f
                  (decL decMsg
                    (encL (encMsg (1 : Nat)) (1 : Nat) (ro36o (decL decMsg (encL (encMsg (1 : Nat)) (1 : Nat) l)))))
                  who)))
            (gL encI
              (markI (1 : Int)
                (List.length
                  (IntsResult.list
                    (ro44o f
                      (decL decMsg
                        (encL (encMsg (1 : Nat)) (1 : Nat) (ro36o (decL decMsg (encL (encMsg (1 : Nat)) (1 : Nat) l)))))
                      who)))))
            (1 : Nat)])))) ∧
                (pr48
  (decIntsResult
    (V.agg
      [V.int IntKind.i64
          (IntsResult.code
            (ro44o f
              (decL decMsg
                (encL (encMsg (1 : Nat)) (1 : Nat) (ro36o (decL decMsg (encL (encMsg (1 : Nat)) (1 : Nat) l)))))
              who)),
        V.sl
          (List.length
            (IntsResult.list
              (ro44o f
                (decL decMsg
                  (encL (encMsg (1 : Nat)) (1 : Nat) (ro36o (decL decMsg (encL (encMsg (1 : Nat)) (1 : Nat) l)))))
                who)))
          (gL encI
            (markI (1 : Int)
              (List.length
                (IntsResult.list
                  (ro44o f
                    (decL decMsg
                      (encL (encMsg (1 : Nat)) (1 : Nat) (ro36o (decL decMsg (encL (encMsg (1 : Nat)) (1 : Nat) l)))))
                    who)))))
          (1 : Nat)]))
  (1 : Int))) ∧
               (((decide
    (heldI
        (IntsResult.list
          (decIntsResult
            (V.agg
              [V.int IntKind.i64
                  (IntsResult.code
                    (ro44o f
                      (decL decMsg
                        (encL (encMsg (1 : Nat)) (1 : Nat) (ro36o (decL decMsg (encL (encMsg (1 : Nat)) (1 : Nat) l)))))
                      who)),
                V.sl
                  (List.length
                    (IntsResult.list
                      (ro44o f
                        (decL decMsg
                          (encL (encMsg (1 : Nat)) (1 : Nat)
                            (ro36o (decL decMsg (encL (encMsg (1 : Nat)) (1 : Nat) l)))))
                        who)))
                  (gL encI
                    (markI (1 : Int)
                      (List.length
                        (IntsResult.list
                          (ro44o f
                            (decL decMsg
                              (encL (encMsg (1 : Nat)) (1 : Nat)
                                (ro36o (decL decMsg (encL (encMsg (1 : Nat)) (1 : Nat) l)))))
                            who)))))
                  (1 : Nat)])))
        (1 : Int) <
      (0 : Int)) =
  true) →
                  (VLe (V.bool false) (V.bool true))) ∧
                ((decide
    (heldI
        (IntsResult.list
          (decIntsResult
            (V.agg
              [V.int IntKind.i64
                  (IntsResult.code
                    (ro44o f
                      (decL decMsg
                        (encL (encMsg (1 : Nat)) (1 : Nat) (ro36o (decL decMsg (encL (encMsg (1 : Nat)) (1 : Nat) l)))))
                      who)),
                V.sl
                  (List.length
                    (IntsResult.list
                      (ro44o f
                        (decL decMsg
                          (encL (encMsg (1 : Nat)) (1 : Nat)
                            (ro36o (decL decMsg (encL (encMsg (1 : Nat)) (1 : Nat) l)))))
                        who)))
                  (gL encI
                    (markI (1 : Int)
                      (List.length
                        (IntsResult.list
                          (ro44o f
                            (decL decMsg
                              (encL (encMsg (1 : Nat)) (1 : Nat)
                                (ro36o (decL decMsg (encL (encMsg (1 : Nat)) (1 : Nat) l)))))
                            who)))))
                  (1 : Nat)])))
        (1 : Int) <
      (0 : Int)) =
  false) →
                  ((((heldI
      (IntsResult.list
        (decIntsResult
          (V.agg
            [V.int IntKind.i64
                (IntsResult.code
                  (ro44o f
                    (decL decMsg
                      (encL (encMsg (1 : Nat)) (1 : Nat) (ro36o (decL decMsg (encL (encMsg (1 : Nat)) (1 : Nat) l)))))
                    who)),
              V.sl
                (List.length
                  (IntsResult.list
                    (ro44o f
                      (decL decMsg
                        (encL (encMsg (1 : Nat)) (1 : Nat) (ro36o (decL decMsg (encL (encMsg (1 : Nat)) (1 : Nat) l)))))
                      who)))
                (gL encI
                  (markI (1 : Int)
                    (List.length
                      (IntsResult.list
                        (ro44o f
                          (decL decMsg
                            (encL (encMsg (1 : Nat)) (1 : Nat)
                              (ro36o (decL decMsg (encL (encMsg (1 : Nat)) (1 : Nat) l)))))
                          who)))))
                (1 : Nat)])))
      (1 : Int) !=
    (1 : Int) +
      (↑(List.length
            (IntsResult.list
              (ro44o f
                (decL decMsg
                  (encL (encMsg (1 : Nat)) (1 : Nat) (ro36o (decL decMsg (encL (encMsg (1 : Nat)) (1 : Nat) l)))))
                who))) :
        Int)) =
  true) →
                     (VLe (V.bool false) (V.bool true))) ∧
                   (((heldI
      (IntsResult.list
        (decIntsResult
          (V.agg
            [V.int IntKind.i64
                (IntsResult.code
                  (ro44o f
                    (decL decMsg
                      (encL (encMsg (1 : Nat)) (1 : Nat) (ro36o (decL decMsg (encL (encMsg (1 : Nat)) (1 : Nat) l)))))
                    who)),
              V.sl
                (List.length
                  (IntsResult.list
                    (ro44o f
                      (decL decMsg
                        (encL (encMsg (1 : Nat)) (1 : Nat) (ro36o (decL decMsg (encL (encMsg (1 : Nat)) (1 : Nat) l)))))
                      who)))
                (gL encI
                  (markI (1 : Int)
                    (List.length
                      (IntsResult.list
                        (ro44o f
                          (decL decMsg
                            (encL (encMsg (1 : Nat)) (1 : Nat)
                              (ro36o (decL decMsg (encL (encMsg (1 : Nat)) (1 : Nat) l)))))
                          who)))))
                (1 : Nat)])))
      (1 : Int) !=
    (1 : Int) +
      (↑(List.length
            (IntsResult.list
              (ro44o f
                (decL decMsg
                  (encL (encMsg (1 : Nat)) (1 : Nat) (ro36o (decL decMsg (encL (encMsg (1 : Nat)) (1 : Nat) l)))))
                who))) :
        Int)) =
  false) →
                     (((VLe (encL (encMsg (1 : Nat)) (1 : Nat) l)
  (encL (encMsg (1 : Nat)) (1 : Nat) (decL decMsg (encL (encMsg (1 : Nat)) (1 : Nat) l)))) ∧
                       (pr36o (decL decMsg (encL (encMsg (1 : Nat)) (1 : Nat) l)))) ∧
                      (((VLe (encL (encMsg (1 : Nat)) (1 : Nat) (ro36o (decL decMsg (encL (encMsg (1 : Nat)) (1 : Nat) l))))
  (encL (encMsg (1 : Nat)) (1 : Nat)
    (decL decMsg (encL (encMsg (1 : Nat)) (1 : Nat) (ro36o (decL decMsg (encL (encMsg (1 : Nat)) (1 : Nat) l))))))) ∧
                        (pr44o f (decL decMsg (encL (encMsg (1 : Nat)) (1 : Nat) (ro36o (decL decMsg (encL (encMsg (1 : Nat)) (1 : Nat) l)))))
  who)) ∧
                       (((VLe
  (encIntsResult (1 : Nat)
    (ro44o f
      (decL decMsg (encL (encMsg (1 : Nat)) (1 : Nat) (ro36o (decL decMsg (encL (encMsg (1 : Nat)) (1 : Nat) l)))))
      who))
  (encIntsResult (1 : Nat)
    (decIntsResult
      (encIntsResult (1 : Nat)
        (ro44o f
          (decL decMsg (encL (encMsg (1 : Nat)) (1 : Nat) (ro36o (decL decMsg (encL (encMsg (1 : Nat)) (1 : Nat) l)))))
          who))))) ∧
 ((VLe
  (encIntsResult (1 : Nat)
    (ro43o f
      (decL decMsg (encL (encMsg (1 : Nat)) (1 : Nat) (ro36o (decL decMsg (encL (encMsg (1 : Nat)) (1 : Nat) l)))))
      who))
  (encIntsResult (1 : Nat)
    (decIntsResult
      (encIntsResult (1 : Nat)
        (ro43o f
          (decL decMsg (encL (encMsg (1 : Nat)) (1 : Nat) (ro36o (decL decMsg (encL (encMsg (1 : Nat)) (1 : Nat) l)))))
          who))))) ∧
  (pr45
  (decIntsResult
    (encIntsResult (1 : Nat)
      (ro44o f
        (decL decMsg (encL (encMsg (1 : Nat)) (1 : Nat) (ro36o (decL decMsg (encL (encMsg (1 : Nat)) (1 : Nat) l)))))
        who)))
  (decIntsResult
    (encIntsResult (1 : Nat)
      (ro43o f
        (decL decMsg (encL (encMsg (1 : Nat)) (1 : Nat) (ro36o (decL decMsg (encL (encMsg (1 : Nat)) (1 : Nat) l)))))
        who)))))) ∧
                        ((((!decide
      (decIntsResult
          (encIntsResult (1 : Nat)
            (ro44o f
              (decL decMsg
                (encL (encMsg (1 : Nat)) (1 : Nat) (ro36o (decL decMsg (encL (encMsg (1 : Nat)) (1 : Nat) l)))))
              who)) =
        decIntsResult
          (encIntsResult (1 : Nat)
            (ro43o f
              (decL decMsg
                (encL (encMsg (1 : Nat)) (1 : Nat) (ro36o (decL decMsg (encL (encMsg (1 : Nat)) (1 : Nat) l)))))
              who)))) =
  true) →
   (VLe (V.bool false) (V.bool true))) ∧
 (((!decide
      (decIntsResult
          (encIntsResult (1 : Nat)
            (ro44o f
              (decL decMsg
                (encL (encMsg (1 : Nat)) (1 : Nat) (ro36o (decL decMsg (encL (encMsg (1 : Nat)) (1 : Nat) l)))))
              who)) =
        decIntsResult
          (encIntsResult (1 : Nat)
            (ro43o f
              (decL decMsg
                (encL (encMsg (1 : Nat)) (1 : Nat) (ro36o (decL decMsg (encL (encMsg (1 : Nat)) (1 : Nat) l)))))
              who)))) =
  false) →
   (((VLe
  (V.agg
    [V.int IntKind.i64
        (IntsResult.code
          (ro44o f
            (decL decMsg
              (encL (encMsg (1 : Nat)) (1 : Nat) (ro36o (decL decMsg (encL (encMsg (1 : Nat)) (1 : Nat) l)))))
            who)),
      V.sl
        (List.length
          (IntsResult.list
            (ro44o f
              (decL decMsg
                (encL (encMsg (1 : Nat)) (1 : Nat) (ro36o (decL decMsg (encL (encMsg (1 : Nat)) (1 : Nat) l)))))
              who)))
        (gL encI
          (markI (1 : Int)
            (List.length
              (IntsResult.list
                (ro44o f
                  (decL decMsg
                    (encL (encMsg (1 : Nat)) (1 : Nat) (ro36o (decL decMsg (encL (encMsg (1 : Nat)) (1 : Nat) l)))))
                  who)))))
        (1 : Nat)])
  (encIntsResult (1 : Nat)
    (decIntsResult
      (V.agg
        [V.int IntKind.i64
            (IntsResult.code
              (ro44o f
                (decL decMsg
                  (encL (encMsg (1 : Nat)) (1 : Nat) (ro36o (decL decMsg (encL (encMsg (1 : Nat)) (1 : Nat) l)))))
                who)),
          V.sl
            (List.length
              (IntsResult.list
                (ro44o f
                  (decL decMsg
                    (encL (encMsg (1 : Nat)) (1 : Nat) (ro36o (decL decMsg (encL (encMsg (1 : Nat)) (1 : Nat) l)))))
                  who)))
            (gL encI
              (markI (1 : Int)
                (List.length
                  (IntsResult.list
                    (ro44o f
                      (decL decMsg
                        (encL (encMsg (1 : Nat)) (1 : Nat) (ro36o (decL decMsg (encL (encMsg (1 : Nat)) (1 : Nat) l)))))
                      who)))))
            (1 : Nat)])))) ∧
     (pr48
  (decIntsResult
    (V.agg
      [V.int IntKind.i64
          (IntsResult.code
            (ro44o f
              (decL decMsg
                (encL (encMsg (1 : Nat)) (1 : Nat) (ro36o (decL decMsg (encL (encMsg (1 : Nat)) (1 : Nat) l)))))
              who)),
        V.sl
          (List.length
            (IntsResult.list
              (ro44o f
                (decL decMsg
                  (encL (encMsg (1 : Nat)) (1 : Nat) (ro36o (decL decMsg (encL (encMsg (1 : Nat)) (1 : Nat) l)))))
                who)))
          (gL encI
            (markI (1 : Int)
              (List.length
                (IntsResult.list
                  (ro44o f
                    (decL decMsg
                      (encL (encMsg (1 : Nat)) (1 : Nat) (ro36o (decL decMsg (encL (encMsg (1 : Nat)) (1 : Nat) l)))))
                    who)))))
          (1 : Nat)]))
  (1 : Int))) ∧
    (((decide
    (heldI
        (IntsResult.list
          (decIntsResult
            (V.agg
              [V.int IntKind.i64
                  (IntsResult.code
                    (ro44o f
                      (decL decMsg
                        (encL (encMsg (1 : Nat)) (1 : Nat) (ro36o (decL decMsg (encL (encMsg (1 : Nat)) (1 : Nat) l)))))
                      who)),
                V.sl
                  (List.length
                    (IntsResult.list
                      (ro44o f
                        (decL decMsg
                          (encL (encMsg (1 : Nat)) (1 : Nat)
                            (ro36o (decL decMsg (encL (encMsg (1 : Nat)) (1 : Nat) l)))))
                        who)))
                  (gL encI
                    (markI (1 : Int)
                      (List.length
                        (IntsResult.list
                          (ro44o f
                            (decL decMsg
                              (encL (encMsg (1 : Nat)) (1 : Nat)
                                (ro36o (decL decMsg (encL (encMsg (1 : Nat)) (1 : Nat) l)))))
                            who)))))
                  (1 : Nat)])))
        (1 : Int) <
      (0 : Int)) =
  true) →
       (VLe (V.bool false) (V.bool true))) ∧
     ((decide
    (heldI
        (IntsResult.list
          (decIntsResult
            (V.agg
              [V.int IntKind.i64
                  (IntsResult.code
                    (ro44o f
                      (decL decMsg
                        (encL (encMsg (1 : Nat)) (1 : Nat) (ro36o (decL decMsg (encL (encMsg (1 : Nat)) (1 : Nat) l)))))
                      who)),
                V.sl
                  (List.length
                    (IntsResult.list
                      (ro44o f
                        (decL decMsg
                          (encL (encMsg (1 : Nat)) (1 : Nat)
                            (ro36o (decL decMsg (encL (encMsg (1 : Nat)) (1 : Nat) l)))))
                        who)))
                  (gL encI
                    (markI (1 : Int)
                      (List.length
                        (IntsResult.list
                          (ro44o f
                            (decL decMsg
                              (encL (encMsg (1 : Nat)) (1 : Nat)
                                (ro36o (decL decMsg (encL (encMsg (1 : Nat)) (1 : Nat) l)))))
                            who)))))
                  (1 : Nat)])))
        (1 : Int) <
      (0 : Int)) =
  false) →
       ((((heldI
      (IntsResult.list
        (decIntsResult
          (V.agg
            [V.int IntKind.i64
                (IntsResult.code
                  (ro44o f
                    (decL decMsg
                      (encL (encMsg (1 : Nat)) (1 : Nat) (ro36o (decL decMsg (encL (encMsg (1 : Nat)) (1 : Nat) l)))))
                    who)),
              V.sl
                (List.length
                  (IntsResult.list
                    (ro44o f
                      (decL decMsg
                        (encL (encMsg (1 : Nat)) (1 : Nat) (ro36o (decL decMsg (encL (encMsg (1 : Nat)) (1 : Nat) l)))))
                      who)))
                (gL encI
                  (markI (1 : Int)
                    (List.length
                      (IntsResult.list
                        (ro44o f
                          (decL decMsg
                            (encL (encMsg (1 : Nat)) (1 : Nat)
                              (ro36o (decL decMsg (encL (encMsg (1 : Nat)) (1 : Nat) l)))))
                          who)))))
                (1 : Nat)])))
      (1 : Int) !=
    (1 : Int) +
      (↑(List.length
            (IntsResult.list
              (ro44o f
                (decL decMsg
                  (encL (encMsg (1 : Nat)) (1 : Nat) (ro36o (decL decMsg (encL (encMsg (1 : Nat)) (1 : Nat) l)))))
                who))) :
        Int)) =
  true) →
          (VLe (V.bool false) (V.bool true))) ∧
        (((heldI
      (IntsResult.list
        (decIntsResult
          (V.agg
            [V.int IntKind.i64
                (IntsResult.code
                  (ro44o f
                    (decL decMsg
                      (encL (encMsg (1 : Nat)) (1 : Nat) (ro36o (decL decMsg (encL (encMsg (1 : Nat)) (1 : Nat) l)))))
                    who)),
              V.sl
                (List.length
                  (IntsResult.list
                    (ro44o f
                      (decL decMsg
                        (encL (encMsg (1 : Nat)) (1 : Nat) (ro36o (decL decMsg (encL (encMsg (1 : Nat)) (1 : Nat) l)))))
                      who)))
                (gL encI
                  (markI (1 : Int)
                    (List.length
                      (IntsResult.list
                        (ro44o f
                          (decL decMsg
                            (encL (encMsg (1 : Nat)) (1 : Nat)
                              (ro36o (decL decMsg (encL (encMsg (1 : Nat)) (1 : Nat) l)))))
                          who)))))
                (1 : Nat)])))
      (1 : Int) !=
    (1 : Int) +
      (↑(List.length
            (IntsResult.list
              (ro44o f
                (decL decMsg
                  (encL (encMsg (1 : Nat)) (1 : Nat) (ro36o (decL decMsg (encL (encMsg (1 : Nat)) (1 : Nat) l)))))
                who))) :
        Int)) =
  false) →
          (VLe (V.bool true) (V.bool true))))))))))))))))))))))))))))))))))))))))))) := by
    obtain ⟨_, hm, _⟩ := hpre
    have f1 := @szMsgSF_bd l 1048576
    have f3 := @szMsgSF_le l 1048576 (by omega)
    obtain ⟨hl, hb⟩ := hm
    have hv : ∀ v, VLe v v := VLe.refl
    simp only [decL_Msg]
    refine ⟨⟨VLe.refl _, by omega, by unfold most; omega, hl, hb⟩, fun h => VLe.refl _, fun h => ?_⟩
    have h0 := of_decide_eq_false h
    obtain ⟨g1, g2⟩ := f1 (by omega)
    have p1 : pr36o l := ⟨by unfold most; omega, fun x hx => ⟨by have := g2 x hx; unfold most; omega, by have := g2 x hx; unfold most; omega⟩⟩
    have p2 : pr38 l l := ⟨hl, fun x hx y => hb x hx⟩
    have c1 : cntL l l.length ≤ 1048576 * 4194309 := by
      have := cntL_le (l := l) (n := 1048576) (by omega) fun x hx => by have := g2 x hx; omega
      have h2 : (l.length : Int) * (5 + 4 * (1048576 : Nat)) ≤ 1048576 * (5 + 4 * (1048576 : Nat)) := Int.mul_le_mul_of_nonneg_right (by omega) (by omega)
      omega
    have c2 := cntL_nonneg l l.length
    have p3 : mp46 l 1 := ⟨by omega, by omega, by omega⟩
    have q1 : decide (1 + cntL l l.length < 0) = false := by simp; omega
    have hn : (sentF f l who).list.length ≤ 240 := by
      unfold sentF
      split
      · simp
      · rename_i h1
        split
        · simp
        · have h2 := (right_of (Classical.not_not.1 h1)).len
          exact Nat.le_trans (placesTo_len _ _ _) h2
    simp only [decL_Msg, dec_encIntsResult, ro36o, ro43o, ro44o, dec_markInts, heldI_mark, markI_len, q1]
    generalize sentF f l who = W at *
    have p4 : pr45 W W := by show W.list.length ≤ maxLen; unfold maxLen; omega
    have p5 : pr47 W.list.length 1 := ⟨by omega, by omega⟩
    have p6 : pr48 ⟨W.code, markI 1 W.list.length⟩ 1 := ⟨by omega, by simp; omega⟩
    have q2 : decide (1 + (W.list.length : Int) < 0) = false := by simp; omega
    simp [hv, p1, p2, p3, p4, p5, p6, q2]
    exact ⟨⟨hl, hb⟩, ⟨hl, hb⟩, q1, fun _ => ⟨⟨W.list, rfl, fun _ _ => ELe.refl _⟩, vle_markInts _ _ _, ⟨hl, hb⟩, vle_markInts _ _ _⟩⟩
  exact Eq.mp (by kernel_rfl) key
theorem so9 : Sound Try.prog 9 (lawD Q9) := by
  refine sound_of_body hmix (pol := 0) Try.func9 rfl (by kernel_rfl) fun args bin ob r bout hDe hob => ?_
  unfold lawD at hDe
  split at hDe
  · cases hDe
    obtain ⟨f, l, who, hle, hpre⟩ := hob
    have hlen : args.length = 3 := hle.1.symm
    exact ⟨rfl, rfl, by rw [hlen]; exact Nat.le_of_ble_eq_true (by kernel_rfl), cx9 f l who, Eq.mp (by kernel_rfl) htt, Eq.mp (by kernel_rfl) da9, Eq.mp (by kernel_rfl) (soundAllM_cons sm46 (soundAllM_nil (P := Try.prog))), by kernel_rfl, _, hle, Eq.mp (by kernel_rfl) (bd9 f l who hpre)⟩
  · cases hDe

end Go.Av
