/- The law on votes. -/
import Derived.Test.YtnfelcpanphhlaaK5
namespace Go.Av
open Go.Proofs
set_option maxRecDepth 100000
set_option linter.unusedVariables false
set_option linter.unusedSimpArgs false


/-! ### laws.FnExactVotesFor -/
def pr17 (f : Int) (l : List Msg) (m : Msg) : Prop := (Lit.int .i64 f).wf = true ∧ bdL l ∧ m.bd
noncomputable def rs17 (f : Int) (l : List Msg) (m : Msg) : V := .bool (true)
def Q17 (vs : List V) : Prop := ∃ (f : Int) (l : List Msg) (m : Msg), ArgsLe vs [.int .i64 (f), encL (encMsg 1) 1 (l), encMsg 1 (m)] ∧ pr17 f l m
noncomputable def D17 : Nat → Option (Bool × FSpec) := lk [(34, (false, sp34)), (27, (false, sp27)), (36, (false, sp36o)), (29, (false, sp29o)), (38, (false, sp38)), (31, (false, sp31)), (64, (false, sp64o)), (63, (false, sp63o)), (45, (false, sp45)), (47, (true, sp47)), (48, (false, sp48)), (73, (true, sp73))]
theorem da17 : SoundAll Try.prog D17 := soundAll_cons so34 (soundAll_cons so27 (soundAll_cons so36o (soundAll_cons so29o (soundAll_cons so38 (soundAll_cons so31 (soundAll_cons so64o (soundAll_cons so63o (soundAll_cons so45 (soundAll_cons so47 (soundAll_cons so48 (soundAll_cons so73 (soundAll_nil))))))))))))
noncomputable def cx17 (f : Int) (l : List Msg) (m : Msg) : Cx := ⟨tt, D17, Try.f17.ntmps, [0, 1, 2, 5, 6, 7, 8, 9, 10, 11, 12, 13, 14, 15, 20, 25, 43, 48, 53, 67, 75, 78, 88, 93, 96], [], [], fun _ => none, [19], (lk [(46, mm46)])⟩
theorem bd17 (f : Int) (l : List Msg) (m : Msg) (hpre : pr17 f l m) : bodyP (cx17 f l m) Try.f17 0 [.int .i64 (f), encL (encMsg 1) 1 (l), encMsg 1 (m)] (fun rr => VLe rr (rs17 f l m)) := by
  have key :
      (((VLe (encL (encMsg (1 : Nat)) (1 : Nat) l)
  (encL (encMsg (1 : Nat)) (1 : Nat) (decL decMsg (encL (encMsg (1 : Nat)) (1 : Nat) l)))) ∧
        (pr34 (decL decMsg (encL (encMsg (1 : Nat)) (1 : Nat) l)) (1048576 : Int))) ∧
       (((decide (szMsgSF (decL decMsg (encL (encMsg (1 : Nat)) (1 : Nat) l)) (1048576 : Int) < (0 : Int)) = true) →
          (VLe (V.bool true) (V.bool true))) ∧
        ((decide (szMsgSF (decL decMsg (encL (encMsg (1 : Nat)) (1 : Nat) l)) (1048576 : Int) < (0 : Int)) = false) →
          (((VLe (encMsg (1 : Nat) m) (encMsg (1 : Nat) (decMsg (encMsg (1 : Nat) m)))) ∧
            (pr27 (decMsg (encMsg (1 : Nat) m)) (szMsgSF (decL decMsg (encL (encMsg (1 : Nat)) (1 : Nat) l)) (1048576 : Int)))) ∧
           (((decide
    (szMsgF (decMsg (encMsg (1 : Nat) m))
        (szMsgSF (decL decMsg (encL (encMsg (1 : Nat)) (1 : Nat) l)) (1048576 : Int)) <
      (0 : Int)) =
  true) →
              (VLe (V.bool true) (V.bool true))) ∧
            ((decide
    (szMsgF (decMsg (encMsg (1 : Nat) m))
        (szMsgSF (decL decMsg (encL (encMsg (1 : Nat)) (1 : Nat) l)) (1048576 : Int)) <
      (0 : Int)) =
  false) →
              (((VLe (encL (encMsg (1 : Nat)) (1 : Nat) l)
  (encL (encMsg (1 : Nat)) (1 : Nat) (decL decMsg (encL (encMsg (1 : Nat)) (1 : Nat) l)))) ∧
                (pr36o (decL decMsg (encL (encMsg (1 : Nat)) (1 : Nat) l)))) ∧
               (((VLe (encMsg (1 : Nat) m) (encMsg (1 : Nat) (decMsg (encMsg (1 : Nat) m)))) ∧
                 (pr29o (decMsg (encMsg (1 : Nat) m)))) ∧
                (((VLe (encL (encMsg (1 : Nat)) (1 : Nat) (ro36o (decL decMsg (encL (encMsg (1 : Nat)) (1 : Nat) l))))
  (encL (encMsg (1 : Nat)) (1 : Nat)
    (decL decMsg (encL (encMsg (1 : Nat)) (1 : Nat) (ro36o (decL decMsg (encL (encMsg (1 : Nat)) (1 : Nat) l))))))) ∧
                  ((VLe (encMsg (1 : Nat) (ro29o (decMsg (encMsg (1 : Nat) m))))
  (encMsg (1 : Nat) (decMsg (encMsg (1 : Nat) (ro29o (decMsg (encMsg (1 : Nat) m))))))) ∧
                   (pr64o f (decL decMsg (encL (encMsg (1 : Nat)) (1 : Nat) (ro36o (decL decMsg (encL (encMsg (1 : Nat)) (1 : Nat) l)))))
  (decMsg (encMsg (1 : Nat) (ro29o (decMsg (encMsg (1 : Nat) m)))))))) ∧
                 (((VLe (encL (encMsg (1 : Nat)) (1 : Nat) l)
  (encL (encMsg (1 : Nat)) (1 : Nat) (decL decMsg (encL (encMsg (1 : Nat)) (1 : Nat) l)))) ∧
                   (pr36o (decL decMsg (encL (encMsg (1 : Nat)) (1 : Nat) l)))) ∧
                  (((VLe (encMsg (1 : Nat) m) (encMsg (1 : Nat) (decMsg (encMsg (1 : Nat) m)))) ∧
                    (pr29o (decMsg (encMsg (1 : Nat) m)))) ∧
                   (((VLe (encL (encMsg (1 : Nat)) (1 : Nat) (ro36o (decL decMsg (encL (encMsg (1 : Nat)) (1 : Nat) l))))
  (encL (encMsg (1 : Nat)) (1 : Nat)
    (decL decMsg (encL (encMsg (1 : Nat)) (1 : Nat) (ro36o (decL decMsg (encL (encMsg (1 : Nat)) (1 : Nat) l))))))) ∧
                     ((VLe (encMsg (1 : Nat) (ro29o (decMsg (encMsg (1 : Nat) m))))
  (encMsg (1 : Nat) (decMsg (encMsg (1 : Nat) (ro29o (decMsg (encMsg (1 : Nat) m))))))) ∧
                      (pr63o f (decL decMsg (encL (encMsg (1 : Nat)) (1 : Nat) (ro36o (decL decMsg (encL (encMsg (1 : Nat)) (1 : Nat) l)))))
  (decMsg (encMsg (1 : Nat) (ro29o (decMsg (encMsg (1 : Nat) m)))))))) ∧
                    (((VLe
  (encIntsResult (1 : Nat)
    (ro63o f
      (decL decMsg (encL (encMsg (1 : Nat)) (1 : Nat) (ro36o (decL decMsg (encL (encMsg (1 : Nat)) (1 : Nat) l)))))
      (decMsg (encMsg (1 : Nat) (ro29o (decMsg (encMsg (1 : Nat) m)))))))
  (encIntsResult (1 : Nat)
    (decIntsResult
      (encIntsResult (1 : Nat)
        (ro63o f
          (decL decMsg (encL (encMsg (1 : Nat)) (1 : Nat) (ro36o (decL decMsg (encL (encMsg (1 : Nat)) (1 : Nat) l)))))
          (decMsg (encMsg (1 : Nat) (ro29o (decMsg (encMsg (1 : Nat) m)))))))))) ∧
                      ((VLe
  (encIntsResult (1 : Nat)
    (ro64o f
      (decL decMsg (encL (encMsg (1 : Nat)) (1 : Nat) (ro36o (decL decMsg (encL (encMsg (1 : Nat)) (1 : Nat) l)))))
      (decMsg (encMsg (1 : Nat) (ro29o (decMsg (encMsg (1 : Nat) m)))))))
  (encIntsResult (1 : Nat)
    (decIntsResult
      (encIntsResult (1 : Nat)
        (ro64o f
          (decL decMsg (encL (encMsg (1 : Nat)) (1 : Nat) (ro36o (decL decMsg (encL (encMsg (1 : Nat)) (1 : Nat) l)))))
          (decMsg (encMsg (1 : Nat) (ro29o (decMsg (encMsg (1 : Nat) m)))))))))) ∧
                       (pr45
  (decIntsResult
    (encIntsResult (1 : Nat)
      (ro63o f
        (decL decMsg (encL (encMsg (1 : Nat)) (1 : Nat) (ro36o (decL decMsg (encL (encMsg (1 : Nat)) (1 : Nat) l)))))
        (decMsg (encMsg (1 : Nat) (ro29o (decMsg (encMsg (1 : Nat) m))))))))
  (decIntsResult
    (encIntsResult (1 : Nat)
      (ro64o f
        (decL decMsg (encL (encMsg (1 : Nat)) (1 : Nat) (ro36o (decL decMsg (encL (encMsg (1 : Nat)) (1 : Nat) l)))))
        (decMsg (encMsg (1 : Nat) (ro29o (decMsg (encMsg (1 : Nat) m))))))))))) ∧
                     ((((!decide
      (decIntsResult
          (encIntsResult (1 : Nat)
            (ro63o f
              (decL decMsg
                (encL (encMsg (1 : Nat)) (1 : Nat) (ro36o (decL decMsg (encL (encMsg (1 : Nat)) (1 : Nat) l)))))
              (decMsg (encMsg (1 : Nat) (ro29o (decMsg (encMsg (1 : Nat) m))))))) =
        decIntsResult
          (encIntsResult (1 : Nat)
            (ro64o f
              (decL decMsg
                (encL (encMsg (1 : Nat)) (1 : Nat) (ro36o (decL decMsg (encL (encMsg (1 : Nat)) (1 : Nat) l)))))
              (decMsg (encMsg (1 : Nat) (ro29o (decMsg (encMsg (1 : Nat) m))))))))) =
  true) →
                        (VLe (V.bool false) (V.bool true))) ∧
                      (((!decide
      (decIntsResult
          (encIntsResult (1 : Nat)
            (ro63o f
              (decL decMsg
                (encL (encMsg (1 : Nat)) (1 : Nat) (ro36o (decL decMsg (encL (encMsg (1 : Nat)) (1 : Nat) l)))))
              (decMsg (encMsg (1 : Nat) (ro29o (decMsg (encMsg (1 : Nat) m))))))) =
        decIntsResult
          (encIntsResult (1 : Nat)
            (ro64o f
              (decL decMsg
                (encL (encMsg (1 : Nat)) (1 : Nat) (ro36o (decL decMsg (encL (encMsg (1 : Nat)) (1 : Nat) l)))))
              (decMsg (encMsg (1 : Nat) (ro29o (decMsg (encMsg (1 : Nat) m))))))))) =
  false) →
                        (((VLe (encL (encMsg (1 : Nat)) (1 : Nat) l)
  (encL (encMsg (1 : Nat)) (1 : Nat) (decL decMsg (encL (encMsg (1 : Nat)) (1 : Nat) l)))) ∧
  (pr36o (decL decMsg (encL (encMsg (1 : Nat)) (1 : Nat) l)))) ∧
 (((VLe (encL (encMsg (1 : Nat)) (1 : Nat) (ro36o (decL decMsg (encL (encMsg (1 : Nat)) (1 : Nat) l))))
  (encL (encMsg (1 : Nat)) (1 : Nat)
    (decL decMsg (encL (encMsg (1 : Nat)) (1 : Nat) (ro36o (decL decMsg (encL (encMsg (1 : Nat)) (1 : Nat) l))))))) ∧
   ((VLe (encL (encMsg (1 : Nat)) (1 : Nat) (ro36o (decL decMsg (encL (encMsg (1 : Nat)) (1 : Nat) l))))
  (encL (encMsg (1 : Nat)) (1 : Nat)
    (decL decMsg (encL (encMsg (1 : Nat)) (1 : Nat) (ro36o (decL decMsg (encL (encMsg (1 : Nat)) (1 : Nat) l))))))) ∧
    (pr38 (decL decMsg (encL (encMsg (1 : Nat)) (1 : Nat) (ro36o (decL decMsg (encL (encMsg (1 : Nat)) (1 : Nat) l)))))
  (decL decMsg (encL (encMsg (1 : Nat)) (1 : Nat) (ro36o (decL decMsg (encL (encMsg (1 : Nat)) (1 : Nat) l)))))))) ∧
  ((((!decide
      (decL decMsg (encL (encMsg (1 : Nat)) (1 : Nat) (ro36o (decL decMsg (encL (encMsg (1 : Nat)) (1 : Nat) l)))) =
        decL decMsg (encL (encMsg (1 : Nat)) (1 : Nat) (ro36o (decL decMsg (encL (encMsg (1 : Nat)) (1 : Nat) l)))))) =
  true) →
     (VLe (V.bool false) (V.bool true))) ∧
   (((!decide
      (decL decMsg (encL (encMsg (1 : Nat)) (1 : Nat) (ro36o (decL decMsg (encL (encMsg (1 : Nat)) (1 : Nat) l)))) =
        decL decMsg (encL (encMsg (1 : Nat)) (1 : Nat) (ro36o (decL decMsg (encL (encMsg (1 : Nat)) (1 : Nat) l)))))) =
  false) →
     (((VLe (encMsg (1 : Nat) m) (encMsg (1 : Nat) (decMsg (encMsg (1 : Nat) m)))) ∧
       (pr29o (decMsg (encMsg (1 : Nat) m)))) ∧
      (((VLe (encMsg (1 : Nat) (ro29o (decMsg (encMsg (1 : Nat) m))))
  (encMsg (1 : Nat) (decMsg (encMsg (1 : Nat) (ro29o (decMsg (encMsg (1 : Nat) m))))))) ∧
        ((VLe (encMsg (1 : Nat) (ro29o (decMsg (encMsg (1 : Nat) m))))
  (encMsg (1 : Nat) (decMsg (encMsg (1 : Nat) (ro29o (decMsg (encMsg (1 : Nat) m))))))) ∧
         (pr31 (decMsg (encMsg (1 : Nat) (ro29o (decMsg (encMsg (1 : Nat) m)))))
  (decMsg (encMsg (1 : Nat) (ro29o (decMsg (encMsg (1 : Nat) m)))))))) ∧
       ((((!decide
      (decMsg (encMsg (1 : Nat) (ro29o (decMsg (encMsg (1 : Nat) m)))) =
        decMsg (encMsg (1 : Nat) (ro29o (decMsg (encMsg (1 : Nat) m)))))) =
  true) →
          (VLe (V.bool false) (V.bool true))) ∧
        (((!decide
      (decMsg (encMsg (1 : Nat) (ro29o (decMsg (encMsg (1 : Nat) m)))) =
        decMsg (encMsg (1 : Nat) (ro29o (decMsg (encMsg (1 : Nat) m)))))) =
  false) →
          (((VLe (encL (encMsg (1 : Nat)) (1 : Nat) (ro36o (decL decMsg (encL (encMsg (1 : Nat)) (1 : Nat) l))))
  (encL (encMsg (1 : Nat)) (1 : Nat)
    (decL decMsg (encL (encMsg (1 : Nat)) (1 : Nat) (ro36o (decL decMsg (encL (encMsg (1 : Nat)) (1 : Nat) l))))))) ∧
            (mp46 (decL decMsg (encL (encMsg (1 : Nat)) (1 : Nat) (ro36o (decL decMsg (encL (encMsg (1 : Nat)) (1 : Nat) l)))))
  (1 : Int))) ∧
           (((((0 : Nat) = (0 : Nat)) ∧
              (((3 : Nat) = (3 : Nat)) ∧
               (((100 : Nat) = (100 : Nat)) ∧
                ((List.length (Msg.certs (ro29o (decMsg (encMsg (1 : Nat) m)))) =
  List.length (Msg.certs (ro29o (decMsg (encMsg (1 : Nat) m))))) ∧
                 (∃ y : List Cert, ((List.length y = List.length (Msg.certs (ro29o (decMsg (encMsg (1 : Nat) m))))) ∧
                   (∀ i : Nat,
                     ((i < List.length (Msg.certs (ro29o (decMsg (encMsg (1 : Nat) m))))) →
                       (ELe (encCert (1 : Nat) (List.getD (Msg.certs (ro29o (decMsg (encMsg (1 : Nat) m)))) i default))
  (encCert (1 : Nat) (List.getD y i default))))))))))) ∧
             ((((1 : Nat) = (1 : Nat)) ∧
               (((1 : Nat) = (1 : Nat)) ∧
                (((100 : Nat) = (100 : Nat)) ∧
                 ((List.length (Msg.refs (ro29o (decMsg (encMsg (1 : Nat) m)))) =
  List.length (Msg.refs (ro29o (decMsg (encMsg (1 : Nat) m))))) ∧
                  (∃ y : List Int, ((List.length y = List.length (Msg.refs (ro29o (decMsg (encMsg (1 : Nat) m))))) ∧
                    (∀ i : Nat,
                      ((i < List.length (Msg.refs (ro29o (decMsg (encMsg (1 : Nat) m))))) →
                        (ELe (V.int IntKind.i64 (List.getD (Msg.refs (ro29o (decMsg (encMsg (1 : Nat) m)))) i default))
  (V.int IntKind.i64 (List.getD y i default))))))))))) ∧
              (pr73 (List.length (Msg.certs (ro29o (decMsg (encMsg (1 : Nat) m)))))
  (List.length (Msg.refs (ro29o (decMsg (encMsg (1 : Nat) m)))))
  ((1 : Int) +
    cntL (decL decMsg (encL (encMsg (1 : Nat)) (1 : Nat) (ro36o (decL decMsg (encL (encMsg (1 : Nat)) (1 : Nat) l)))))
      (List.length
        (decL decMsg (encL (encMsg (1 : Nat)) (1 : Nat) (ro36o (decL decMsg (encL (encMsg (1 : Nat)) (1 : Nat) l)))))))))) ∧
            ((List.length (Msg.certs (ro29o (decMsg (encMsg (1 : Nat) m)))) =
  List.length (Msg.certs (ro29o (decMsg (encMsg (1 : Nat) m))))) ∧
             ((List.length (Msg.refs (ro29o (decMsg (encMsg (1 : Nat) m)))) =
  List.length (Msg.refs (ro29o (decMsg (encMsg (1 : Nat) m))))) ∧
              ((((!decide
      ((1 : Int) +
              cntL
                (decL decMsg
                  (encL (encMsg (1 : Nat)) (1 : Nat) (ro36o (decL decMsg (encL (encMsg (1 : Nat)) (1 : Nat) l)))))
                (List.length
                  (decL decMsg
                    (encL (encMsg (1 : Nat)) (1 : Nat) (ro36o (decL decMsg (encL (encMsg (1 : Nat)) (1 : Nat) l)))))) +
            (3 : Int) * (↑(List.length (Msg.certs (ro29o (decMsg (encMsg (1 : Nat) m))))) : Int) +
          (↑(List.length (Msg.refs (ro29o (decMsg (encMsg (1 : Nat) m))))) : Int) <
        (0 : Int))) =
  true) →
                 (((!decide
      ((1 : Int) +
              cntL
                (decL decMsg
                  (encL (encMsg (1 : Nat)) (1 : Nat) (ro36o (decL decMsg (encL (encMsg (1 : Nat)) (1 : Nat) l)))))
                (List.length
                  (decL decMsg
                    (encL (encMsg (1 : Nat)) (1 : Nat) (ro36o (decL decMsg (encL (encMsg (1 : Nat)) (1 : Nat) l)))))) +
            (3 : Int) * (↑(List.length (Msg.certs (ro29o (decMsg (encMsg (1 : Nat) m))))) : Int) +
          (↑(List.length (Msg.refs (ro29o (decMsg (encMsg (1 : Nat) m))))) : Int) <
        (0 : Int))) =
  true) →
                   ((!decide
      ((1 : Int) +
              cntL
                (decL decMsg
                  (encL (encMsg (1 : Nat)) (1 : Nat) (ro36o (decL decMsg (encL (encMsg (1 : Nat)) (1 : Nat) l)))))
                (List.length
                  (decL decMsg
                    (encL (encMsg (1 : Nat)) (1 : Nat) (ro36o (decL decMsg (encL (encMsg (1 : Nat)) (1 : Nat) l)))))) +
            (3 : Int) * (↑(List.length (Msg.certs (ro29o (decMsg (encMsg (1 : Nat) m))))) : Int) +
          (↑(List.length (Msg.refs (ro29o (decMsg (encMsg (1 : Nat) m))))) : Int) <
        (0 : Int))) =
  true))) ∧
               ((((!decide
      ((1 : Int) +
              cntL
                (decL decMsg
                  (encL (encMsg (1 : Nat)) (1 : Nat) (ro36o (decL decMsg (encL (encMsg (1 : Nat)) (1 : Nat) l)))))
                (List.length
                  (decL decMsg
                    (encL (encMsg (1 : Nat)) (1 : Nat) (ro36o (decL decMsg (encL (encMsg (1 : Nat)) (1 : Nat) l)))))) +
            (3 : Int) * (↑(List.length (Msg.certs (ro29o (decMsg (encMsg (1 : Nat) m))))) : Int) +
          (↑(List.length (Msg.refs (ro29o (decMsg (encMsg (1 : Nat) m))))) : Int) <
        (0 : Int))) =
  true) →
                  (((!decide
      ((1 : Int) +
              cntL
                (decL decMsg
                  (encL (encMsg (1 : Nat)) (1 : Nat) (ro36o (decL decMsg (encL (encMsg (1 : Nat)) (1 : Nat) l)))))
                (List.length
                  (decL decMsg
                    (encL (encMsg (1 : Nat)) (1 : Nat) (ro36o (decL decMsg (encL (encMsg (1 : Nat)) (1 : Nat) l)))))) +
            (3 : Int) * (↑(List.length (Msg.certs (ro29o (decMsg (encMsg (1 : Nat) m))))) : Int) +
          (↑(List.length (Msg.refs (ro29o (decMsg (encMsg (1 : Nat) m))))) : Int) <
        (0 : Int))) =
  true) →
                    ((!decide
      ((1 : Int) +
              cntL
                (decL decMsg
                  (encL (encMsg (1 : Nat)) (1 : Nat) (ro36o (decL decMsg (encL (encMsg (1 : Nat)) (1 : Nat) l)))))
                (List.length
                  (decL decMsg
                    (encL (encMsg (1 : Nat)) (1 : Nat) (ro36o (decL decMsg (encL (encMsg (1 : Nat)) (1 : Nat) l)))))) +
            (3 : Int) * (↑(List.length (Msg.certs (ro29o (decMsg (encMsg (1 : Nat) m))))) : Int) +
          (↑(List.length (Msg.refs (ro29o (decMsg (encMsg (1 : Nat) m))))) : Int) <
        (0 : Int))) =
  true))) ∧
                ((((!decide
      ((1 : Int) +
              cntL
                (decL decMsg
                  (encL (encMsg (1 : Nat)) (1 : Nat) (ro36o (decL decMsg (encL (encMsg (1 : Nat)) (1 : Nat) l)))))
                (List.length
                  (decL decMsg
                    (encL (encMsg (1 : Nat)) (1 : Nat) (ro36o (decL decMsg (encL (encMsg (1 : Nat)) (1 : Nat) l)))))) +
            (3 : Int) * (↑(List.length (Msg.certs (ro29o (decMsg (encMsg (1 : Nat) m))))) : Int) +
          (↑(List.length (Msg.refs (ro29o (decMsg (encMsg (1 : Nat) m))))) : Int) <
        (0 : Int))) =
  true) →
                   ((VLe
  (encIntsResult (1 : Nat)
    (ro63o f
      (decL decMsg (encL (encMsg (1 : Nat)) (1 : Nat) (ro36o (decL decMsg (encL (encMsg (1 : Nat)) (1 : Nat) l)))))
      (decMsg (encMsg (1 : Nat) (ro29o (decMsg (encMsg (1 : Nat) m)))))))
  (encIntsResult (1 : Nat)
    (decIntsResult
      (encIntsResult (1 : Nat)
        (ro63o f
          (decL decMsg (encL (encMsg (1 : Nat)) (1 : Nat) (ro36o (decL decMsg (encL (encMsg (1 : Nat)) (1 : Nat) l)))))
          (decMsg (encMsg (1 : Nat) (ro29o (decMsg (encMsg (1 : Nat) m)))))))))) ∧
                    ((VLe
  (encIntsResult (1 : Nat)
    (ro64o f
      (decL decMsg (encL (encMsg (1 : Nat)) (1 : Nat) (ro36o (decL decMsg (encL (encMsg (1 : Nat)) (1 : Nat) l)))))
      (decMsg (encMsg (1 : Nat) (ro29o (decMsg (encMsg (1 : Nat) m)))))))
  (encIntsResult (1 : Nat)
    (decIntsResult
      (encIntsResult (1 : Nat)
        (ro64o f
          (decL decMsg (encL (encMsg (1 : Nat)) (1 : Nat) (ro36o (decL decMsg (encL (encMsg (1 : Nat)) (1 : Nat) l)))))
          (decMsg (encMsg (1 : Nat) (ro29o (decMsg (encMsg (1 : Nat) m)))))))))) ∧
                     (pr45
  (decIntsResult
    (encIntsResult (1 : Nat)
      (ro63o f
        (decL decMsg (encL (encMsg (1 : Nat)) (1 : Nat) (ro36o (decL decMsg (encL (encMsg (1 : Nat)) (1 : Nat) l)))))
        (decMsg (encMsg (1 : Nat) (ro29o (decMsg (encMsg (1 : Nat) m))))))))
  (decIntsResult
    (encIntsResult (1 : Nat)
      (ro64o f
        (decL decMsg (encL (encMsg (1 : Nat)) (1 : Nat) (ro36o (decL decMsg (encL (encMsg (1 : Nat)) (1 : Nat) l)))))
        (decMsg (encMsg (1 : Nat) (ro29o (decMsg (encMsg (1 : Nat) m)))))))))))) ∧
                 ((((!decide
      ((1 : Int) +
              cntL
                (decL decMsg
                  (encL (encMsg (1 : Nat)) (1 : Nat) (ro36o (decL decMsg (encL (encMsg (1 : Nat)) (1 : Nat) l)))))
                (List.length
                  (decL decMsg
                    (encL (encMsg (1 : Nat)) (1 : Nat) (ro36o (decL decMsg (encL (encMsg (1 : Nat)) (1 : Nat) l)))))) +
            (3 : Int) * (↑(List.length (Msg.certs (ro29o (decMsg (encMsg (1 : Nat) m))))) : Int) +
          (↑(List.length (Msg.refs (ro29o (decMsg (encMsg (1 : Nat) m))))) : Int) <
        (0 : Int))) =
  true) →
                    (((!decide
      ((1 : Int) +
              cntL
                (decL decMsg
                  (encL (encMsg (1 : Nat)) (1 : Nat) (ro36o (decL decMsg (encL (encMsg (1 : Nat)) (1 : Nat) l)))))
                (List.length
                  (decL decMsg
                    (encL (encMsg (1 : Nat)) (1 : Nat) (ro36o (decL decMsg (encL (encMsg (1 : Nat)) (1 : Nat) l)))))) +
            (3 : Int) * (↑(List.length (Msg.certs (ro29o (decMsg (encMsg (1 : Nat) m))))) : Int) +
          (↑(List.length (Msg.refs (ro29o (decMsg (encMsg (1 : Nat) m))))) : Int) <
        (0 : Int))) =
  true) →
                      ((!decide
      ((1 : Int) +
              cntL
                (decL decMsg
                  (encL (encMsg (1 : Nat)) (1 : Nat) (ro36o (decL decMsg (encL (encMsg (1 : Nat)) (1 : Nat) l)))))
                (List.length
                  (decL decMsg
                    (encL (encMsg (1 : Nat)) (1 : Nat) (ro36o (decL decMsg (encL (encMsg (1 : Nat)) (1 : Nat) l)))))) +
            (3 : Int) * (↑(List.length (Msg.certs (ro29o (decMsg (encMsg (1 : Nat) m))))) : Int) +
          (↑(List.length (Msg.refs (ro29o (decMsg (encMsg (1 : Nat) m))))) : Int) <
        (0 : Int))) =
  true))) ∧
                  (((true = true) →
                     ((decide
    ((1 : Int) +
            cntL
              (decL decMsg
                (encL (encMsg (1 : Nat)) (1 : Nat) (ro36o (decL decMsg (encL (encMsg (1 : Nat)) (1 : Nat) l)))))
              (List.length
                (decL decMsg
                  (encL (encMsg (1 : Nat)) (1 : Nat) (ro36o (decL decMsg (encL (encMsg (1 : Nat)) (1 : Nat) l)))))) +
          (3 : Int) * (↑(List.length (Msg.certs (ro29o (decMsg (encMsg (1 : Nat) m))))) : Int) +
        (↑(List.length (Msg.refs (ro29o (decMsg (encMsg (1 : Nat) m))))) : Int) <
      (0 : Int)) =
  false) →
                       ((!decide
      ((1 : Int) +
              cntL
                (decL decMsg
                  (encL (encMsg (1 : Nat)) (1 : Nat) (ro36o (decL decMsg (encL (encMsg (1 : Nat)) (1 : Nat) l)))))
                (List.length
                  (decL decMsg
                    (encL (encMsg (1 : Nat)) (1 : Nat) (ro36o (decL decMsg (encL (encMsg (1 : Nat)) (1 : Nat) l)))))) +
            (3 : Int) * (↑(List.length (Msg.certs (ro29o (decMsg (encMsg (1 : Nat) m))))) : Int) +
          (↑(List.length (Msg.refs (ro29o (decMsg (encMsg (1 : Nat) m))))) : Int) <
        (0 : Int))) =
  true))) ∧
                   (∀ b : Bool,
                     ((b =
  bif
      decide
        ((1 : Int) +
                cntL
                  (decL decMsg
                    (encL (encMsg (1 : Nat)) (1 : Nat) (ro36o (decL decMsg (encL (encMsg (1 : Nat)) (1 : Nat) l)))))
                  (List.length
                    (decL decMsg
                      (encL (encMsg (1 : Nat)) (1 : Nat)
                        (ro36o (decL decMsg (encL (encMsg (1 : Nat)) (1 : Nat) l)))))) +
              (3 : Int) * (↑(List.length (Msg.certs (ro29o (decMsg (encMsg (1 : Nat) m))))) : Int) +
            (↑(List.length (Msg.refs (ro29o (decMsg (encMsg (1 : Nat) m))))) : Int) <
          (0 : Int)) then
    true
  else
    !decide
        (decIntsResult
            (encIntsResult (1 : Nat)
              (ro63o f
                (decL decMsg
                  (encL (encMsg (1 : Nat)) (1 : Nat) (ro36o (decL decMsg (encL (encMsg (1 : Nat)) (1 : Nat) l)))))
                (decMsg (encMsg (1 : Nat) (ro29o (decMsg (encMsg (1 : Nat) m))))))) =
          decIntsResult
            (encIntsResult (1 : Nat)
              (ro64o f
                (decL decMsg
                  (encL (encMsg (1 : Nat)) (1 : Nat) (ro36o (decL decMsg (encL (encMsg (1 : Nat)) (1 : Nat) l)))))
                (decMsg (encMsg (1 : Nat) (ro29o (decMsg (encMsg (1 : Nat) m))))))))) →
                       (((b = true) →
  (VLe (V.bool false) (V.bool true))) ∧
                        ((b = false) →
  (((((0 : Nat) = (0 : Nat)) ∧
     (((1 : Nat) = (1 : Nat)) ∧
      (((100 : Nat) = (100 : Nat)) ∧
       ((List.length
    (IntsResult.list
      (ro63o f
        (decL decMsg (encL (encMsg (1 : Nat)) (1 : Nat) (ro36o (decL decMsg (encL (encMsg (1 : Nat)) (1 : Nat) l)))))
        (decMsg (encMsg (1 : Nat) (ro29o (decMsg (encMsg (1 : Nat) m))))))) =
  List.length
    (IntsResult.list
      (ro63o f
        (decL decMsg (encL (encMsg (1 : Nat)) (1 : Nat) (ro36o (decL decMsg (encL (encMsg (1 : Nat)) (1 : Nat) l)))))
        (decMsg (encMsg (1 : Nat) (ro29o (decMsg (encMsg (1 : Nat) m)))))))) ∧
        (∃ y : List Int, ((List.length y =
  List.length
    (IntsResult.list
      (ro63o f
        (decL decMsg (encL (encMsg (1 : Nat)) (1 : Nat) (ro36o (decL decMsg (encL (encMsg (1 : Nat)) (1 : Nat) l)))))
        (decMsg (encMsg (1 : Nat) (ro29o (decMsg (encMsg (1 : Nat) m)))))))) ∧
          (∀ i : Nat,
            ((i <
  List.length
    (IntsResult.list
      (ro63o f
        (decL decMsg (encL (encMsg (1 : Nat)) (1 : Nat) (ro36o (decL decMsg (encL (encMsg (1 : Nat)) (1 : Nat) l)))))
        (decMsg (encMsg (1 : Nat) (ro29o (decMsg (encMsg (1 : Nat) m)))))))) →
              (ELe
  (V.int IntKind.i64
    (List.getD
      (IntsResult.list
        (ro63o f
          (decL decMsg (encL (encMsg (1 : Nat)) (1 : Nat) (ro36o (decL decMsg (encL (encMsg (1 : Nat)) (1 : Nat) l)))))
          (decMsg (encMsg (1 : Nat) (ro29o (decMsg (encMsg (1 : Nat) m)))))))
      i default))
  (V.int IntKind.i64 (List.getD y i default))))))))))) ∧
    (pr47
  (List.length
    (IntsResult.list
      (ro63o f
        (decL decMsg (encL (encMsg (1 : Nat)) (1 : Nat) (ro36o (decL decMsg (encL (encMsg (1 : Nat)) (1 : Nat) l)))))
        (decMsg (encMsg (1 : Nat) (ro29o (decMsg (encMsg (1 : Nat) m))))))))
  (1 : Int))) ∧
   ((List.length
    (IntsResult.list
      (ro63o f
        (decL decMsg (encL (encMsg (1 : Nat)) (1 : Nat) (ro36o (decL decMsg (encL (encMsg (1 : Nat)) (1 : Nat) l)))))
        (decMsg (encMsg (1 : Nat) (ro29o (decMsg (encMsg (1 : Nat) m))))))) =
  List.length
    (IntsResult.list
      (ro63o f
        (decL decMsg (encL (encMsg (1 : Nat)) (1 : Nat) (ro36o (decL decMsg (encL (encMsg (1 : Nat)) (1 : Nat) l)))))
        (decMsg (encMsg (1 : Nat) (ro29o (decMsg (encMsg (1 : Nat) m)))))))) ∧
    (((VLe
  (V.agg
    [V.int IntKind.i64
        (IntsResult.code
          (ro63o f
            (decL decMsg
              (encL (encMsg (1 : Nat)) (1 : Nat) (ro36o (decL decMsg (encL (encMsg (1 : Nat)) (1 : Nat) l)))))
            (decMsg (encMsg (1 : Nat) (ro29o (decMsg (encMsg (1 : Nat) m))))))),
      V.sl
        (List.length
          (IntsResult.list
            (ro63o f
              (decL decMsg
                (encL (encMsg (1 : Nat)) (1 : Nat) (ro36o (decL decMsg (encL (encMsg (1 : Nat)) (1 : Nat) l)))))
              (decMsg (encMsg (1 : Nat) (ro29o (decMsg (encMsg (1 : Nat) m))))))))
        (gL encI
          (markI (1 : Int)
            (List.length
              (IntsResult.list
                (ro63o f
                  (decL decMsg
                    (encL (encMsg (1 : Nat)) (1 : Nat) (ro36o (decL decMsg (encL (encMsg (1 : Nat)) (1 : Nat) l)))))
                  (decMsg (encMsg (1 : Nat) (ro29o (decMsg (encMsg (1 : Nat) m))))))))))
        (1 : Nat)])
  (encIntsResult (1 : Nat)
    (decIntsResult
      (V.agg
        [V.int IntKind.i64
            (IntsResult.code
              (ro63o f
                (decL decMsg
                  (encL (encMsg (1 : Nat)) (1 : Nat) (ro36o (decL decMsg (encL (encMsg (1 : Nat)) (1 : Nat) l)))))
                (decMsg (encMsg (1 : Nat) (ro29o (decMsg (encMsg (1 : Nat) m))))))),
          V.sl
            (List.length
              (IntsResult.list
                (ro63o f
                  (decL decMsg
                    (encL (encMsg (1 : Nat)) (1 : Nat) (ro36o (decL decMsg (encL (encMsg (1 : Nat)) (1 : Nat) l)))))
                  (decMsg (encMsg (1 : Nat) (ro29o (decMsg (encMsg (1 : Nat) m))))))))
            (gL encI
              (markI (1 : Int)
                (List.length
                  (IntsResult.list
                    (ro63o f
                      (decL decMsg
                        (encL (encMsg (1 : Nat)) (1 : Nat) (ro36o (decL decMsg (encL (encMsg (1 : Nat)) (1 : Nat) l)))))
                      (decMsg (encMsg (1 : Nat) (ro29o (decMsg (encMsg (1 : Nat) m))))))))))
            (1 : Nat)])))) ∧
      (pr48
  (decIntsResult
    (V.agg
      [V.int IntKind.i64
          (IntsResult.code
            (ro63o f
              (decL decMsg
                (encL (encMsg (1 : Nat)) (1 : Nat) (ro36o (decL decMsg (encL (encMsg (1 : Nat)) (1 : Nat) l)))))
              (decMsg (encMsg (1 : Nat) (ro29o (decMsg (encMsg (1 : Nat) m))))))),
        V.sl
          (List.length
            (IntsResult.list
              (ro63o f
                (decL decMsg
                  (encL (encMsg (1 : Nat)) (1 : Nat) (ro36o (decL decMsg (encL (encMsg (1 : Nat)) (1 : Nat) l)))))
                (decMsg (encMsg (1 : Nat) (ro29o (decMsg (encMsg (1 : Nat) m))))))))
          (gL encI
            (markI (1 : Int)
              (List.length
                (IntsResult.list
                  (ro63o f
                    (decL decMsg
                      (encL (encMsg (1 : Nat)) (1 : Nat) (ro36o (decL decMsg (encL (encMsg (1 : Nat)) (1 : Nat) l)))))
                    (decMsg (encMsg (1 : Nat) (ro29o (decMsg (encMsg (1 : Nat) m))))))))))
          (1 : Nat)]))
  (1 : Int))) ∧
     (((decide
    (heldI
        (IntsResult.list
          (decIntsResult
            (V.agg
              [V.int IntKind.i64
                  (IntsResult.code
                    (ro63o f
                      (decL decMsg
                        (encL (encMsg (1 : Nat)) (1 : Nat) (ro36o (decL decMsg (encL (encMsg (1 : Nat)) (1 : Nat) l)))))
                      (decMsg (encMsg (1 : Nat) (ro29o (decMsg (encMsg (1 : Nat) m))))))),
                V.sl
                  (List.length
                    (IntsResult.list
                      (ro63o f
                        (decL decMsg
                          (encL (encMsg (1 : Nat)) (1 : Nat)
                            (ro36o (decL decMsg (encL (encMsg (1 : Nat)) (1 : Nat) l)))))
                        (decMsg (encMsg (1 : Nat) (ro29o (decMsg (encMsg (1 : Nat) m))))))))
                  (gL encI
                    (markI (1 : Int)
                      (List.length
                        (IntsResult.list
                          (ro63o f
                            (decL decMsg
                              (encL (encMsg (1 : Nat)) (1 : Nat)
                                (ro36o (decL decMsg (encL (encMsg (1 : Nat)) (1 : Nat) l)))))
                            (decMsg (encMsg (1 : Nat) (ro29o (decMsg (encMsg (1 : Nat) m))))))))))
                  (1 : Nat)])))
        (1 : Int) <
      (0 : Int)) =
  true) →
        (VLe (V.bool false) (V.bool true))) ∧
      ((decide
    (heldI
        (IntsResult.list
          (decIntsResult
            (V.agg
              [V.int IntKind.i64
                  (IntsResult.code
                    (ro63o f
                      (decL decMsg
                        (encL (encMsg (1 : Nat)) (1 : Nat) (ro36o (decL decMsg (encL (encMsg (1 : Nat)) (1 : Nat) l)))))
                      (decMsg (encMsg (1 : Nat) (ro29o (decMsg (encMsg (1 : Nat) m))))))),
                V.sl
                  (List.length
                    (IntsResult.list
                      (ro63o f
                        (decL decMsg
                          (encL (encMsg (1 : Nat)) (1 : Nat)
                            (ro36o (decL decMsg (encL (encMsg (1 : Nat)) (1 : Nat) l)))))
                        (decMsg (encMsg (1 : Nat) (ro29o (decMsg (encMsg (1 : Nat) m))))))))
                  (gL encI
                    (markI (1 : Int)
                      (List.length
                        (IntsResult.list
                          (ro63o f
                            (decL decMsg
                              (encL (encMsg (1 : Nat)) (1 : Nat)
                                (ro36o (decL decMsg (encL (encMsg (1 : Nat)) (1 : Nat) l)))))
                            (decMsg (encMsg (1 : Nat) (ro29o (decMsg (encMsg (1 : Nat) m))))))))))
                  (1 : Nat)])))
        (1 : Int) <
      (0 : Int)) =
  false) →
        ((((heldI
      (IntsResult.list
        (decIntsResult
          (V.agg
            [V.int IntKind.i64
                (IntsResult.code
                  (ro63o f
                    (decL decMsg
                      (encL (encMsg (1 : Nat)) (1 : Nat) (ro36o (decL decMsg (encL (encMsg (1 : Nat)) (1 : Nat) l)))))
                    (decMsg (encMsg (1 : Nat) (ro29o (decMsg (encMsg (1 : Nat) m))))))),
              V.sl
                (List.length
                  (IntsResult.list
                    (ro63o f
                      (decL decMsg
                        (encL (encMsg (1 : Nat)) (1 : Nat) (ro36o (decL decMsg (encL (encMsg (1 : Nat)) (1 : Nat) l)))))
                      (decMsg (encMsg (1 : Nat) (ro29o (decMsg (encMsg (1 : Nat) m))))))))
                (gL encI
                  (markI (1 : Int)
                    (List.length
                      (IntsResult.list
                        (ro63o f
                          (decL decMsg
                            (encL (encMsg (1 : Nat)) (1 : Nat)
                              (ro36o (decL decMsg (encL (encMsg (1 : Nat)) (1 : Nat) l)))))
                          (decMsg (encMsg (1 : Nat) (ro29o (decMsg (encMsg (1 : Nat) m))))))))))
                (1 : Nat)])))
      (1 : Int) !=
    (1 : Int) +
      (↑(List.length
            (IntsResult.list
              (ro63o f
                (decL decMsg
                  (encL (encMsg (1 : Nat)) (1 : Nat) (ro36o (decL decMsg (encL (encMsg (1 : Nat)) (1 : Nat) l)))))
                (decMsg (encMsg (1 : Nat) (ro29o (decMsg (encMsg (1 : Nat) m)))))))) :
        Int)) =
  true) →
           (VLe (V.bool false) (V.bool true))) ∧
         (((heldI
      (IntsResult.list
        (decIntsResult
          (V.agg
            [V.int IntKind.i64
                (IntsResult.code
                  (ro63o f
                    (decL decMsg
                      (encL (encMsg (1 : Nat)) (1 : Nat) (ro36o (decL decMsg (encL (encMsg (1 : Nat)) (1 : Nat) l)))))
                    (decMsg (encMsg (1 : Nat) (ro29o (decMsg (encMsg (1 : Nat) m))))))),
              V.sl
                (List.length
                  (IntsResult.list
                    (ro63o f
                      (decL decMsg
                        (encL (encMsg (1 : Nat)) (1 : Nat) (ro36o (decL decMsg (encL (encMsg (1 : Nat)) (1 : Nat) l)))))
                      (decMsg (encMsg (1 : Nat) (ro29o (decMsg (encMsg (1 : Nat) m))))))))
                (gL encI
                  (markI (1 : Int)
                    (List.length
                      (IntsResult.list
                        (ro63o f
                          (decL decMsg
                            (encL (encMsg (1 : Nat)) (1 : Nat)
                              (ro36o (decL decMsg (encL (encMsg (1 : Nat)) (1 : Nat) l)))))
                          (decMsg (encMsg (1 : Nat) (ro29o (decMsg (encMsg (1 : Nat) m))))))))))
                (1 : Nat)])))
      (1 : Int) !=
    (1 : Int) +
      (↑(List.length
            (IntsResult.list
              (ro63o f
                (decL decMsg
                  (encL (encMsg (1 : Nat)) (1 : Nat) (ro36o (decL decMsg (encL (encMsg (1 : Nat)) (1 : Nat) l)))))
                (decMsg (encMsg (1 : Nat) (ro29o (decMsg (encMsg (1 : Nat) m)))))))) :
        Int)) =
  false) →
           (((VLe (encL (encMsg (1 : Nat)) (1 : Nat) l)
  (encL (encMsg (1 : Nat)) (1 : Nat) (decL decMsg (encL (encMsg (1 : Nat)) (1 : Nat) l)))) ∧
             (pr36o (decL decMsg (encL (encMsg (1 : Nat)) (1 : Nat) l)))) ∧
            (((VLe (encMsg (1 : Nat) m) (encMsg (1 : Nat) (decMsg (encMsg (1 : Nat) m)))) ∧
              (pr29o (decMsg (encMsg (1 : Nat) m)))) ∧
             (((VLe (encL (encMsg (1 : Nat)) (1 : Nat) (ro36o (decL decMsg (encL (encMsg (1 : Nat)) (1 : Nat) l))))
  (encL (encMsg (1 : Nat)) (1 : Nat)
    (decL decMsg (encL (encMsg (1 : Nat)) (1 : Nat) (ro36o (decL decMsg (encL (encMsg (1 : Nat)) (1 : Nat) l))))))) ∧
               ((VLe (encMsg (1 : Nat) (ro29o (decMsg (encMsg (1 : Nat) m))))
  (encMsg (1 : Nat) (decMsg (encMsg (1 : Nat) (ro29o (decMsg (encMsg (1 : Nat) m))))))) ∧
                (pr63o f (decL decMsg (encL (encMsg (1 : Nat)) (1 : Nat) (ro36o (decL decMsg (encL (encMsg (1 : Nat)) (1 : Nat) l)))))
  (decMsg (encMsg (1 : Nat) (ro29o (decMsg (encMsg (1 : Nat) m)))))))) ∧
              (((VLe
  (encIntsResult (1 : Nat)
    (ro63o f
      (decL decMsg (encL (encMsg (1 : Nat)) (1 : Nat) (ro36o (decL decMsg (encL (encMsg (1 : Nat)) (1 : Nat) l)))))
      (decMsg (encMsg (1 : Nat) (ro29o (decMsg (encMsg (1 : Nat) m)))))))
  (encIntsResult (1 : Nat)
    (decIntsResult
      (encIntsResult (1 : Nat)
        (ro63o f
          (decL decMsg (encL (encMsg (1 : Nat)) (1 : Nat) (ro36o (decL decMsg (encL (encMsg (1 : Nat)) (1 : Nat) l)))))
          (decMsg (encMsg (1 : Nat) (ro29o (decMsg (encMsg (1 : Nat) m)))))))))) ∧
                ((VLe
  (encIntsResult (1 : Nat)
    (ro64o f
      (decL decMsg (encL (encMsg (1 : Nat)) (1 : Nat) (ro36o (decL decMsg (encL (encMsg (1 : Nat)) (1 : Nat) l)))))
      (decMsg (encMsg (1 : Nat) (ro29o (decMsg (encMsg (1 : Nat) m)))))))
  (encIntsResult (1 : Nat)
    (decIntsResult
      (encIntsResult (1 : Nat)
        (ro64o f
          (decL decMsg (encL (encMsg (1 : Nat)) (1 : Nat) (ro36o (decL decMsg (encL (encMsg (1 : Nat)) (1 : Nat) l)))))
          (decMsg (encMsg (1 : Nat) (ro29o (decMsg (encMsg (1 : Nat) m)))))))))) ∧
                 (pr45
  (decIntsResult
    (encIntsResult (1 : Nat)
      (ro63o f
        (decL decMsg (encL (encMsg (1 : Nat)) (1 : Nat) (ro36o (decL decMsg (encL (encMsg (1 : Nat)) (1 : Nat) l)))))
        (decMsg (encMsg (1 : Nat) (ro29o (decMsg (encMsg (1 : Nat) m))))))))
  (decIntsResult
    (encIntsResult (1 : Nat)
      (ro64o f
        (decL decMsg (encL (encMsg (1 : Nat)) (1 : Nat) (ro36o (decL decMsg (encL (encMsg (1 : Nat)) (1 : Nat) l)))))
        (decMsg (encMsg (1 : Nat) (ro29o (decMsg (encMsg (1 : Nat) m))))))))))) ∧
               ((((!decide
      (decIntsResult
          (encIntsResult (1 : Nat)
            (ro63o f
              (decL decMsg
                (encL (encMsg (1 : Nat)) (1 : Nat) (ro36o (decL decMsg (encL (encMsg (1 : Nat)) (1 : Nat) l)))))
              (decMsg (encMsg (1 : Nat) (ro29o (decMsg (encMsg (1 : Nat) m))))))) =
        decIntsResult
          (encIntsResult (1 : Nat)
            (ro64o f
              (decL decMsg
                (encL (encMsg (1 : Nat)) (1 : Nat) (ro36o (decL decMsg (encL (encMsg (1 : Nat)) (1 : Nat) l)))))
              (decMsg (encMsg (1 : Nat) (ro29o (decMsg (encMsg (1 : Nat) m))))))))) =
  true) →
                  (VLe (V.bool false) (V.bool true))) ∧
                (((!decide
      (decIntsResult
          (encIntsResult (1 : Nat)
            (ro63o f
              (decL decMsg
                (encL (encMsg (1 : Nat)) (1 : Nat) (ro36o (decL decMsg (encL (encMsg (1 : Nat)) (1 : Nat) l)))))
              (decMsg (encMsg (1 : Nat) (ro29o (decMsg (encMsg (1 : Nat) m))))))) =
        decIntsResult
          (encIntsResult (1 : Nat)
            (ro64o f
              (decL decMsg
                (encL (encMsg (1 : Nat)) (1 : Nat) (ro36o (decL decMsg (encL (encMsg (1 : Nat)) (1 : Nat) l)))))
              (decMsg (encMsg (1 : Nat) (ro29o (decMsg (encMsg (1 : Nat) m))))))))) =
  false) →
                  (((VLe
  (V.agg
    [V.int IntKind.i64
        (IntsResult.code
          (ro63o f
            (decL decMsg
              (encL (encMsg (1 : Nat)) (1 : Nat) (ro36o (decL decMsg (encL (encMsg (1 : Nat)) (1 : Nat) l)))))
            (decMsg (encMsg (1 : Nat) (ro29o (decMsg (encMsg (1 : Nat) m))))))),
      V.sl
        (List.length
          (IntsResult.list
            (ro63o f
              (decL decMsg
                (encL (encMsg (1 : Nat)) (1 : Nat) (ro36o (decL decMsg (encL (encMsg (1 : Nat)) (1 : Nat) l)))))
              (decMsg (encMsg (1 : Nat) (ro29o (decMsg (encMsg (1 : Nat) m))))))))
        (gL encI
          (markI (1 : Int)
            (List.length
              (IntsResult.list
                (ro63o f
                  (decL decMsg
                    (encL (encMsg (1 : Nat)) (1 : Nat) (ro36o (decL decMsg (encL (encMsg (1 : Nat)) (1 : Nat) l)))))
                  (decMsg (encMsg (1 : Nat) (ro29o (decMsg (encMsg (1 : Nat) m))))))))))
        (1 : Nat)])
  (encIntsResult (1 : Nat)
    (decIntsResult
      (V.agg
        [V.int IntKind.i64
            (IntsResult.code
              (ro63o f
                (decL decMsg
                  (encL (encMsg (1 : Nat)) (1 : Nat) (ro36o (decL decMsg (encL (encMsg (1 : Nat)) (1 : Nat) l)))))
                (decMsg (encMsg (1 : Nat) (ro29o (decMsg (encMsg (1 : Nat) m))))))),
          V.sl
            (List.length
              (IntsResult.list
                (ro63o f
                  (decL decMsg
                    (encL (encMsg (1 : Nat)) (1 : Nat) (ro36o (decL decMsg (encL (encMsg (1 : Nat)) (1 : Nat) l)))))
                  (decMsg (encMsg (1 : Nat) (ro29o (decMsg (encMsg (1 : Nat) m))))))))
            (gL encI
              (markI (1 : Int)
                (List.length
                  (IntsResult.list
                    (ro63o f
                      (decL decMsg
                        (encL (encMsg (1 : Nat)) (1 : Nat) (ro36o (decL decMsg (encL (encMsg (1 : Nat)) (1 : Nat) l)))))
                      (decMsg (encMsg (1 : Nat) (ro29o (decMsg (encMsg (1 : Nat) m))))))))))
            (1 : Nat)])))) ∧
                    (pr48
  (decIntsResult
    (V.agg
      [V.int IntKind.i64
          (IntsResult.code
            (ro63o f
              (decL decMsg
                (encL (encMsg (1 : Nat)) (1 : Nat) (ro36o (decL decMsg (encL (encMsg (1 : Nat)) (1 : Nat) l)))))
              (decMsg (encMsg (1 : Nat) (ro29o (decMsg (encMsg (1 : Nat) m))))))),
        V.sl
          (List.length
            (IntsResult.list
              (ro63o f
                (decL decMsg
                  (encL (encMsg (1 : Nat)) (1 : Nat) (ro36o (decL decMsg (encL (encMsg (1 : Nat)) (1 : Nat) l)))))
                (decMsg (encMsg (1 : Nat) (ro29o (decMsg (encMsg (1 : Nat) m))))))))
          (gL encI
            (markI (1 : Int)
              (List.length
                (IntsResult.list
                  (ro63o f
                    (decL decMsg
                      (encL (encMsg (1 : Nat)) (1 : Nat) (ro36o (decL decMsg (encL (encMsg (1 : Nat)) (1 : Nat) l)))))
                    (decMsg (encMsg (1 : Nat) (ro29o (decMsg (encMsg (1 : Nat) m))))))))))
          (1 : Nat)]))
  (1 : Int))) ∧
                   (((decide
    (heldI
        (IntsResult.list
          (decIntsResult
            (V.agg
              [V.int IntKind.i64
                  (IntsResult.code
                    (ro63o f
                      (decL decMsg
                        (encL (encMsg (1 : Nat)) (1 : Nat) (ro36o (decL decMsg (encL (encMsg (1 : Nat)) (1 : Nat) l)))))
                      (decMsg (encMsg (1 : Nat) (ro29o (decMsg (encMsg (1 : Nat) m))))))),
                V.sl
                  (List.length
                    (IntsResult.list
                      (ro63o f
                        (decL decMsg
                          (encL (encMsg (1 : Nat)) (1 : Nat)
                            (ro36o (decL decMsg (encL (encMsg (1 : Nat)) (1 : Nat) l)))))
                        (decMsg (encMsg (1 : Nat) (ro29o (decMsg (encMsg (1 : Nat) m))))))))
                  (gL encI
                    (markI (1 : Int)
                      (List.length
                        (IntsResult.list
                          (ro63o f
                            (decL decMsg
                              (encL (encMsg (1 : Nat)) (1 : Nat)
                                (ro36o (decL decMsg (encL (encMsg (1 : Nat)) (1 : Nat) l)))))
                            (decMsg (encMsg (1 : Nat) (ro29o (decMsg (encMsg (1 : Nat) m))))))))))
                  (1 : Nat)])))
        (1 : Int) <
      (0 : Int)) =
  true) →
                      (VLe (V.bool false) (V.bool true))) ∧
                    ((decide
    (heldI
        (IntsResult.list
          (decIntsResult
            (V.agg
              [V.int IntKind.i64
                  (IntsResult.code
                    (ro63o f
                      (decL decMsg
                        (encL (encMsg (1 : Nat)) (1 : Nat) (ro36o (decL decMsg (encL (encMsg (1 : Nat)) (1 : Nat) l)))))
                      (decMsg (encMsg (1 : Nat) (ro29o (decMsg (encMsg (1 : Nat) m))))))),
                V.sl
                  (List.length
                    (IntsResult.list
                      (ro63o f
                        (decL decMsg
                          (encL (encMsg (1 : Nat)) (1 : Nat)
                            (ro36o (decL decMsg (encL (encMsg (1 : Nat)) (1 : Nat) l)))))
                        (decMsg (encMsg (1 : Nat) (ro29o (decMsg (encMsg (1 : Nat) m))))))))
                  (gL encI
                    (markI (1 : Int)
                      (List.length
                        (IntsResult.list
                          (ro63o f
                            (decL decMsg
                              (encL (encMsg (1 : Nat)) (1 : Nat)
                                (ro36o (decL decMsg (encL (encMsg (1 : Nat)) (1 : Nat) l)))))
                            (decMsg (encMsg (1 : Nat) (ro29o (decMsg (encMsg (1 : Nat) m))))))))))
                  (1 : Nat)])))
        (1 : Int) <
      (0 : Int)) =
  false) →
                      ((((heldI
      (IntsResult.list
        (decIntsResult
          (V.agg
            [V.int IntKind.i64
                (IntsResult.code
                  (ro63o f
                    (decL decMsg
                      (encL (encMsg (1 : Nat)) (1 : Nat) (ro36o (decL decMsg (encL (encMsg (1 : Nat)) (1 : Nat) l)))))
                    (decMsg (encMsg (1 : Nat) (ro29o (decMsg (encMsg (1 : Nat) m))))))),
              V.sl
                (List.length
                  (IntsResult.list
                    (ro63o f
                      (decL decMsg
                        (encL (encMsg (1 : Nat)) (1 : Nat) (ro36o (decL decMsg (encL (encMsg (1 : Nat)) (1 : Nat) l)))))
                      (decMsg (encMsg (1 : Nat) (ro29o (decMsg (encMsg (1 : Nat) m))))))))
                (gL encI
                  (markI (1 : Int)
                    (List.length
                      (IntsResult.list
                        (ro63o f
                          (decL decMsg
                            (encL (encMsg (1 : Nat)) (1 : Nat)
                              (ro36o (decL decMsg (encL (encMsg (1 : Nat)) (1 : Nat) l)))))
                          (decMsg (encMsg (1 : Nat) (ro29o (decMsg (encMsg (1 : Nat) m))))))))))
                (1 : Nat)])))
      (1 : Int) !=
    (1 : Int) +
      (↑(List.length
            (IntsResult.list
              (ro63o f
                (decL decMsg
                  (encL (encMsg (1 : Nat)) (1 : Nat) (ro36o (decL decMsg (encL (encMsg (1 : Nat)) (1 : Nat) l)))))
                (decMsg (encMsg (1 : Nat) (ro29o (decMsg (encMsg (1 : Nat) m)))))))) :
        Int)) =
  true) →
                         (VLe (V.bool false) (V.bool true))) ∧
                       (((heldI
      (IntsResult.list
        (decIntsResult
          (V.agg
            [V.int IntKind.i64
                (IntsResult.code
                  (ro63o f
                    (decL decMsg
                      (encL (encMsg (1 : Nat)) (1 : Nat) (ro36o (decL decMsg (encL (encMsg (1 : Nat)) (1 : Nat) l)))))
                    (decMsg (encMsg (1 : Nat) (ro29o (decMsg (encMsg (1 : Nat) m))))))),
              V.sl
                (List.length
                  (IntsResult.list
                    (ro63o f
                      (decL decMsg
                        (encL (encMsg (1 : Nat)) (1 : Nat) (ro36o (decL decMsg (encL (encMsg (1 : Nat)) (1 : Nat) l)))))
                      (decMsg (encMsg (1 : Nat) (ro29o (decMsg (encMsg (1 : Nat) m))))))))
                (gL encI
                  (markI (1 : Int)
                    (List.length
                      (IntsResult.list
                        (ro63o f
                          (decL decMsg
                            (encL (encMsg (1 : Nat)) (1 : Nat)
                              (ro36o (decL decMsg (encL (encMsg (1 : Nat)) (1 : Nat) l)))))
                          (decMsg (encMsg (1 : Nat) (ro29o (decMsg (encMsg (1 : Nat) m))))))))))
                (1 : Nat)])))
      (1 : Int) !=
    (1 : Int) +
      (↑(List.length
            (IntsResult.list
              (ro63o f
                (decL decMsg
                  (encL (encMsg (1 : Nat)) (1 : Nat) (ro36o (decL decMsg (encL (encMsg (1 : Nat)) (1 : Nat) l)))))
                (decMsg (encMsg (1 : Nat) (ro29o (decMsg (encMsg (1 : Nat) m)))))))) :
        Int)) =
  false) →
                         (VLe (V.bool true) (V.bool true)))))))))))))))))))))))))))))))))))))))))))))))))))))))) := by
    obtain ⟨_, hm, hmb⟩ := hpre
    have f1 := @szMsgSF_bd l 1048576
    have f3 := @szMsgSF_le l 1048576 (by omega)
    obtain ⟨hl, hb⟩ := hm
    have hv : ∀ v, VLe v v := VLe.refl
    simp only [decL_Msg, dec_encMsg]
    refine ⟨⟨VLe.refl _, by omega, by unfold most; omega, hl, hb⟩, fun h => VLe.refl _, fun h => ?_⟩
    have h0 := of_decide_eq_false h
    obtain ⟨g1, g2⟩ := f1 (by omega)
    have e1 := @szMsgF_bd m (szMsgSF l 1048576)
    have e3 := @szMsgF_le m (szMsgSF l 1048576) (by omega)
    refine ⟨⟨VLe.refl _, by omega, by unfold most; omega, hmb⟩, fun h => VLe.refl _, fun h => ?_⟩
    have h1 := of_decide_eq_false h
    have g3 := e1 (by omega)
    have p1 : pr36o l := ⟨by unfold most; omega, fun x hx => ⟨by have := g2 x hx; unfold most; omega, by have := g2 x hx; unfold most; omega⟩⟩
    have p1' : pr29o m := ⟨by unfold most; omega, by unfold most; omega⟩
    have p2 : pr38 l l := ⟨hl, fun x hx y => hb x hx⟩
    have p2' : pr31 m m := hmb
    have c1 : cntL l l.length ≤ 1048576 * 4194309 := by
      have := cntL_le (l := l) (n := 1048576) (by omega) fun x hx => by have := g2 x hx; omega
      have h2 : (l.length : Int) * (5 + 4 * (1048576 : Nat)) ≤ 1048576 * (5 + 4 * (1048576 : Nat)) := Int.mul_le_mul_of_nonneg_right (by omega) (by omega)
      omega
    have c2 := cntL_nonneg l l.length
    have p3 : mp46 l 1 := ⟨by omega, by omega, by omega⟩
    have p3' : pr73 m.certs.length m.refs.length (1 + cntL l l.length) := ⟨by omega, by omega⟩
    have q1 : decide (1 + cntL l l.length + 3 * (m.certs.length : Int) + (m.refs.length : Int) < 0) = false := by simp; omega
    have hn : (votesForF f l m).list.length ≤ 240 := votesForF_len
    simp only [decL_Msg, dec_encMsg, dec_encIntsResult, ro36o, ro29o, ro64o, ro63o, dec_markInts, heldI_mark, markI_len, q1]
    generalize votesForF f l m = W at *
    have p4 : pr45 W W := by show W.list.length ≤ maxLen; unfold maxLen; omega
    have p5 : pr47 W.list.length 1 := ⟨by omega, by omega⟩
    have p6 : pr48 ⟨W.code, markI 1 W.list.length⟩ 1 := ⟨by omega, by simp; omega⟩
    have q2 : decide (1 + (W.list.length : Int) < 0) = false := by simp; omega
    simp [hv, p1, p1', p2, p2', p3, p3', p4, p5, p6, q2]
    exact ⟨⟨⟨hl, hb⟩, hmb⟩, ⟨⟨hl, hb⟩, hmb⟩, ⟨⟨m.certs, rfl, fun _ _ => ELe.refl _⟩, m.refs, rfl, fun _ _ => ELe.refl _⟩, q1, fun _ => ⟨⟨W.list, rfl, fun _ _ => ELe.refl _⟩, vle_markInts _ _ _, ⟨⟨hl, hb⟩, hmb⟩, vle_markInts _ _ _⟩⟩
  exact Eq.mp (by kernel_rfl) key
theorem so17 : Sound Try.prog 17 (lawD Q17) := by
  refine sound_of_body hmix (pol := 0) Try.func17 rfl (by kernel_rfl) fun args bin ob r bout hDe hob => ?_
  unfold lawD at hDe
  split at hDe
  · cases hDe
    obtain ⟨f, l, m, hle, hpre⟩ := hob
    have hlen : args.length = 3 := hle.1.symm
    exact ⟨rfl, rfl, by rw [hlen]; exact Nat.le_of_ble_eq_true (by kernel_rfl), cx17 f l m, Eq.mp (by kernel_rfl) htt, Eq.mp (by kernel_rfl) da17, Eq.mp (by kernel_rfl) (soundAllM_cons sm46 (soundAllM_nil (P := Try.prog))), by kernel_rfl, _, hle, Eq.mp (by kernel_rfl) (bd17 f l m hpre)⟩
  · cases hDe

end Go.Av
