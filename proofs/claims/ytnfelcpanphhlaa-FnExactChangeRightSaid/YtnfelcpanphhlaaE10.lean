/- The law on changes. -/
import Derived.Test.YtnfelcpanphhlaaE9
namespace Go.Av
open Go.Proofs
set_option maxRecDepth 100000
set_option linter.unusedVariables false
set_option linter.unusedSimpArgs false


/-! ### laws.FnExactChangeRight -/
def pr13 (f : Int) (l : List Msg) (at_ : Int) : Prop := (Lit.int .i64 f).wf = true ∧ bdL l ∧ (Lit.int .i64 at_).wf = true
noncomputable def rs13 (f : Int) (l : List Msg) (at_ : Int) : V := .bool (true)
def Q13 (vs : List V) : Prop := ∃ (f : Int) (l : List Msg) (at_ : Int), ArgsLe vs [.int .i64 (f), encL (encMsg 1) 1 (l), .int .i64 (at_)] ∧ pr13 f l at_
noncomputable def D13 : Nat → Option (Bool × FSpec) := lk [(34, (false, sp34)), (36, (false, sp36)), (38, (false, sp38)), (60, (false, sp60)), (61, (false, sp61))]
theorem da13 : SoundAll Try.prog D13 := soundAll_cons so34 (soundAll_cons so36 (soundAll_cons so38 (soundAll_cons so60 (soundAll_cons so61 (soundAll_nil)))))
noncomputable def cx13 (f : Int) (l : List Msg) (at_ : Int) : Cx := ⟨tt, D13, Try.f13.ntmps, [0, 1, 2, 6, 7, 8, 9, 10, 15, 29, 34], [], [], fun _ => none, [], noM⟩
theorem bd13 (f : Int) (l : List Msg) (at_ : Int) (hpre : pr13 f l at_) : bodyP (cx13 f l at_) Try.f13 0 [.int .i64 (f), encL (encMsg 1) 1 (l), .int .i64 (at_)] (fun rr => VLe rr (rs13 f l at_)) := by
  have key :
      (((VLe (encL (encMsg (1 : Nat)) (1 : Nat) l)
  (encL (encMsg (1 : Nat)) (1 : Nat) (decL decMsg (encL (encMsg (1 : Nat)) (1 : Nat) l)))) ∧
        (pr34 (decL decMsg (encL (encMsg (1 : Nat)) (1 : Nat) l)) (1048576 : Int))) ∧
       (((decide (szMsgSF (decL decMsg (encL (encMsg (1 : Nat)) (1 : Nat) l)) (1048576 : Int) < (0 : Int)) = true) →
          (VLe (V.bool true) (V.bool true))) ∧
        ((decide (szMsgSF (decL decMsg (encL (encMsg (1 : Nat)) (1 : Nat) l)) (1048576 : Int) < (0 : Int)) = false) →
          (((VLe (encL (encMsg (1 : Nat)) (1 : Nat) l)
  (encL (encMsg (1 : Nat)) (1 : Nat) (decL decMsg (encL (encMsg (1 : Nat)) (1 : Nat) l)))) ∧
            (pr36 (decL decMsg (encL (encMsg (1 : Nat)) (1 : Nat) l)))) ∧
           (((VLe (encL (encMsg (1 : Nat)) (1 : Nat) (decL decMsg (encL (encMsg (1 : Nat)) (1 : Nat) l)))
  (encL (encMsg (1 : Nat)) (1 : Nat)
    (decL decMsg (encL (encMsg (1 : Nat)) (1 : Nat) (decL decMsg (encL (encMsg (1 : Nat)) (1 : Nat) l)))))) ∧
             (pr60 f (decL decMsg (encL (encMsg (1 : Nat)) (1 : Nat) (decL decMsg (encL (encMsg (1 : Nat)) (1 : Nat) l)))) at_)) ∧
            (((VLe (encL (encMsg (1 : Nat)) (1 : Nat) l)
  (encL (encMsg (1 : Nat)) (1 : Nat) (decL decMsg (encL (encMsg (1 : Nat)) (1 : Nat) l)))) ∧
              (pr36 (decL decMsg (encL (encMsg (1 : Nat)) (1 : Nat) l)))) ∧
             (((VLe (encL (encMsg (1 : Nat)) (1 : Nat) (decL decMsg (encL (encMsg (1 : Nat)) (1 : Nat) l)))
  (encL (encMsg (1 : Nat)) (1 : Nat)
    (decL decMsg (encL (encMsg (1 : Nat)) (1 : Nat) (decL decMsg (encL (encMsg (1 : Nat)) (1 : Nat) l)))))) ∧
               (pr61 f (decL decMsg (encL (encMsg (1 : Nat)) (1 : Nat) (decL decMsg (encL (encMsg (1 : Nat)) (1 : Nat) l)))) at_)) ∧
              ((((!decide
        (ledgerFault f
              (decL decMsg (encL (encMsg (1 : Nat)) (1 : Nat) (decL decMsg (encL (encMsg (1 : Nat)) (1 : Nat) l)))) =
            (0 : Int) ∧
          changeOk f
            (decL decMsg (encL (encMsg (1 : Nat)) (1 : Nat) (decL decMsg (encL (encMsg (1 : Nat)) (1 : Nat) l))))
            at_) ==
      decide
        (ledgerFault f
              (decL decMsg (encL (encMsg (1 : Nat)) (1 : Nat) (decL decMsg (encL (encMsg (1 : Nat)) (1 : Nat) l)))) =
            (0 : Int) ∧
          changeOk f
            (decL decMsg (encL (encMsg (1 : Nat)) (1 : Nat) (decL decMsg (encL (encMsg (1 : Nat)) (1 : Nat) l))))
            at_)) =
  true) →
                 (VLe (V.bool false) (V.bool true))) ∧
               (((!decide
        (ledgerFault f
              (decL decMsg (encL (encMsg (1 : Nat)) (1 : Nat) (decL decMsg (encL (encMsg (1 : Nat)) (1 : Nat) l)))) =
            (0 : Int) ∧
          changeOk f
            (decL decMsg (encL (encMsg (1 : Nat)) (1 : Nat) (decL decMsg (encL (encMsg (1 : Nat)) (1 : Nat) l))))
            at_) ==
      decide
        (ledgerFault f
              (decL decMsg (encL (encMsg (1 : Nat)) (1 : Nat) (decL decMsg (encL (encMsg (1 : Nat)) (1 : Nat) l)))) =
            (0 : Int) ∧
          changeOk f
            (decL decMsg (encL (encMsg (1 : Nat)) (1 : Nat) (decL decMsg (encL (encMsg (1 : Nat)) (1 : Nat) l))))
            at_)) =
  false) →
                 (((VLe (encL (encMsg (1 : Nat)) (1 : Nat) l)
  (encL (encMsg (1 : Nat)) (1 : Nat) (decL decMsg (encL (encMsg (1 : Nat)) (1 : Nat) l)))) ∧
                   (pr36 (decL decMsg (encL (encMsg (1 : Nat)) (1 : Nat) l)))) ∧
                  (((VLe (encL (encMsg (1 : Nat)) (1 : Nat) (decL decMsg (encL (encMsg (1 : Nat)) (1 : Nat) l)))
  (encL (encMsg (1 : Nat)) (1 : Nat)
    (decL decMsg (encL (encMsg (1 : Nat)) (1 : Nat) (decL decMsg (encL (encMsg (1 : Nat)) (1 : Nat) l)))))) ∧
                    ((VLe (encL (encMsg (1 : Nat)) (1 : Nat) (decL decMsg (encL (encMsg (1 : Nat)) (1 : Nat) l)))
  (encL (encMsg (1 : Nat)) (1 : Nat)
    (decL decMsg (encL (encMsg (1 : Nat)) (1 : Nat) (decL decMsg (encL (encMsg (1 : Nat)) (1 : Nat) l)))))) ∧
                     (pr38 (decL decMsg (encL (encMsg (1 : Nat)) (1 : Nat) (decL decMsg (encL (encMsg (1 : Nat)) (1 : Nat) l))))
  (decL decMsg (encL (encMsg (1 : Nat)) (1 : Nat) (decL decMsg (encL (encMsg (1 : Nat)) (1 : Nat) l))))))) ∧
                   ((((!decide
      (decL decMsg (encL (encMsg (1 : Nat)) (1 : Nat) (decL decMsg (encL (encMsg (1 : Nat)) (1 : Nat) l))) =
        decL decMsg (encL (encMsg (1 : Nat)) (1 : Nat) (decL decMsg (encL (encMsg (1 : Nat)) (1 : Nat) l))))) =
  true) →
                      (VLe (V.bool false) (V.bool true))) ∧
                    (((!decide
      (decL decMsg (encL (encMsg (1 : Nat)) (1 : Nat) (decL decMsg (encL (encMsg (1 : Nat)) (1 : Nat) l))) =
        decL decMsg (encL (encMsg (1 : Nat)) (1 : Nat) (decL decMsg (encL (encMsg (1 : Nat)) (1 : Nat) l))))) =
  false) →
                      (VLe (V.bool true) (V.bool true))))))))))))))) := by
    obtain ⟨_, hm, _⟩ := hpre
    have f1 := @szMsgSF_bd l 1048576
    have f3 := @szMsgSF_le l 1048576 (by omega)
    obtain ⟨hl, hb⟩ := hm
    simp only [decL_Msg]
    refine ⟨⟨VLe.refl _, by omega, by unfold most; omega, hl, hb⟩, fun h => VLe.refl _, fun h => ?_⟩
    have h0 := of_decide_eq_false h
    obtain ⟨g1, g2⟩ := f1 (by omega)
    have p1 : pr36 l := ⟨by unfold most; omega, fun x hx => ⟨by have := g2 x hx; unfold most; omega, by have := g2 x hx; unfold most; omega⟩⟩
    have p2 : pr38 l l := ⟨hl, fun x hx y => hb x hx⟩
    repeat' (first | exact VLe.refl _ | exact p1 | exact p2 | exact ⟨hl, hb⟩ | exact trivial | apply And.intro | intro _)
    all_goals simp_all
  exact Eq.mp (by kernel_rfl) key
theorem so13 : Sound Try.prog 13 (lawD Q13) := by
  refine sound_of_body hmix (pol := 0) Try.func13 rfl (by kernel_rfl) fun args bin ob r bout hDe hob => ?_
  unfold lawD at hDe
  split at hDe
  · cases hDe
    obtain ⟨f, l, at_, hle, hpre⟩ := hob
    have hlen : args.length = 3 := hle.1.symm
    exact ⟨rfl, rfl, by rw [hlen]; exact Nat.le_of_ble_eq_true (by kernel_rfl), cx13 f l at_, Eq.mp (by kernel_rfl) htt, Eq.mp (by kernel_rfl) da13, Eq.mp (by kernel_rfl) (noM_sound (P := Try.prog)), by kernel_rfl, _, hle, Eq.mp (by kernel_rfl) (bd13 f l at_ hpre)⟩
  · cases hDe

end Go.Av
