/- The law on new views. -/
import Derived.Test.YtnfelcpanphhlaaE11
namespace Go.Av
open Go.Proofs
set_option maxRecDepth 100000
set_option linter.unusedVariables false
set_option linter.unusedSimpArgs false


/-! ### laws.FnExactNewRight -/
def pr16 (f : Int) (l : List Msg) (at_ : Int) : Prop := (Lit.int .i64 f).wf = true ∧ bdL l ∧ (Lit.int .i64 at_).wf = true
noncomputable def rs16 (f : Int) (l : List Msg) (at_ : Int) : V := .bool (true)
def Q16 (vs : List V) : Prop := ∃ (f : Int) (l : List Msg) (at_ : Int), ArgsLe vs [.int .i64 (f), encL (encMsg 1) 1 (l), .int .i64 (at_)] ∧ pr16 f l at_
noncomputable def D16 : Nat → Option (Bool × FSpec) := lk [(34, (false, sp34)), (36, (false, sp36)), (38, (false, sp38)), (71, (false, sp71)), (72, (false, sp72))]
theorem da16 : SoundAll Try.prog D16 := soundAll_cons so34 (soundAll_cons so36 (soundAll_cons so38 (soundAll_cons so71 (soundAll_cons so72 (soundAll_nil)))))
noncomputable def cx16 (f : Int) (l : List Msg) (at_ : Int) : Cx := ⟨tt, D16, Try.f16.ntmps, [0, 1, 2, 6, 7, 8, 9, 10, 15, 29, 34], [], [], fun _ => none, [], noM⟩
theorem bd16 (f : Int) (l : List Msg) (at_ : Int) (hpre : pr16 f l at_) : bodyP (cx16 f l at_) Try.f16 0 [.int .i64 (f), encL (encMsg 1) 1 (l), .int .i64 (at_)] (fun rr => VLe rr (rs16 f l at_)) := by
  have key :
      (((VLe (encL (encMsg (1 : Nat)) (1 : Nat) l)
  (encL (encMsg (1 : Nat)) (1 : Nat) (decL decMsg (encL (encMsg (1 : Nat)) (1 : Nat) l)))) ∧
        (pr34 (decL decMsg (encL (encMsg (1 : Nat)) (1 : Nat) l)) (1048576 : Int))) ∧
       (((decide (szMsgSF (decL decMsg (encL (encMsg (1 : Nat)) (1 : Nat) l)) (1048576 : Int) < (0 : Int)) = true) →
          (VLe (V.bool true) (V.bool true))) ∧
        ((decide (szMsgSF (decL decMsg (encL (encMsg (1 : Nat)) (1 : Nat) l)) (1048576 : Int) < (0 : Int)) = false) →
          (((VLe (encL (encMsg (1 : Nat)) (1 : Nat) l)
  (encL (encMsg (1 : Nat)) (1 : Nat) (decL decMsg (encL (encMsg (1 : Nat)) (1 : Nat) l)))) ∧
            (pr36 (decL decMsg (encL (encMsg (1 : Nat)) (1 : Nat) l)))) ∧
           (((VLe (encL (encMsg (1 : Nat)) (1 : Nat) (decL decMsg (encL (encMsg (1 : Nat)) (1 : Nat) l)))
  (encL (encMsg (1 : Nat)) (1 : Nat)
    (decL decMsg (encL (encMsg (1 : Nat)) (1 : Nat) (decL decMsg (encL (encMsg (1 : Nat)) (1 : Nat) l)))))) ∧
             (pr71 f (decL decMsg (encL (encMsg (1 : Nat)) (1 : Nat) (decL decMsg (encL (encMsg (1 : Nat)) (1 : Nat) l)))) at_)) ∧
            (((VLe (encL (encMsg (1 : Nat)) (1 : Nat) l)
  (encL (encMsg (1 : Nat)) (1 : Nat) (decL decMsg (encL (encMsg (1 : Nat)) (1 : Nat) l)))) ∧
              (pr36 (decL decMsg (encL (encMsg (1 : Nat)) (1 : Nat) l)))) ∧
             (((VLe (encL (encMsg (1 : Nat)) (1 : Nat) (decL decMsg (encL (encMsg (1 : Nat)) (1 : Nat) l)))
  (encL (encMsg (1 : Nat)) (1 : Nat)
    (decL decMsg (encL (encMsg (1 : Nat)) (1 : Nat) (decL decMsg (encL (encMsg (1 : Nat)) (1 : Nat) l)))))) ∧
               (pr72 f (decL decMsg (encL (encMsg (1 : Nat)) (1 : Nat) (decL decMsg (encL (encMsg (1 : Nat)) (1 : Nat) l)))) at_)) ∧
              ((((!decide
        (ledgerFault f
              (decL decMsg (encL (encMsg (1 : Nat)) (1 : Nat) (decL decMsg (encL (encMsg (1 : Nat)) (1 : Nat) l)))) =
            (0 : Int) ∧
          newOk f (decL decMsg (encL (encMsg (1 : Nat)) (1 : Nat) (decL decMsg (encL (encMsg (1 : Nat)) (1 : Nat) l))))
            at_) ==
      decide
        (ledgerFault f
              (decL decMsg (encL (encMsg (1 : Nat)) (1 : Nat) (decL decMsg (encL (encMsg (1 : Nat)) (1 : Nat) l)))) =
            (0 : Int) ∧
          newOk f (decL decMsg (encL (encMsg (1 : Nat)) (1 : Nat) (decL decMsg (encL (encMsg (1 : Nat)) (1 : Nat) l))))
            at_)) =
  true) →
                 (VLe (V.bool false) (V.bool true))) ∧
               (((!decide
        (ledgerFault f
              (decL decMsg (encL (encMsg (1 : Nat)) (1 : Nat) (decL decMsg (encL (encMsg (1 : Nat)) (1 : Nat) l)))) =
            (0 : Int) ∧
          newOk f (decL decMsg (encL (encMsg (1 : Nat)) (1 : Nat) (decL decMsg (encL (encMsg (1 : Nat)) (1 : Nat) l))))
            at_) ==
      decide
        (ledgerFault f
              (decL decMsg (encL (encMsg (1 : Nat)) (1 : Nat) (decL decMsg (encL (encMsg (1 : Nat)) (1 : Nat) l)))) =
            (0 : Int) ∧
          newOk f (decL decMsg (encL (encMsg (1 : Nat)) (1 : Nat) (decL decMsg (encL (encMsg (1 : Nat)) (1 : Nat) l))))
            at_)) =
  false) →
                 (((VLe (encL (encMsg (1 : Nat)) (1 : Nat) l)
  (encL (encMsg (1 : Nat)) (1 : Nat) (decL decMsg (encL (encMsg (1 : Nat)) (1 : Nat) l)))) ∧
                   (pr36 (decL decMsg (encL (encMsg (1 : Nat)) (1 : Nat) l)))) ∧
                  (((VLe (encL (encMsg (1 : Nat)) (1 : Nat) (decL decMsg (encL (encMsg (1 : Nat)) (1 : Nat) l)))
  (encL (encMsg (1 : Nat)) (1 : Nat)
    (decL decMsg (encL (encMsg (1 : Nat)) (1 : Nat) (decL decMsg (encL (encMsg (1 : Nat)) (1 : Nat) l)))))) ∧
                    ((VLe (encL (encMsg (1 : Nat)) (1 : Nat) (decL decMsg (encL (encMsg (1 : Nat)) (1 : Nat) l)))
  (encL (encMsg (1 : Nat)) (1 : Nat)
    (decL decMsg (encL (encMsg (1 : Nat)) (1 : Nat) (decL decMsg (encL (encMsg (1 : Nat)) (1 : Nat) l)))))) ∧
                     (pr38 (decL decMsg (encL (encMsg (1 : Nat)) (1 : Nat) (decL decMsg (encL (encMsg (1 : Nat)) (1 : Nat) l))))
  (decL decMsg (encL (encMsg (1 : Nat)) (1 : Nat) (decL decMsg (encL (encMsg (1 : Nat)) (1 : Nat) l))))))) ∧
                   ((((!decide
      (decL decMsg (encL (encMsg (1 : Nat)) (1 : Nat) (decL decMsg (encL (encMsg (1 : Nat)) (1 : Nat) l))) =
        decL decMsg (encL (encMsg (1 : Nat)) (1 : Nat) (decL decMsg (encL (encMsg (1 : Nat)) (1 : Nat) l))))) =
  true) →
                      (VLe (V.bool false) (V.bool true))) ∧
                    (((!decide
      (decL decMsg (encL (encMsg (1 : Nat)) (1 : Nat) (decL decMsg (encL (encMsg (1 : Nat)) (1 : Nat) l))) =
        decL decMsg (encL (encMsg (1 : Nat)) (1 : Nat) (decL decMsg (encL (encMsg (1 : Nat)) (1 : Nat) l))))) =
  false) →
                      (VLe (V.bool true) (V.bool true))))))))))))))) := by
    obtain ⟨_, hm, _⟩ := hpre
    have f1 := @szMsgSF_bd l 1048576
    have f3 := @szMsgSF_le l 1048576 (by omega)
    obtain ⟨hl, hb⟩ := hm
    simp only [decL_Msg]
    refine ⟨⟨VLe.refl _, by omega, by unfold most; omega, hl, hb⟩, fun h => VLe.refl _, fun h => ?_⟩
    have h0 := of_decide_eq_false h
    obtain ⟨g1, g2⟩ := f1 (by omega)
    have p1 : pr36 l := ⟨by unfold most; omega, fun x hx => ⟨by have := g2 x hx; unfold most; omega, by have := g2 x hx; unfold most; omega⟩⟩
    have p2 : pr38 l l := ⟨hl, fun x hx y => hb x hx⟩
    repeat' (first | exact VLe.refl _ | exact p1 | exact p2 | exact ⟨hl, hb⟩ | exact trivial | apply And.intro | intro _)
    all_goals simp_all
  exact Eq.mp (by kernel_rfl) key
theorem so16 : Sound Try.prog 16 (lawD Q16) := by
  refine sound_of_body hmix (pol := 0) Try.func16 rfl (by kernel_rfl) fun args bin ob r bout hDe hob => ?_
  unfold lawD at hDe
  split at hDe
  · cases hDe
    obtain ⟨f, l, at_, hle, hpre⟩ := hob
    have hlen : args.length = 3 := hle.1.symm
    exact ⟨rfl, rfl, by rw [hlen]; exact Nat.le_of_ble_eq_true (by kernel_rfl), cx16 f l at_, Eq.mp (by kernel_rfl) htt, Eq.mp (by kernel_rfl) da16, Eq.mp (by kernel_rfl) (noM_sound (P := Try.prog)), by kernel_rfl, _, hle, Eq.mp (by kernel_rfl) (bd16 f l at_ hpre)⟩
  · cases hDe

end Go.Av
