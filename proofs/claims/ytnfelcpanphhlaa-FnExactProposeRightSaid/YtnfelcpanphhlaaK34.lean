/- The law on proposals. -/
import Derived.Test.YtnfelcpanphhlaaK33
namespace Go.Av
open Go.Proofs
set_option maxRecDepth 100000
set_option linter.unusedVariables false
set_option linter.unusedSimpArgs false


/-! ### laws.FnExactProposeRight -/
def pr21 (f : Int) (l : List Msg) (place : Int) (start : Int) : Prop := (Lit.int .i64 f).wf = true ∧ bdL l ∧ (Lit.int .i64 place).wf = true ∧ (Lit.int .i64 start).wf = true
noncomputable def rs21 (f : Int) (l : List Msg) (place : Int) (start : Int) : V := .bool (true)
def Q21 (vs : List V) : Prop := ∃ (f : Int) (l : List Msg) (place : Int) (start : Int), ArgsLe vs [.int .i64 (f), encL (encMsg 1) 1 (l), .int .i64 (place), .int .i64 (start)] ∧ pr21 f l place start
noncomputable def D21 : Nat → Option (Bool × FSpec) := lk [(34, (false, sp34)), (36, (false, sp36)), (38, (false, sp38)), (77, (false, sp77)), (78, (false, sp78))]
theorem da21 : SoundAll Try.prog D21 := soundAll_cons so34 (soundAll_cons so36 (soundAll_cons so38 (soundAll_cons so77 (soundAll_cons so78 (soundAll_nil)))))
noncomputable def cx21 (f : Int) (l : List Msg) (place : Int) (start : Int) : Cx := ⟨tt, D21, Try.f21.ntmps, [0, 1, 2, 3, 8, 9, 10, 11, 12, 17, 33, 38], [], [], fun _ => none, [], noM, []⟩
theorem bd21 (f : Int) (l : List Msg) (place : Int) (start : Int) (hpre : pr21 f l place start) : bodyP (cx21 f l place start) Try.f21 0 [.int .i64 (f), encL (encMsg 1) 1 (l), .int .i64 (place), .int .i64 (start)] (fun rr => VLe rr (rs21 f l place start)) := by
  have key :
      (((VLe (encL (encMsg 1) 1 l)
   (encL (encMsg 1) 1 (decL decMsg (encL (encMsg 1) 1 l)))) ∧
   (pr34 (decL decMsg (encL (encMsg 1) 1 l)) (1048576 : Int))) ∧
   (((decide (szMsgSF (decL decMsg (encL (encMsg 1) 1 l)) (1048576 : Int) < (0 : Int)) = true) →
   (VLe (V.bool true) (V.bool true))) ∧
   ((decide (szMsgSF (decL decMsg (encL (encMsg 1) 1 l)) (1048576 : Int) < (0 : Int)) = false) →
   (((VLe (encL (encMsg 1) 1 l)
   (encL (encMsg 1) 1 (decL decMsg (encL (encMsg 1) 1 l)))) ∧
   (pr36 (decL decMsg (encL (encMsg 1) 1 l)))) ∧
   (((VLe (encL (encMsg 1) 1 (decL decMsg (encL (encMsg 1) 1 l)))
   (encL (encMsg 1) 1
   (decL decMsg (encL (encMsg 1) 1 (decL decMsg (encL (encMsg 1) 1 l)))))) ∧
   (pr77 f (decL decMsg (encL (encMsg 1) 1 (decL decMsg (encL (encMsg 1) 1 l)))) place start)) ∧
   (((VLe (encL (encMsg 1) 1 l)
   (encL (encMsg 1) 1 (decL decMsg (encL (encMsg 1) 1 l)))) ∧
   (pr36 (decL decMsg (encL (encMsg 1) 1 l)))) ∧
   (((VLe (encL (encMsg 1) 1 (decL decMsg (encL (encMsg 1) 1 l)))
   (encL (encMsg 1) 1
   (decL decMsg (encL (encMsg 1) 1 (decL decMsg (encL (encMsg 1) 1 l)))))) ∧
   (pr78 f (decL decMsg (encL (encMsg 1) 1 (decL decMsg (encL (encMsg 1) 1 l)))) place start)) ∧
   ((((!decide
   (ledgerFault f
   (decL decMsg (encL (encMsg 1) 1 (decL decMsg (encL (encMsg 1) 1 l)))) =
   (0 : Int) ∧
   propOk f (decL decMsg (encL (encMsg 1) 1 (decL decMsg (encL (encMsg 1) 1 l))))
   place start) ==
   decide
   (ledgerFault f
   (decL decMsg (encL (encMsg 1) 1 (decL decMsg (encL (encMsg 1) 1 l)))) =
   (0 : Int) ∧
   propOk f (decL decMsg (encL (encMsg 1) 1 (decL decMsg (encL (encMsg 1) 1 l))))
   place start)) =
   true) →
   (VLe (V.bool false) (V.bool true))) ∧
   (((!decide
   (ledgerFault f
   (decL decMsg (encL (encMsg 1) 1 (decL decMsg (encL (encMsg 1) 1 l)))) =
   (0 : Int) ∧
   propOk f (decL decMsg (encL (encMsg 1) 1 (decL decMsg (encL (encMsg 1) 1 l))))
   place start) ==
   decide
   (ledgerFault f
   (decL decMsg (encL (encMsg 1) 1 (decL decMsg (encL (encMsg 1) 1 l)))) =
   (0 : Int) ∧
   propOk f (decL decMsg (encL (encMsg 1) 1 (decL decMsg (encL (encMsg 1) 1 l))))
   place start)) =
   false) →
   (((VLe (encL (encMsg 1) 1 l)
   (encL (encMsg 1) 1 (decL decMsg (encL (encMsg 1) 1 l)))) ∧
   (pr36 (decL decMsg (encL (encMsg 1) 1 l)))) ∧
   (((VLe (encL (encMsg 1) 1 (decL decMsg (encL (encMsg 1) 1 l)))
   (encL (encMsg 1) 1
   (decL decMsg (encL (encMsg 1) 1 (decL decMsg (encL (encMsg 1) 1 l)))))) ∧
   ((VLe (encL (encMsg 1) 1 (decL decMsg (encL (encMsg 1) 1 l)))
   (encL (encMsg 1) 1
   (decL decMsg (encL (encMsg 1) 1 (decL decMsg (encL (encMsg 1) 1 l)))))) ∧
   (pr38 (decL decMsg (encL (encMsg 1) 1 (decL decMsg (encL (encMsg 1) 1 l))))
   (decL decMsg (encL (encMsg 1) 1 (decL decMsg (encL (encMsg 1) 1 l))))))) ∧
   ((((!decide
   (decL decMsg (encL (encMsg 1) 1 (decL decMsg (encL (encMsg 1) 1 l))) =
   decL decMsg (encL (encMsg 1) 1 (decL decMsg (encL (encMsg 1) 1 l))))) =
   true) →
   (VLe (V.bool false) (V.bool true))) ∧
   (((!decide
   (decL decMsg (encL (encMsg 1) 1 (decL decMsg (encL (encMsg 1) 1 l))) =
   decL decMsg (encL (encMsg 1) 1 (decL decMsg (encL (encMsg 1) 1 l))))) =
   false) →
   (VLe (V.bool true) (V.bool true))))))))))))))) := by
    have hm : bdL l := hpre.2.1
    have f1 := @szMsgSF_bd l 1048576
    have f3 := @szMsgSF_le l 1048576 (by omega)
    obtain ⟨hl, hb⟩ := hm
    simp only [decL_Msg]
    refine ⟨⟨VLe.refl _, by omega, by unfold most; omega, hl, hb⟩, fun h => VLe.refl _, fun h => ?_⟩
    have h0 := of_decide_eq_false h
    obtain ⟨g1, g2⟩ := f1 (by omega)
    have p1 : pr36 l := ⟨by unfold most; omega, fun x hx => ⟨by have := g2 x hx; unfold most; omega, by have := g2 x hx; unfold most; omega⟩⟩
    have p2 : pr38 l l := ⟨hl, fun x hx y => hb x hx⟩
    repeat' (first | exact VLe.refl _ | exact p1 | exact p2 | exact ⟨hl, hb⟩ | exact trivial | apply And.intro | intro _)
    all_goals simp_all
  exact Eq.mp (by kernel_rfl) key
theorem so21 : Sound Try.prog 21 (lawD Q21) := by
  refine sound_of_body hmix (pol := 0) Try.func21 rfl (by kernel_rfl) fun args bin ob r bout hDe hob => ?_
  unfold lawD at hDe
  split at hDe
  · cases hDe
    obtain ⟨f, l, place, start, hle, hpre⟩ := hob
    have hlen : args.length = 4 := hle.1.symm
    exact ⟨rfl, rfl, by rw [hlen]; exact Nat.le_of_ble_eq_true (by kernel_rfl), cx21 f l place start, Eq.mp (by kernel_rfl) htt, Eq.mp (by kernel_rfl) da21, Eq.mp (by kernel_rfl) (noM_sound (P := Try.prog)), by kernel_rfl, _, hle, Eq.mp (by kernel_rfl) (bd21 f l place start hpre)⟩
  · cases hDe

end Go.Av
