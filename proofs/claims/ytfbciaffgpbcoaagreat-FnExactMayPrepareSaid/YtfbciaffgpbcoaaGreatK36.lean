/- The law on what a replica may prepare. -/
import Derived.Test.YtfbciaffgpbcoaaGreatK35
namespace Go.Av
open Go.Proofs
set_option maxRecDepth 100000
set_option linter.unusedVariables false
set_option linter.unusedSimpArgs false


/-! ### laws.toReplica -/
def pr7 (a : Replica) : Prop := True
noncomputable def rs7 (a : Replica) : V := encReplica 2 (a)
noncomputable def sp7 : FSpec := fun args bin => match args, bin with
  | [a0], [] => some (VLe a0 (encReplica 1 ((decReplica a0))) ∧ pr7 (decReplica a0), rs7 (decReplica a0), [])
  | _, _ => none
noncomputable def D7 : Nat → Option (Bool × FSpec) := lk []
theorem da7 : SoundAll Tryz.prog D7 := soundAll_nil
noncomputable def cx7 (a : Replica) : Cx := ⟨tt, D7, Tryz.f7.ntmps, [0, 1, 2, 3], [], [], fun _ => none, [], noM, []⟩
theorem bd7 (a : Replica) (hpre : pr7 a) : bodyP (cx7 a) Tryz.f7 1 [encReplica 1 (a)] (fun rr => VLe rr (rs7 a)) := by
  have key :
      (VLe (encReplica 1 a) (encReplica 1 a)) := by
    exact vle_agg ⟨VLe.refl _, VLe.refl _, VLe.refl _, VLe.refl _, trivial⟩
  exact Eq.mp (by kernel_rfl) key
theorem so7 : Sound Tryz.prog 7 sp7 := by
  refine sound_of_body hmix (pol := 1) Tryz.func7 rfl (by kernel_rfl) fun args bin ob r bout hDe hob => ?_
  unfold sp7 at hDe
  split at hDe
  · rename_i a0
    cases hDe
    exact ⟨rfl, rfl, Nat.le_of_ble_eq_true (by kernel_rfl), cx7 (decReplica a0), Eq.mp (by kernel_rfl) htt, Eq.mp (by kernel_rfl) da7, Eq.mp (by kernel_rfl) (noM_sound (P := Tryz.prog)), by kernel_rfl, [encReplica 1 ((decReplica a0))], args_of_vles (⟨hob.1, trivial⟩), Eq.mp (by kernel_rfl) (bd7 (decReplica a0) (hob.2))⟩
  · cases hDe

/-! ### laws.FnExactMayPrepare -/
def pr3 (f : Int) (l : List Msg) (r : Replica) (place : Int) : Prop := (Lit.int .i64 f).wf = true ∧ bdL l ∧ True ∧ (Lit.int .i64 place).wf = true
noncomputable def rs3 (f : Int) (l : List Msg) (r : Replica) (place : Int) : V := .bool (true)
def Q3 (vs : List V) : Prop := ∃ (f : Int) (l : List Msg) (r : Replica) (place : Int), ArgsLe vs [.int .i64 (f), encL (encMsg 1) 1 (l), encReplica 1 (r), .int .i64 (place)] ∧ pr3 f l r place
noncomputable def D3 : Nat → Option (Bool × FSpec) := lk [(4, (false, sp4)), (6, (false, sp6)), (7, (false, sp7)), (9, (false, sp9)), (5, (false, sp5)), (8, (false, sp8))]
theorem da3 : SoundAll Tryz.prog D3 := soundAll_cons so4 (soundAll_cons so6 (soundAll_cons so7 (soundAll_cons so9 (soundAll_cons so5 (soundAll_cons so8 (soundAll_nil))))))
noncomputable def cx3 (f : Int) (l : List Msg) (r : Replica) (place : Int) : Cx := ⟨tt, D3, Tryz.f3.ntmps, [0, 1, 2, 3, 6, 8, 9, 10, 11, 12, 17, 35, 40], [], [], fun _ => none, [], noM, []⟩
theorem bd3 (f : Int) (l : List Msg) (r : Replica) (place : Int) (hpre : pr3 f l r place) : bodyP (cx3 f l r place) Tryz.f3 0 [.int .i64 (f), encL (encMsg 1) 1 (l), encReplica 1 (r), .int .i64 (place)] (fun rr => VLe rr (rs3 f l r place)) := by
  have key :
      (((VLe (encL (encMsg 1) 1 l)
   (encL (encMsg 1) 1 (decL decMsg (encL (encMsg 1) 1 l)))) ∧
   (pr4 (decL decMsg (encL (encMsg 1) 1 l)) (1048576 : Int))) ∧
   (((decide (szMsgSF (decL decMsg (encL (encMsg 1) 1 l)) (1048576 : Int) < (0 : Int)) = true) →
   (VLe (V.bool true) (V.bool true))) ∧
   ((decide (szMsgSF (decL decMsg (encL (encMsg 1) 1 l)) (1048576 : Int) < (0 : Int)) = false) →
   (((VLe (encL (encMsg 1) 1 l)
   (encL (encMsg 1) 1 (decL decMsg (encL (encMsg 1) 1 l)))) ∧
   (pr6 (decL decMsg (encL (encMsg 1) 1 l)))) ∧
   (((VLe (encReplica 1 r) (encReplica 1 (decReplica (encReplica 1 r)))) ∧
   (pr7 (decReplica (encReplica 1 r)))) ∧
   (((VLe (encL (encMsg 1) 1 (decL decMsg (encL (encMsg 1) 1 l)))
   (encL (encMsg 1) 1
   (decL decMsg (encL (encMsg 1) 1 (decL decMsg (encL (encMsg 1) 1 l)))))) ∧
   ((VLe (encReplica 1 (decReplica (encReplica 1 r)))
   (encReplica 1 (decReplica (encReplica 1 (decReplica (encReplica 1 r)))))) ∧
   (pr5 f (decL decMsg (encL (encMsg 1) 1 (decL decMsg (encL (encMsg 1) 1 l))))
   (decReplica (encReplica 1 (decReplica (encReplica 1 r)))) place))) ∧
   (((VLe (encL (encMsg 1) 1 l)
   (encL (encMsg 1) 1 (decL decMsg (encL (encMsg 1) 1 l)))) ∧
   (pr6 (decL decMsg (encL (encMsg 1) 1 l)))) ∧
   (((VLe (encReplica 1 r) (encReplica 1 (decReplica (encReplica 1 r)))) ∧
   (pr7 (decReplica (encReplica 1 r)))) ∧
   (((VLe (encL (encMsg 1) 1 (decL decMsg (encL (encMsg 1) 1 l)))
   (encL (encMsg 1) 1
   (decL decMsg (encL (encMsg 1) 1 (decL decMsg (encL (encMsg 1) 1 l)))))) ∧
   ((VLe (encReplica 1 (decReplica (encReplica 1 r)))
   (encReplica 1 (decReplica (encReplica 1 (decReplica (encReplica 1 r)))))) ∧
   (pr8 f (decL decMsg (encL (encMsg 1) 1 (decL decMsg (encL (encMsg 1) 1 l))))
   (decReplica (encReplica 1 (decReplica (encReplica 1 r)))) place))) ∧
   ((((mayPrepareF f (decL decMsg (encL (encMsg 1) 1 (decL decMsg (encL (encMsg 1) 1 l))))
   (decReplica (encReplica 1 (decReplica (encReplica 1 r)))) place !=
   mayPrepareF f (decL decMsg (encL (encMsg 1) 1 (decL decMsg (encL (encMsg 1) 1 l))))
   (decReplica (encReplica 1 (decReplica (encReplica 1 r)))) place) =
   true) →
   (VLe (V.bool false) (V.bool true))) ∧
   (((mayPrepareF f (decL decMsg (encL (encMsg 1) 1 (decL decMsg (encL (encMsg 1) 1 l))))
   (decReplica (encReplica 1 (decReplica (encReplica 1 r)))) place !=
   mayPrepareF f (decL decMsg (encL (encMsg 1) 1 (decL decMsg (encL (encMsg 1) 1 l))))
   (decReplica (encReplica 1 (decReplica (encReplica 1 r)))) place) =
   false) →
   (((VLe (encL (encMsg 1) 1 l)
   (encL (encMsg 1) 1 (decL decMsg (encL (encMsg 1) 1 l)))) ∧
   (pr6 (decL decMsg (encL (encMsg 1) 1 l)))) ∧
   (((VLe (encL (encMsg 1) 1 (decL decMsg (encL (encMsg 1) 1 l)))
   (encL (encMsg 1) 1
   (decL decMsg (encL (encMsg 1) 1 (decL decMsg (encL (encMsg 1) 1 l)))))) ∧
   ((VLe (encL (encMsg 1) 1 (decL decMsg (encL (encMsg 1) 1 l)))
   (encL (encMsg 1) 1
   (decL decMsg (encL (encMsg 1) 1 (decL decMsg (encL (encMsg 1) 1 l)))))) ∧
   (pr9 (decL decMsg (encL (encMsg 1) 1 (decL decMsg (encL (encMsg 1) 1 l))))
   (decL decMsg (encL (encMsg 1) 1 (decL decMsg (encL (encMsg 1) 1 l))))))) ∧
   ((((!decide
   (decL decMsg (encL (encMsg 1) 1 (decL decMsg (encL (encMsg 1) 1 l))) =
   decL decMsg (encL (encMsg 1) 1 (decL decMsg (encL (encMsg 1) 1 l))))) =
   true) →
   (VLe (V.bool false) (V.bool true))) ∧
   (((!decide
   (decL decMsg (encL (encMsg 1) 1 (decL decMsg (encL (encMsg 1) 1 l))) =
   decL decMsg (encL (encMsg 1) 1 (decL decMsg (encL (encMsg 1) 1 l))))) =
   false) →
   (VLe (V.bool true) (V.bool true))))))))))))))))) := by
    have hm : bdL l := hpre.2.1
    have f1 := @szMsgSF_bd l 1048576
    have f3 := @szMsgSF_le l 1048576 (by omega)
    obtain ⟨hl, hb⟩ := hm
    simp only [decL_Msg, dec_encReplica]
    refine ⟨⟨VLe.refl _, by omega, by unfold most; omega, hl, hb⟩, fun h => VLe.refl _, fun h => ?_⟩
    have h0 := of_decide_eq_false h
    obtain ⟨g1, g2⟩ := f1 (by omega)
    have p1 : pr6 l := ⟨by unfold most; omega, fun x hx => ⟨by have := g2 x hx; unfold most; omega, by have := g2 x hx; unfold most; omega⟩⟩
    have p2 : pr9 l l := ⟨hl, fun x hx y => hb x hx⟩
    repeat' (first | exact VLe.refl _ | exact p1 | exact p2 | exact ⟨hl, hb⟩ | exact trivial | apply And.intro | intro _)
    all_goals simp_all
  exact Eq.mp (by kernel_rfl) key
theorem so3 : Sound Tryz.prog 3 (lawD Q3) := by
  refine sound_of_body hmix (pol := 0) Tryz.func3 rfl (by kernel_rfl) fun args bin ob r bout hDe hob => ?_
  unfold lawD at hDe
  split at hDe
  · cases hDe
    obtain ⟨f, l, r, place, hle, hpre⟩ := hob
    have hlen : args.length = 4 := hle.1.symm
    exact ⟨rfl, rfl, by rw [hlen]; exact Nat.le_of_ble_eq_true (by kernel_rfl), cx3 f l r place, Eq.mp (by kernel_rfl) htt, Eq.mp (by kernel_rfl) da3, Eq.mp (by kernel_rfl) (noM_sound (P := Tryz.prog)), by kernel_rfl, _, hle, Eq.mp (by kernel_rfl) (bd3 f l r place hpre)⟩
  · cases hDe

end Go.Av
