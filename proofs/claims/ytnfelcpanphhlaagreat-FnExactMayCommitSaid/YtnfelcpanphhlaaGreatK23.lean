/- The law on what a replica may commit. -/
import Derived.Test.YtnfelcpanphhlaaGreatK21
namespace Go.Av
open Go.Proofs
set_option maxRecDepth 100000
set_option linter.unusedVariables false
set_option linter.unusedSimpArgs false


/-! ### laws.toReplica -/
def pr23 (a : Replica) : Prop := True
noncomputable def rs23 (a : Replica) : V := encReplica 2 (a)
noncomputable def sp23 : FSpec := fun args bin => match args, bin with
  | [a0], [] => some (VLe a0 (encReplica 1 ((decReplica a0))) ∧ pr23 (decReplica a0), rs23 (decReplica a0), [])
  | _, _ => none
noncomputable def D23 : Nat → Option (Bool × FSpec) := lk []
theorem da23 : SoundAll Tryz.prog D23 := soundAll_nil
noncomputable def cx23 (a : Replica) : Cx := ⟨tt, D23, Tryz.f23.ntmps, [0, 1, 2, 3], [], [], fun _ => none, [], noM, []⟩
theorem bd23 (a : Replica) (hpre : pr23 a) : bodyP (cx23 a) Tryz.f23 1 [encReplica 1 (a)] (fun rr => VLe rr (rs23 a)) := by
  have key :
      (VLe (encReplica 1 a) (encReplica 1 a)) := by
    exact vle_agg ⟨VLe.refl _, VLe.refl _, VLe.refl _, VLe.refl _, trivial⟩
  exact Eq.mp (by kernel_rfl) key
theorem so23 : Sound Tryz.prog 23 sp23 := by
  refine sound_of_body hmix (pol := 1) Tryz.func23 rfl (by kernel_rfl) fun args bin ob r bout hDe hob => ?_
  unfold sp23 at hDe
  split at hDe
  · rename_i a0
    cases hDe
    exact ⟨rfl, rfl, Nat.le_of_ble_eq_true (by kernel_rfl), cx23 (decReplica a0), Eq.mp (by kernel_rfl) htt, Eq.mp (by kernel_rfl) da23, Eq.mp (by kernel_rfl) (noM_sound (P := Tryz.prog)), by kernel_rfl, [encReplica 1 ((decReplica a0))], args_of_vles (⟨hob.1, trivial⟩), Eq.mp (by kernel_rfl) (bd23 (decReplica a0) (hob.2))⟩
  · cases hDe

/-! ### laws.FnExactMayCommit -/
def pr5 (f : Int) (l : List Msg) (r : Replica) (slot : Int) (value : Int) : Prop := (Lit.int .i64 f).wf = true ∧ bdL l ∧ True ∧ (Lit.int .i64 slot).wf = true ∧ (Lit.int .i64 value).wf = true
noncomputable def rs5 (f : Int) (l : List Msg) (r : Replica) (slot : Int) (value : Int) : V := .bool (true)
def Q5 (vs : List V) : Prop := ∃ (f : Int) (l : List Msg) (r : Replica) (slot : Int) (value : Int), ArgsLe vs [.int .i64 (f), encL (encMsg 1) 1 (l), encReplica 1 (r), .int .i64 (slot), .int .i64 (value)] ∧ pr5 f l r slot value
noncomputable def D5 : Nat → Option (Bool × FSpec) := lk [(20, (false, sp20)), (22, (false, sp22)), (23, (false, sp23)), (25, (false, sp25)), (26, (false, sp26)), (27, (false, sp27))]
theorem da5 : SoundAll Tryz.prog D5 := soundAll_cons so20 (soundAll_cons so22 (soundAll_cons so23 (soundAll_cons so25 (soundAll_cons so26 (soundAll_cons so27 (soundAll_nil))))))
noncomputable def cx5 (f : Int) (l : List Msg) (r : Replica) (slot : Int) (value : Int) : Cx := ⟨tt, D5, Tryz.f5.ntmps, [0, 1, 2, 3, 4, 7, 10, 11, 12, 13, 14, 19, 39, 44], [], [], fun _ => none, [], noM, []⟩
theorem bd5 (f : Int) (l : List Msg) (r : Replica) (slot : Int) (value : Int) (hpre : pr5 f l r slot value) : bodyP (cx5 f l r slot value) Tryz.f5 0 [.int .i64 (f), encL (encMsg 1) 1 (l), encReplica 1 (r), .int .i64 (slot), .int .i64 (value)] (fun rr => VLe rr (rs5 f l r slot value)) := by
  have key :
      (((VLe (encL (encMsg 1) 1 l)
   (encL (encMsg 1) 1 (decL decMsg (encL (encMsg 1) 1 l)))) ∧
   (pr20 (decL decMsg (encL (encMsg 1) 1 l)) (1048576 : Int))) ∧
   (((decide (szMsgSF (decL decMsg (encL (encMsg 1) 1 l)) (1048576 : Int) < (0 : Int)) = true) →
   (VLe (V.bool true) (V.bool true))) ∧
   ((decide (szMsgSF (decL decMsg (encL (encMsg 1) 1 l)) (1048576 : Int) < (0 : Int)) = false) →
   (((VLe (encL (encMsg 1) 1 l)
   (encL (encMsg 1) 1 (decL decMsg (encL (encMsg 1) 1 l)))) ∧
   (pr22 (decL decMsg (encL (encMsg 1) 1 l)))) ∧
   (((VLe (encReplica 1 r) (encReplica 1 (decReplica (encReplica 1 r)))) ∧
   (pr23 (decReplica (encReplica 1 r)))) ∧
   (((VLe (encL (encMsg 1) 1 (decL decMsg (encL (encMsg 1) 1 l)))
   (encL (encMsg 1) 1
   (decL decMsg (encL (encMsg 1) 1 (decL decMsg (encL (encMsg 1) 1 l)))))) ∧
   ((VLe (encReplica 1 (decReplica (encReplica 1 r)))
   (encReplica 1 (decReplica (encReplica 1 (decReplica (encReplica 1 r)))))) ∧
   (pr26 f (decL decMsg (encL (encMsg 1) 1 (decL decMsg (encL (encMsg 1) 1 l))))
   (decReplica (encReplica 1 (decReplica (encReplica 1 r)))) slot value))) ∧
   (((VLe (encL (encMsg 1) 1 l)
   (encL (encMsg 1) 1 (decL decMsg (encL (encMsg 1) 1 l)))) ∧
   (pr22 (decL decMsg (encL (encMsg 1) 1 l)))) ∧
   (((VLe (encReplica 1 r) (encReplica 1 (decReplica (encReplica 1 r)))) ∧
   (pr23 (decReplica (encReplica 1 r)))) ∧
   (((VLe (encL (encMsg 1) 1 (decL decMsg (encL (encMsg 1) 1 l)))
   (encL (encMsg 1) 1
   (decL decMsg (encL (encMsg 1) 1 (decL decMsg (encL (encMsg 1) 1 l)))))) ∧
   ((VLe (encReplica 1 (decReplica (encReplica 1 r)))
   (encReplica 1 (decReplica (encReplica 1 (decReplica (encReplica 1 r)))))) ∧
   (pr27 f (decL decMsg (encL (encMsg 1) 1 (decL decMsg (encL (encMsg 1) 1 l))))
   (decReplica (encReplica 1 (decReplica (encReplica 1 r)))) slot value))) ∧
   ((((mayCommitF f (decL decMsg (encL (encMsg 1) 1 (decL decMsg (encL (encMsg 1) 1 l))))
   (decReplica (encReplica 1 (decReplica (encReplica 1 r)))) slot value !=
   mayCommitF f (decL decMsg (encL (encMsg 1) 1 (decL decMsg (encL (encMsg 1) 1 l))))
   (decReplica (encReplica 1 (decReplica (encReplica 1 r)))) slot value) =
   true) →
   (VLe (V.bool false) (V.bool true))) ∧
   (((mayCommitF f (decL decMsg (encL (encMsg 1) 1 (decL decMsg (encL (encMsg 1) 1 l))))
   (decReplica (encReplica 1 (decReplica (encReplica 1 r)))) slot value !=
   mayCommitF f (decL decMsg (encL (encMsg 1) 1 (decL decMsg (encL (encMsg 1) 1 l))))
   (decReplica (encReplica 1 (decReplica (encReplica 1 r)))) slot value) =
   false) →
   (((VLe (encL (encMsg 1) 1 l)
   (encL (encMsg 1) 1 (decL decMsg (encL (encMsg 1) 1 l)))) ∧
   (pr22 (decL decMsg (encL (encMsg 1) 1 l)))) ∧
   (((VLe (encL (encMsg 1) 1 (decL decMsg (encL (encMsg 1) 1 l)))
   (encL (encMsg 1) 1
   (decL decMsg (encL (encMsg 1) 1 (decL decMsg (encL (encMsg 1) 1 l)))))) ∧
   ((VLe (encL (encMsg 1) 1 (decL decMsg (encL (encMsg 1) 1 l)))
   (encL (encMsg 1) 1
   (decL decMsg (encL (encMsg 1) 1 (decL decMsg (encL (encMsg 1) 1 l)))))) ∧
   (pr25 (decL decMsg (encL (encMsg 1) 1 (decL decMsg (encL (encMsg 1) 1 l))))
   (decL decMsg (encL (encMsg 1) 1 (decL decMsg (encL (encMsg 1) 1 l))))))) ∧
   ((((!decide
   (decL decMsg (encL (encMsg 1) 1 (decL decMsg (encL (encMsg 1) 1 l))) =
   decL decMsg (encL (encMsg 1) 1 (decL decMsg (encL (encMsg 1) 1 l))))) =
   true) →
   (VLe (V.bool false) (V.bool true))) ∧
   (((!decide
   (decL decMsg (encL (encMsg 1) 1 (decL decMsg (encL (encMsg 1) 1 l))) =
   decL decMsg (encL (encMsg 1) 1 (decL decMsg (encL (encMsg 1) 1 l))))) =
   false) →
   (VLe (V.bool true) (V.bool true))))))))))))))))) := by
    have hm : bdL l := hpre.2.1
    have f1 := @szMsgSF_bd l 1048576
    have f3 := @szMsgSF_le l 1048576 (by omega)
    obtain ⟨hl, hb⟩ := hm
    simp only [decL_Msg, dec_encReplica]
    refine ⟨⟨VLe.refl _, by omega, by unfold most; omega, hl, hb⟩, fun h => VLe.refl _, fun h => ?_⟩
    have h0 := of_decide_eq_false h
    obtain ⟨g1, g2⟩ := f1 (by omega)
    have p1 : pr22 l := ⟨by unfold most; omega, fun x hx => ⟨by have := g2 x hx; unfold most; omega, by have := g2 x hx; unfold most; omega⟩⟩
    have p2 : pr25 l l := ⟨hl, fun x hx y => hb x hx⟩
    repeat' (first | exact VLe.refl _ | exact p1 | exact p2 | exact ⟨hl, hb⟩ | exact trivial | apply And.intro | intro _)
    all_goals simp_all
  exact Eq.mp (by kernel_rfl) key
theorem so5 : Sound Tryz.prog 5 (lawD Q5) := by
  refine sound_of_body hmix (pol := 0) Tryz.func5 rfl (by kernel_rfl) fun args bin ob r bout hDe hob => ?_
  unfold lawD at hDe
  split at hDe
  · cases hDe
    obtain ⟨f, l, r, slot, value, hle, hpre⟩ := hob
    have hlen : args.length = 5 := hle.1.symm
    exact ⟨rfl, rfl, by rw [hlen]; exact Nat.le_of_ble_eq_true (by kernel_rfl), cx5 f l r slot value, Eq.mp (by kernel_rfl) htt, Eq.mp (by kernel_rfl) da5, Eq.mp (by kernel_rfl) (noM_sound (P := Tryz.prog)), by kernel_rfl, _, hle, Eq.mp (by kernel_rfl) (bd5 f l r slot value hpre)⟩
  · cases hDe

end Go.Av
