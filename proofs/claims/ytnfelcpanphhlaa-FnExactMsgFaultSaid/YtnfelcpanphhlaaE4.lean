/- The law on the faults of a message. -/
import Derived.Test.YtnfelcpanphhlaaE2
import Derived.Test.YtnfelcpanphhlaaE3
namespace Go.Av
open Go.Proofs
set_option maxRecDepth 100000
set_option linter.unusedVariables false
set_option linter.unusedSimpArgs false


/-! ### laws.FnExactMsgFault -/
def pr6 (f : Int) (m : Msg) : Prop := (Lit.int .i64 f).wf = true ∧ m.bd
noncomputable def rs6 (f : Int) (m : Msg) : V := .bool (true)
def Q6 (l : List V) : Prop := ∃ (f : Int) (m : Msg), ArgsLe l [.int .i64 (f), encMsg 1 (m)] ∧ pr6 f m
noncomputable def D6 : Nat → Option (Bool × FSpec) := lk [(27, (false, sp27)), (29, (false, sp29)), (31, (false, sp31)), (32, (false, sp32)), (33, (false, sp33))]
theorem da6 : SoundAll Try.prog D6 := soundAll_cons so27 (soundAll_cons so29 (soundAll_cons so31 (soundAll_cons so32 (soundAll_cons so33 (soundAll_nil)))))
noncomputable def cx6 (f : Int) (m : Msg) : Cx := ⟨tt, D6, Try.f6.ntmps, [0, 1, 3, 4, 5, 6, 7, 8, 13, 25, 30], [], [], fun _ => none⟩
theorem bd6 (f : Int) (m : Msg) (hpre : pr6 f m) : bodyP (cx6 f m) Try.f6 0 [.int .i64 (f), encMsg 1 (m)] (fun rr => VLe rr (rs6 f m)) := by
  have key :
      (((VLe (encMsg (1 : Nat) m) (encMsg (1 : Nat) (decMsg (encMsg (1 : Nat) m)))) ∧
        (pr27 (decMsg (encMsg (1 : Nat) m)) (1048576 : Int))) ∧
       (((decide (szMsgF (decMsg (encMsg (1 : Nat) m)) (1048576 : Int) < (0 : Int)) = true) →
          (VLe (V.bool true) (V.bool true))) ∧
        ((decide (szMsgF (decMsg (encMsg (1 : Nat) m)) (1048576 : Int) < (0 : Int)) = false) →
          (((VLe (encMsg (1 : Nat) m) (encMsg (1 : Nat) (decMsg (encMsg (1 : Nat) m)))) ∧
            (pr29 (decMsg (encMsg (1 : Nat) m)))) ∧
           (((VLe (encMsg (1 : Nat) (decMsg (encMsg (1 : Nat) m)))
  (encMsg (1 : Nat) (decMsg (encMsg (1 : Nat) (decMsg (encMsg (1 : Nat) m)))))) ∧
             (pr32 f (decMsg (encMsg (1 : Nat) (decMsg (encMsg (1 : Nat) m)))))) ∧
            (((VLe (encMsg (1 : Nat) m) (encMsg (1 : Nat) (decMsg (encMsg (1 : Nat) m)))) ∧
              (pr29 (decMsg (encMsg (1 : Nat) m)))) ∧
             (((VLe (encMsg (1 : Nat) (decMsg (encMsg (1 : Nat) m)))
  (encMsg (1 : Nat) (decMsg (encMsg (1 : Nat) (decMsg (encMsg (1 : Nat) m)))))) ∧
               (pr33 f (decMsg (encMsg (1 : Nat) (decMsg (encMsg (1 : Nat) m)))))) ∧
              (((((if okF f then msgFault f (decMsg (encMsg (1 : Nat) (decMsg (encMsg (1 : Nat) m)))) else (3 : Int)) !=
    if okF f then msgFault f (decMsg (encMsg (1 : Nat) (decMsg (encMsg (1 : Nat) m)))) else (3 : Int)) =
  true) →
                 (VLe (V.bool false) (V.bool true))) ∧
               ((((if okF f then msgFault f (decMsg (encMsg (1 : Nat) (decMsg (encMsg (1 : Nat) m)))) else (3 : Int)) !=
    if okF f then msgFault f (decMsg (encMsg (1 : Nat) (decMsg (encMsg (1 : Nat) m)))) else (3 : Int)) =
  false) →
                 (((VLe (encMsg (1 : Nat) m) (encMsg (1 : Nat) (decMsg (encMsg (1 : Nat) m)))) ∧
                   (pr29 (decMsg (encMsg (1 : Nat) m)))) ∧
                  (((VLe (encMsg (1 : Nat) (decMsg (encMsg (1 : Nat) m)))
  (encMsg (1 : Nat) (decMsg (encMsg (1 : Nat) (decMsg (encMsg (1 : Nat) m)))))) ∧
                    ((VLe (encMsg (1 : Nat) (decMsg (encMsg (1 : Nat) m)))
  (encMsg (1 : Nat) (decMsg (encMsg (1 : Nat) (decMsg (encMsg (1 : Nat) m)))))) ∧
                     (pr31 (decMsg (encMsg (1 : Nat) (decMsg (encMsg (1 : Nat) m)))) (decMsg (encMsg (1 : Nat) (decMsg (encMsg (1 : Nat) m))))))) ∧
                   ((((!decide
      (decMsg (encMsg (1 : Nat) (decMsg (encMsg (1 : Nat) m))) =
        decMsg (encMsg (1 : Nat) (decMsg (encMsg (1 : Nat) m))))) =
  true) →
                      (VLe (V.bool false) (V.bool true))) ∧
                    (((!decide
      (decMsg (encMsg (1 : Nat) (decMsg (encMsg (1 : Nat) m))) =
        decMsg (encMsg (1 : Nat) (decMsg (encMsg (1 : Nat) m))))) =
  false) →
                      (VLe (V.bool true) (V.bool true))))))))))))))) := by
    obtain ⟨_, hm⟩ := hpre
    have f1 := @szMsgF_bd m 1048576
    have f3 := @szMsgF_le m 1048576 (by omega)
    simp only [dec_encMsg]
    repeat' (first | exact VLe.refl _ | apply And.intro | intro _)
    all_goals simp_all [pr27, pr29, pr31, pr32, pr33, most, Msg.bd]
    all_goals omega
  exact Eq.mp (by kernel_rfl) key
theorem so6 : Sound Try.prog 6 (lawD Q6) := by
  refine sound_of_body hmix (pol := 0) Try.func6 rfl (by kernel_rfl) fun args bin ob r bout hDe hob => ?_
  unfold lawD at hDe
  split at hDe
  · cases hDe
    obtain ⟨f, m, hle, hpre⟩ := hob
    have hlen : args.length = 2 := hle.1.symm
    exact ⟨rfl, rfl, by rw [hlen]; exact Nat.le_of_ble_eq_true (by kernel_rfl), cx6 f m, Eq.mp (by kernel_rfl) htt, Eq.mp (by kernel_rfl) da6, by kernel_rfl, _, hle, Eq.mp (by kernel_rfl) (bd6 f m hpre)⟩
  · cases hDe

end Go.Av
