/- The law on what is wrong with a state. -/
import Derived.Test.YtendmninanhmiaaDoorT3
namespace Go.Av
open Go.Proofs
set_option maxRecDepth 100000
set_option maxHeartbeats 2000000
set_option linter.unusedVariables false
set_option linter.unusedSimpArgs false


/-! ### laws.FnExactStateFault -/
def pr7 (s : TState) : Prop := s.bd
noncomputable def rs7 (s : TState) : V := .bool (true)
def Q7 (vs : List V) : Prop := ∃ (s : TState), ArgsLe vs [encTState 1 (s)] ∧ pr7 s
noncomputable def D7 : Nat → Option (Bool × FSpec) := lk [(35, (false, sp35)), (37, (false, sp37)), (39, (false, sp39)), (36, (false, sp36)), (38, (false, sp38))]
theorem da7 : SoundAll Tryd.prog D7 := soundAll_cons so35 (soundAll_cons so37 (soundAll_cons so39 (soundAll_cons so36 (soundAll_cons so38 (soundAll_nil)))))
noncomputable def cx7 (s : TState) : Cx := ⟨tt, D7, Tryd.f7.ntmps, [0, 1, 2, 3, 4, 5, 6, 11, 21, 26], [], [], fun _ => none, [], noM, []⟩
theorem bd7 (s : TState) (hpre : pr7 s) : bodyP (cx7 s) Tryd.f7 0 [encTState 1 (s)] (fun rr => VLe rr (rs7 s)) := by
  have key :
      (((VLe (encTState 1 s) (encTState 1 (decTState (encTState 1 s)))) ∧
   (pr35 (decTState (encTState 1 s)) (1048576 : Int))) ∧
   (((decide (szState (decTState (encTState 1 s)) (1048576 : Int) < (0 : Int)) = true) →
   (VLe (V.bool true) (V.bool true))) ∧
   ((decide (szState (decTState (encTState 1 s)) (1048576 : Int) < (0 : Int)) = false) →
   (((VLe (encTState 1 s) (encTState 1 (decTState (encTState 1 s)))) ∧
   (pr37 (decTState (encTState 1 s)))) ∧
   (((VLe (encTState 1 (decTState (encTState 1 s)))
   (encTState 1 (decTState (encTState 1 (decTState (encTState 1 s)))))) ∧
   (pr36 (decTState (encTState 1 (decTState (encTState 1 s)))))) ∧
   (((VLe (encTState 1 s) (encTState 1 (decTState (encTState 1 s)))) ∧
   (pr37 (decTState (encTState 1 s)))) ∧
   (((VLe (encTState 1 (decTState (encTState 1 s)))
   (encTState 1 (decTState (encTState 1 (decTState (encTState 1 s)))))) ∧
   (pr38 (decTState (encTState 1 (decTState (encTState 1 s)))))) ∧
   ((((stateF (decTState (encTState 1 (decTState (encTState 1 s)))) !=
   stateF (decTState (encTState 1 (decTState (encTState 1 s))))) =
   true) →
   (VLe (V.bool false) (V.bool true))) ∧
   (((stateF (decTState (encTState 1 (decTState (encTState 1 s)))) !=
   stateF (decTState (encTState 1 (decTState (encTState 1 s))))) =
   false) →
   (((VLe (encTState 1 s) (encTState 1 (decTState (encTState 1 s)))) ∧
   (pr37 (decTState (encTState 1 s)))) ∧
   (((VLe (encTState 1 (decTState (encTState 1 s)))
   (encTState 1 (decTState (encTState 1 (decTState (encTState 1 s)))))) ∧
   ((VLe (encTState 1 (decTState (encTState 1 s)))
   (encTState 1 (decTState (encTState 1 (decTState (encTState 1 s)))))) ∧
   (pr39 (decTState (encTState 1 (decTState (encTState 1 s))))
   (decTState (encTState 1 (decTState (encTState 1 s))))))) ∧
   ((((!decide
   (decTState (encTState 1 (decTState (encTState 1 s))) =
   decTState (encTState 1 (decTState (encTState 1 s))))) =
   true) →
   (VLe (V.bool false) (V.bool true))) ∧
   (((!decide
   (decTState (encTState 1 (decTState (encTState 1 s))) =
   decTState (encTState 1 (decTState (encTState 1 s))))) =
   false) →
   (VLe (V.bool true) (V.bool true))))))))))))))) := by
    have hb := hpre
    have f1 := @szState_bd s 1048576
    simp only [dec_encTState]
    refine ⟨⟨VLe.refl _, by omega, by unfold most; omega, hb⟩, fun h => VLe.refl _, fun h => ?_⟩
    obtain ⟨g1, g2, g3⟩ := f1 (by omega) (of_decide_eq_false h)
    have p1 : pr37 s := ⟨by unfold most; omega, by unfold most; omega, by unfold most; omega⟩
    have p2 : pr39 s s := hb
    clear f1 h
    repeat' (first | exact VLe.refl _ | exact p1 | exact p2 | exact hb | exact trivial | apply And.intro | intro _)
    all_goals simp_all
  exact Eq.mp (by kernel_rfl) key
theorem so7 : Sound Tryd.prog 7 (lawD Q7) := by
  refine sound_of_body hmix (pol := 0) Tryd.func7 rfl (by kernel_rfl) fun args bin ob r bout hDe hob => ?_
  unfold lawD at hDe
  split at hDe
  · cases hDe
    obtain ⟨s, hle, hpre⟩ := hob
    have hlen : args.length = 1 := hle.1.symm
    exact ⟨rfl, rfl, by rw [hlen]; exact Nat.le_of_ble_eq_true (by kernel_rfl), cx7 s, Eq.mp (by kernel_rfl) htt, Eq.mp (by kernel_rfl) da7, Eq.mp (by kernel_rfl) (noM_sound (P := Tryd.prog)), by kernel_rfl, _, hle, Eq.mp (by kernel_rfl) (bd7 s hpre)⟩
  · cases hDe

end Go.Av
