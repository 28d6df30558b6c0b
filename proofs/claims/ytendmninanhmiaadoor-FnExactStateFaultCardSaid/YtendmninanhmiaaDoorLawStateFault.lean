/- The program's StateFault: the law FnExactStateFault holds at all arguments. Conditions: none. -/
import Derived.Test.YtendmninanhmiaaDoorRows
import Derived.Test.YtendmninanhmiaaDoorCards
import Derived.Test.YtendmninanhmiaaDoorTie
import Derived.Test.YtendmninanhmiaaDoorT4
import Derived.Test.YtendmninanhmiaaDoorX0
import Derived.Test.YtendmninanhmiaaDoorC3
import Derived.WalkKit
import Derived.ProofKit
import Derived.OpenShut
import Derived.ChangeOld
import Derived.Below
import Derived.Carry
import Derived.SizedLaws
import Derived.LaidMore
import Derived.Lay
import Derived.SevenTiedAt
import Derived.Stop.Joined
namespace Go.Proofs.YtendmninanhmiaaDoor.fnExactStateFault
open Go.ChangeShapes Go.WideShapes Go.ChangeAt Go.RowKit Go.Av
set_option linter.unusedVariables false
theorem own : ownKnob Tryd.prog.godebug = none := by kernel_rfl
theorem laid : laidOutB Tryd.prog = true := by kernel_rfl
set_option maxRecDepth 100000 in
theorem lifted (os : Os) (started : os.Started) (H : Type) (enc : TypeId × Value → H) :
    ReturnsInHanded {} Tryd.checked os 7 .any (fun w args => (Rows.fnExactStateFaultSpec.pre enc Tryd.prog Tryd.f7 Rows.fnExactStateFaultRow.domain false w args ∧ laidMetH Tryd.prog Rows.fnExactStateFaultRow.laid w) ∧ sizedMet enc Tryd.prog Tryd.f7 (OpenSpec.ofChange Rows.fnExactStateFaultSpec) false w args)
      (Rows.fnExactStateFaultSpec.post enc Tryd.prog Tryd.f7 false true false false) := by
  refine returnsInHanded_of_change_and (C := Tryd.checked) (X := fun w _ => laidMetH Tryd.prog Rows.fnExactStateFaultRow.laid w) (fun _ _ _ hh h => h.of_heap hh) own started (by kernel_rfl) Tryd.func7
    (ChangeSpec.witness_shaped (enc := enc) (C := Tryd.checked) (os := os) (X := fun w _ => laidMetH Tryd.prog Rows.fnExactStateFaultRow.laid w) false (World.laidAll Tryd.prog os Rows.fnExactStateFaultRow.laid) #[.agg #[.slice none 0 0, .slice none 0 0, .int .i64 0, .slice none 0 0]] 8 (World.laidAll_os _ _ _)
      (World.shaped_of_ZipB (by kernel_rfl) (by kernel_rfl)) (by kernel_rfl) (by kernel_rfl) (by kernel_rfl)
      (by rw [MakeChecks.laidMetH_plain _ _ _ (by kernel_rfl)]; exact laidMet_laidAll _ (by kernel_rfl) (by kernel_rfl))) ?_
  intro W base args ds gs before hval0 hW hcnd _ hL hsz0
  have hval : ∀ (j : Nat) t v, Tryd.f7.params[j]? = some t → args[j]? = some v → Value.okWide Tryd.prog W .any base t v := hval0
  have hW' := hW
  obtain ⟨p, q, hA0, hV, rfl, hfz, hnd⟩ := hW
  have hA : DataW.TrodAll enc Tryd.prog W 0 (fun _ => true) true Tryd.f7.params.toList args.toList ds p := hA0
  rw [Tryd.params7] at hA hval
  obtain ⟨v0, vs0, d0, ds0, p0, q0, hargs, rfl, rfl, h0, r0⟩ := trodAll_cons hA
  obtain ⟨rfl, rfl, rfl⟩ := trodAll_nil r0
  obtain rfl : args = #[v0] := by cases args; simp_all
  obtain ⟨rfl, rfl⟩ := trodVars_none hV
  have w0 := hval 0 65 v0 rfl rfl
  obtain ⟨x0, b0, l0⟩ := ta_TState.arg (by kernel_rfl) h0
  have hlt0 : ∀ x ∈ p0, x.block < W.heap.size := fun x hx => by simpa using hW'.lt x (by simp [hx])
  clear hA0 hval0 hsz0
  have hc := calls_of_sound so7 (by kernel_rfl) (args := [argD Tryd.prog 9 65 d0]) (b := true) rfl ⟨x0, args_of_vles ⟨l0, trivial⟩, b0⟩ (vals := #[v0]) (W := W) rfl (fun j hj => by
    match j, hj with
    | 0, _ => exact law_arg (by kernel_rfl) w0 h0
    | j + 1, hj => exact absurd hj (by simp))
  refine hc.mono fun e W' ⟨he, bel⟩ => ?_
  subst he
  exact ⟨_, rfl, _, _, _, [], _, [], hW', trodAll_mk1 (shut_bool Tryd.underlying4 _), (trodAll_cons_mk (Below.trod laid (by kernel_rfl) (of_decide_eq_true (by kernel_rfl)) h0 bel hlt0) (trodAll_mk0)), rfl, bel.frame _, fun h => by cases h⟩
set_option maxRecDepth 100000
theorem k1 : Rows.fnExactStateFaultRow.wf (OpenSpec.ofChange Rows.fnExactStateFaultSpec) = true := by kernel_rfl
theorem k4 : Tryd.f7.params.all (Tryd.pinned.checked.prog.readableRec ·) = true := by kernel_rfl
theorem k5 : namedTie Tryd.pinned.checked.prog Rows.fnExactStateFaultRow.named Rows.fnExactStateFaultSpec.vars = true := by kernel_rfl
theorem k6 : (Rows.fnExactStateFaultRow.stops == []) = true := by kernel_rfl
theorem k8 : (Rows.fnExactStateFaultRow.knobs == []) = true := by kernel_rfl
theorem k10 : (Rows.fnExactStateFaultRow.inPlace == Tryd.pinned.checked.prog.inPlace 7) = true := by kernel_rfl
theorem k11 : (Rows.fnExactStateFaultRow.unfollowed == Tryd.pinned.checked.prog.unfollowed 7) = true := by kernel_rfl
theorem k12 : (Rows.fnExactStateFaultRow.recurses == Tryd.pinned.checked.prog.recurses 7) = true := by kernel_rfl
theorem k13 : (Rows.fnExactStateFaultRow.named == Tryd.pinned.checked.prog.varsNamed 7) = true := by kernel_rfl
theorem k14 : (Rows.fnExactStateFaultRow.maps == (Tryd.f7.params.toList ++ Rows.fnExactStateFaultSpec.plain.varTypes Tryd.pinned.checked.prog).any (Tryd.pinned.checked.prog.mapsRec ·)) = true := by kernel_rfl
theorem k15 : (Rows.fnExactStateFaultRow.ifaces == (Tryd.f7.params.toList ++ Rows.fnExactStateFaultSpec.plain.varTypes Tryd.pinned.checked.prog).any (Tryd.pinned.checked.prog.ifacesRec ·)) = true := by kernel_rfl
theorem k16 : (Rows.fnExactStateFaultRow.mapsOut == Tryd.pinned.checked.prog.mapsAmong Tryd.f7.resultTypes.toList) = true := by kernel_rfl
theorem k17 : (Rows.fnExactStateFaultRow.loops == (Tryd.f7.params.toList ++ Rows.fnExactStateFaultSpec.plain.varTypes Tryd.pinned.checked.prog).any (Tryd.pinned.checked.prog.loopsFrom ·)) = true := by kernel_rfl
theorem k17b : (Rows.fnExactStateFaultRow.wideKeys == (Tryd.f7.params.toList ++ Rows.fnExactStateFaultSpec.plain.varTypes Tryd.pinned.checked.prog ++ Tryd.f7.resultTypes.toList).any (Tryd.pinned.checked.prog.wideKeysFrom ·)) = true := by kernel_rfl
theorem k18 : Rows.fnExactStateFaultSpec.vars.all (Tryd.pinned.checked.prog.varReadable ·) = true := by kernel_rfl
theorem k19 : Tryd.f7.resultTypes.all (fun t => Tryd.pinned.checked.prog.readableRec t && decide (t < Tryd.pinned.checked.prog.types.size)) = true := by kernel_rfl
theorem k20 : (Rows.fnExactStateFaultRow.ifacesOut == Tryd.f7.resultTypes.toList.any (Tryd.pinned.checked.prog.ifacesRec ·)) = true := by kernel_rfl
theorem k21 : (Rows.fnExactStateFaultRow.loopsOut == Tryd.f7.resultTypes.toList.any (Tryd.pinned.checked.prog.loopsFrom ·)) = true := by kernel_rfl
theorem k22 : (Rows.fnExactStateFaultRow.plainKeys == Tryd.pinned.checked.prog.plainKeys) = true := by kernel_rfl
theorem k23 : Rows.fnExactStateFaultRow.shortTexts.isNone = true := by kernel_rfl
theorem k25 : (Rows.fnExactStateFaultRow.kinds == (if Rows.fnExactStateFaultRow.domain.isEmpty then [] else Tryd.f7.params.toList.map fun t => match Tryd.pinned.checked.prog.underlying t with | some (.int k) => some k | _ => none)) = true := by kernel_rfl
theorem k26 : (Rows.fnExactStateFaultRow.pinned == Rows.fnExactStateFaultRow.pinnedBy) = true := by kernel_rfl
theorem k27 : (Rows.fnExactStateFaultRow.veiled == (Tryd.f7.params.toList ++ Rows.fnExactStateFaultSpec.plain.varTypes Tryd.pinned.checked.prog ++ Tryd.f7.resultTypes.toList).any (Tryd.pinned.checked.prog.veiledRec ·)) = true := by kernel_rfl
theorem k28 : Rows.fnExactStateFaultRow.veiledFits Tryd.pinned.checked.prog Tryd.f7.params.toList (Tryd.f7.params.toList ++ Rows.fnExactStateFaultSpec.plain.varTypes Tryd.pinned.checked.prog ++ Tryd.f7.resultTypes.toList) = true := by kernel_rfl
theorem closed : joinedFacts Tryd.pinned.checked.prog 7 Tryd.f7 Rows.fnExactStateFaultSpec Rows.fnExactStateFaultRow = true := by
  unfold joinedFacts
  exact (jf.andI (jf.andI (jf.andI (jf.andI (jf.andI (jf.andI (jf.andI (jf.andI (jf.andI (jf.andI (jf.andI (jf.andI (jf.andI (jf.andI (jf.andI (jf.andI (jf.andI (jf.andI (jf.andI (jf.andI (jf.andI (jf.andI (jf.andI (jf.andI (jf.andI (jf.andI (jf.andI (jf.andI (jf.andI (jf.andI (jf.andI k1 jf.p1) jf.p2) k4) k5) k6) jf.p3) k8) jf.p4) k10) k11) k12) k13) k14) k15) k16) k17) k17b) k18) k19) k20) k21) k22) k23) jf.p6) jf.p7) (jf.beq_false jf.p8 rfl)) (jf.beq_make jf.p9 rfl)) k25) k26) k27) k28)
theorem over : Rows.fnExactStateFaultRow.holds Tryd.pinned (OpenSpec.ofChange Rows.fnExactStateFaultSpec) :=
  OpenClaim.holds_of_wide 7 Tryd.f7 rfl rfl rfl rfl rfl rfl rfl ⟨rfl, rfl, rfl, rfl, rfl⟩ rfl rfl rfl rfl rfl (by kernel_rfl) Tryd.func7 closed
    (of_decide_eq_true (by kernel_rfl)) (by unfold Func.isWrapper; first | (rw [if_pos (by decide +kernel)]; kernel_rfl) | (rw [if_neg (by decide +kernel)]; exact ⟨rfl, rfl⟩))
    (fun os started H enc _ => lifted os started H enc)
theorem proved : Rows.FnExactStateFaultCardSaid :=
  Claim7.holds_tied_plain_at .later [] [.data, .pinned] true (true, "271e7ddb052e1142225d23759bd0b4ebefa6fe864ad0b525e2c931588a5f5450") false over (fun _ h => by cases h) (by kernel_rfl) (fun _ h => by cases h) fnExactStateFault_row_tie rfl ⟨rfl, rfl⟩ (by kernel_rfl) rfl
    (fun f fn hf hfn => by
      obtain rfl : f = 7 := Option.some.inj ((show Tryd.prog.funcNamed "loop.example/g00369/laws.FnExactStateFault" = some 7 by kernel_rfl).symm.trans hf) |>.symm
      obtain rfl : fn = Tryd.f7 := (Option.some.inj (Tryd.func7.symm.trans hfn)).symm
      exact ⟨by kernel_rfl, fun j t ht => by
        rw [Tryd.params7] at ht
        have hm : t ∈ [65] := by simpa using Array.mem_of_getElem? ht
        have hall : ([65].all fun u => !Tryd.prog.wantsStandIn u) = true := by kernel_rfl
        exact (show Tryd.prog.wantsStandIn t = false by simpa using List.all_eq_true.1 hall t hm)⟩)
    (by kernel_rfl)
#print axioms proved
end Go.Proofs.YtendmninanhmiaaDoor.fnExactStateFault
namespace Go.Proofs.YtendmninanhmiaaDoor
/-- The row, under a short name, for the claim. -/
theorem fnExactStateFault_holds : Rows.FnExactStateFaultCardSaid := fnExactStateFault.proved
end Go.Proofs.YtendmninanhmiaaDoor
