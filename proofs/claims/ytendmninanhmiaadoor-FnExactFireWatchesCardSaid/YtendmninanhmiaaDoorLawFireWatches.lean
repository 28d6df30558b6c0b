/- The program's FireWatches: the law FnExactFireWatches holds at all arguments. Conditions: none. -/
import Derived.Test.YtendmninanhmiaaDoorRows
import Derived.Test.YtendmninanhmiaaDoorCards
import Derived.Test.YtendmninanhmiaaDoorTie
import Derived.Test.YtendmninanhmiaaDoorM3
import Derived.Test.YtendmninanhmiaaDoorX0
import Derived.Test.YtendmninanhmiaaDoorC3
import Derived.WalkKit
import Derived.ProofKit
import Derived.OpenShut
import Derived.ChangeOld
import Derived.Below
import Derived.Carry
import Derived.SizedLaws
import Derived.LaidMore
import Derived.Lay
import Derived.SevenTiedAt
import Derived.Stop.Joined
namespace Go.Proofs.YtendmninanhmiaaDoor.fnExactFireWatches
open Go.ChangeShapes Go.WideShapes Go.ChangeAt Go.RowKit Go.Av
set_option linter.unusedVariables false
theorem own : ownKnob Tryd.prog.godebug = none := by kernel_rfl
theorem laid : laidOutB Tryd.prog = true := by kernel_rfl
set_option maxRecDepth 100000 in
theorem lifted (os : Os) (started : os.Started) (H : Type) (enc : TypeId × Value → H) :
    ReturnsInHanded {} Tryd.checked os 9 .any (fun w args => (Rows.fnExactFireWatchesSpec.pre enc Tryd.prog Tryd.f9 Rows.fnExactFireWatchesRow.domain false w args ∧ laidMetH Tryd.prog Rows.fnExactFireWatchesRow.laid w) ∧ sizedMet enc Tryd.prog Tryd.f9 (OpenSpec.ofChange Rows.fnExactFireWatchesSpec) false w args)
      (Rows.fnExactFireWatchesSpec.post enc Tryd.prog Tryd.f9 false true false false) := by
  refine returnsInHanded_of_change_and (C := Tryd.checked) (X := fun w _ => laidMetH Tryd.prog Rows.fnExactFireWatchesRow.laid w) (fun _ _ _ hh h => h.of_heap hh) own started (by kernel_rfl) Tryd.func9
    (ChangeSpec.witness_shaped (enc := enc) (C := Tryd.checked) (os := os) (X := fun w _ => laidMetH Tryd.prog Rows.fnExactFireWatchesRow.laid w) false (World.laidAll Tryd.prog os Rows.fnExactFireWatchesRow.laid) #[.slice none 0 0, .slice none 0 0, .slice none 0 0] 8 (World.laidAll_os _ _ _)
      (World.shaped_of_ZipB (by kernel_rfl) (by kernel_rfl)) (by kernel_rfl) (by kernel_rfl) (by kernel_rfl)
      (by rw [MakeChecks.laidMetH_plain _ _ _ (by kernel_rfl)]; exact laidMet_laidAll _ (by kernel_rfl) (by kernel_rfl))) ?_
  intro W base args ds gs before hval0 hW hcnd _ hL hsz0
  have hval : ∀ (j : Nat) t v, Tryd.f9.params[j]? = some t → args[j]? = some v → Value.okWide Tryd.prog W .any base t v := hval0
  have hW' := hW
  obtain ⟨p, q, hA0, hV, rfl, hfz, hnd⟩ := hW
  have hA : DataW.TrodAll enc Tryd.prog W 0 (fun _ => true) true Tryd.f9.params.toList args.toList ds p := hA0
  rw [Tryd.params9] at hA hval
  obtain ⟨v0, vs0, d0, ds0, p0, q0, hargs, rfl, rfl, h0, r0⟩ := trodAll_cons hA
  obtain ⟨v1, vs1, d1, ds1, p1, q1, rfl, rfl, rfl, h1, r1⟩ := trodAll_cons r0
  obtain ⟨v2, vs2, d2, ds2, p2, q2, rfl, rfl, rfl, h2, r2⟩ := trodAll_cons r1
  obtain ⟨rfl, rfl, rfl⟩ := trodAll_nil r2
  obtain rfl : args = #[v0, v1, v2] := by cases args; simp_all
  obtain ⟨rfl, rfl⟩ := trodVars_none hV
  have w0 := hval 0 22 v0 rfl rfl
  have w1 := hval 1 52 v1 rfl rfl
  have w2 := hval 2 52 v2 rfl rfl
  obtain ⟨x0, b0, l0⟩ := ta_LWatch.arg (by kernel_rfl) h0
  obtain ⟨x1, b1, l1⟩ := ta_LZnode.arg (by kernel_rfl) h1
  obtain ⟨x2, b2, l2⟩ := ta_LZnode.arg (by kernel_rfl) h2
  have hlt0 : ∀ x ∈ p0, x.block < W.heap.size := fun x hx => by simpa using hW'.lt x (by simp [hx])
  have hlt1 : ∀ x ∈ p1, x.block < W.heap.size := fun x hx => by simpa using hW'.lt x (by simp [hx])
  have hlt2 : ∀ x ∈ p2, x.block < W.heap.size := fun x hx => by simpa using hW'.lt x (by simp [hx])
  clear hA0 hval0 hsz0
  have hc := calls_of_sound so9 (by kernel_rfl) (args := [argD Tryd.prog 9 22 d0, argD Tryd.prog 9 52 d1, argD Tryd.prog 9 52 d2]) (b := true) rfl ⟨x0, x1, x2, args_of_vles ⟨l0, l1, l2, trivial⟩, ⟨b0, b1, b2⟩⟩ (vals := #[v0, v1, v2]) (W := W) rfl (fun j hj => by
    match j, hj with
    | 0, _ => exact law_arg (by kernel_rfl) w0 h0
    | 1, _ => exact law_arg (by kernel_rfl) w1 h1
    | 2, _ => exact law_arg (by kernel_rfl) w2 h2
    | j + 3, hj => exact absurd hj (by simp))
  refine hc.mono fun e W' ⟨he, bel⟩ => ?_
  subst he
  exact ⟨_, rfl, _, _, _, [], _, [], hW', trodAll_mk1 (shut_bool Tryd.underlying4 _), (trodAll_cons_mk (Below.trod laid (by kernel_rfl) (of_decide_eq_true (by kernel_rfl)) h0 bel hlt0) (trodAll_cons_mk (Below.trod laid (by kernel_rfl) (of_decide_eq_true (by kernel_rfl)) h1 bel hlt1) (trodAll_cons_mk (Below.trod laid (by kernel_rfl) (of_decide_eq_true (by kernel_rfl)) h2 bel hlt2) (trodAll_mk0)))), rfl, bel.frame _, fun h => by cases h⟩
set_option maxRecDepth 100000
theorem k1 : Rows.fnExactFireWatchesRow.wf (OpenSpec.ofChange Rows.fnExactFireWatchesSpec) = true := by kernel_rfl
theorem k4 : Tryd.f9.params.all (Tryd.pinned.checked.prog.readableRec ·) = true := by kernel_rfl
theorem k5 : namedTie Tryd.pinned.checked.prog Rows.fnExactFireWatchesRow.named Rows.fnExactFireWatchesSpec.vars = true := by kernel_rfl
theorem k6 : (Rows.fnExactFireWatchesRow.stops == []) = true := by kernel_rfl
theorem k8 : (Rows.fnExactFireWatchesRow.knobs == []) = true := by kernel_rfl
theorem k10 : (Rows.fnExactFireWatchesRow.inPlace == Tryd.pinned.checked.prog.inPlace 9) = true := by kernel_rfl
theorem k11 : (Rows.fnExactFireWatchesRow.unfollowed == Tryd.pinned.checked.prog.unfollowed 9) = true := by kernel_rfl
theorem k12 : (Rows.fnExactFireWatchesRow.recurses == Tryd.pinned.checked.prog.recurses 9) = true := by kernel_rfl
theorem k13 : (Rows.fnExactFireWatchesRow.named == Tryd.pinned.checked.prog.varsNamed 9) = true := by kernel_rfl
theorem k14 : (Rows.fnExactFireWatchesRow.maps == (Tryd.f9.params.toList ++ Rows.fnExactFireWatchesSpec.plain.varTypes Tryd.pinned.checked.prog).any (Tryd.pinned.checked.prog.mapsRec ·)) = true := by kernel_rfl
theorem k15 : (Rows.fnExactFireWatchesRow.ifaces == (Tryd.f9.params.toList ++ Rows.fnExactFireWatchesSpec.plain.varTypes Tryd.pinned.checked.prog).any (Tryd.pinned.checked.prog.ifacesRec ·)) = true := by kernel_rfl
theorem k16 : (Rows.fnExactFireWatchesRow.mapsOut == Tryd.pinned.checked.prog.mapsAmong Tryd.f9.resultTypes.toList) = true := by kernel_rfl
theorem k17 : (Rows.fnExactFireWatchesRow.loops == (Tryd.f9.params.toList ++ Rows.fnExactFireWatchesSpec.plain.varTypes Tryd.pinned.checked.prog).any (Tryd.pinned.checked.prog.loopsFrom ·)) = true := by kernel_rfl
theorem k17b : (Rows.fnExactFireWatchesRow.wideKeys == (Tryd.f9.params.toList ++ Rows.fnExactFireWatchesSpec.plain.varTypes Tryd.pinned.checked.prog ++ Tryd.f9.resultTypes.toList).any (Tryd.pinned.checked.prog.wideKeysFrom ·)) = true := by kernel_rfl
theorem k18 : Rows.fnExactFireWatchesSpec.vars.all (Tryd.pinned.checked.prog.varReadable ·) = true := by kernel_rfl
theorem k19 : Tryd.f9.resultTypes.all (fun t => Tryd.pinned.checked.prog.readableRec t && decide (t < Tryd.pinned.checked.prog.types.size)) = true := by kernel_rfl
theorem k20 : (Rows.fnExactFireWatchesRow.ifacesOut == Tryd.f9.resultTypes.toList.any (Tryd.pinned.checked.prog.ifacesRec ·)) = true := by kernel_rfl
theorem k21 : (Rows.fnExactFireWatchesRow.loopsOut == Tryd.f9.resultTypes.toList.any (Tryd.pinned.checked.prog.loopsFrom ·)) = true := by kernel_rfl
theorem k22 : (Rows.fnExactFireWatchesRow.plainKeys == Tryd.pinned.checked.prog.plainKeys) = true := by kernel_rfl
theorem k23 : Rows.fnExactFireWatchesRow.shortTexts.isNone = true := by kernel_rfl
theorem k25 : (Rows.fnExactFireWatchesRow.kinds == (if Rows.fnExactFireWatchesRow.domain.isEmpty then [] else Tryd.f9.params.toList.map fun t => match Tryd.pinned.checked.prog.underlying t with | some (.int k) => some k | _ => none)) = true := by kernel_rfl
theorem k26 : (Rows.fnExactFireWatchesRow.pinned == Rows.fnExactFireWatchesRow.pinnedBy) = true := by kernel_rfl
theorem k27 : (Rows.fnExactFireWatchesRow.veiled == (Tryd.f9.params.toList ++ Rows.fnExactFireWatchesSpec.plain.varTypes Tryd.pinned.checked.prog ++ Tryd.f9.resultTypes.toList).any (Tryd.pinned.checked.prog.veiledRec ·)) = true := by kernel_rfl
theorem k28 : Rows.fnExactFireWatchesRow.veiledFits Tryd.pinned.checked.prog Tryd.f9.params.toList (Tryd.f9.params.toList ++ Rows.fnExactFireWatchesSpec.plain.varTypes Tryd.pinned.checked.prog ++ Tryd.f9.resultTypes.toList) = true := by kernel_rfl
theorem closed : joinedFacts Tryd.pinned.checked.prog 9 Tryd.f9 Rows.fnExactFireWatchesSpec Rows.fnExactFireWatchesRow = true := by
  unfold joinedFacts
  exact (jf.andI (jf.andI (jf.andI (jf.andI (jf.andI (jf.andI (jf.andI (jf.andI (jf.andI (jf.andI (jf.andI (jf.andI (jf.andI (jf.andI (jf.andI (jf.andI (jf.andI (jf.andI (jf.andI (jf.andI (jf.andI (jf.andI (jf.andI (jf.andI (jf.andI (jf.andI (jf.andI (jf.andI (jf.andI (jf.andI (jf.andI k1 jf.p1) jf.p2) k4) k5) k6) jf.p3) k8) jf.p4) k10) k11) k12) k13) k14) k15) k16) k17) k17b) k18) k19) k20) k21) k22) k23) jf.p6) jf.p7) (jf.beq_false jf.p8 rfl)) (jf.beq_make jf.p9 rfl)) k25) k26) k27) k28)
theorem over : Rows.fnExactFireWatchesRow.holds Tryd.pinned (OpenSpec.ofChange Rows.fnExactFireWatchesSpec) :=
  OpenClaim.holds_of_wide 9 Tryd.f9 rfl rfl rfl rfl rfl rfl rfl ⟨rfl, rfl, rfl, rfl, rfl⟩ rfl rfl rfl rfl rfl (by kernel_rfl) Tryd.func9 closed
    (of_decide_eq_true (by kernel_rfl)) (by unfold Func.isWrapper; first | (rw [if_pos (by decide +kernel)]; kernel_rfl) | (rw [if_neg (by decide +kernel)]; exact ⟨rfl, rfl⟩))
    (fun os started H enc _ => lifted os started H enc)
theorem proved : Rows.FnExactFireWatchesCardSaid :=
  Claim7.holds_tied_plain_at .later [] [.data, .pinned] true (true, "271e7ddb052e1142225d23759bd0b4ebefa6fe864ad0b525e2c931588a5f5450") false over (fun _ h => by cases h) (by kernel_rfl) (fun _ h => by cases h) fnExactFireWatches_row_tie rfl ⟨rfl, rfl⟩ (by kernel_rfl) rfl
    (fun f fn hf hfn => by
      obtain rfl : f = 9 := Option.some.inj ((show Tryd.prog.funcNamed "loop.example/g00369/laws.FnExactFireWatches" = some 9 by kernel_rfl).symm.trans hf) |>.symm
      obtain rfl : fn = Tryd.f9 := (Option.some.inj (Tryd.func9.symm.trans hfn)).symm
      exact ⟨by kernel_rfl, fun j t ht => by
        rw [Tryd.params9] at ht
        have hm : t ∈ [22, 52, 52] := by simpa using Array.mem_of_getElem? ht
        have hall : ([22, 52, 52].all fun u => !Tryd.prog.wantsStandIn u) = true := by kernel_rfl
        exact (show Tryd.prog.wantsStandIn t = false by simpa using List.all_eq_true.1 hall t hm)⟩)
    (by kernel_rfl)
#print axioms proved
end Go.Proofs.YtendmninanhmiaaDoor.fnExactFireWatches
namespace Go.Proofs.YtendmninanhmiaaDoor
/-- The row, under a short name, for the claim. -/
theorem fnExactFireWatches_holds : Rows.FnExactFireWatchesCardSaid := fnExactFireWatches.proved
end Go.Proofs.YtendmninanhmiaaDoor
