/- The program's FnWatches: the law FnWatches holds at all arguments. Conditions: none. -/
import Derived.Test.YtgefdljcommhhaaGreatDoorRows
import Derived.Test.YtgefdljcommhhaaGreatDoorCards
import Derived.Test.YtgefdljcommhhaaGreatDoorTie
import Derived.Test.YtgefdljcommhhaaGreatDoorR26
import Derived.Test.YtgefdljcommhhaaGreatDoorX0
import Derived.Test.YtgefdljcommhhaaGreatDoorC3
import Derived.WalkKit
import Derived.ProofKit
import Derived.OpenShut
import Derived.ChangeOld
import Derived.Below
import Derived.Carry
import Derived.SizedLaws
import Derived.LaidMore
import Derived.Lay
import Derived.SevenTiedAt
import Derived.Stop.Joined
namespace Go.Proofs.YtgefdljcommhhaaGreatDoor.fnWatches
open Go.ChangeShapes Go.WideShapes Go.ChangeAt Go.RowKit Go.Av
set_option linter.unusedVariables false
theorem own : ownKnob Tryz.prog.godebug = none := by kernel_rfl
theorem laid : laidOutB Tryz.prog = true := by kernel_rfl
set_option maxRecDepth 100000 in
theorem lifted (os : Os) (started : os.Started) (H : Type) (enc : TypeId × Value → H) :
    ReturnsInHanded {} Tryz.checked os 3 .any (fun w args => (Rows.fnWatchesSpec.pre enc Tryz.prog Tryz.f3 Rows.fnWatchesRow.domain false w args ∧ laidMetH Tryz.prog Rows.fnWatchesRow.laid w) ∧ sizedMet enc Tryz.prog Tryz.f3 (OpenSpec.ofChange Rows.fnWatchesSpec) false w args)
      (Rows.fnWatchesSpec.post enc Tryz.prog Tryz.f3 false true false false) := by
  refine returnsInHanded_of_change_and (C := Tryz.checked) (X := fun w _ => laidMetH Tryz.prog Rows.fnWatchesRow.laid w) (fun _ _ _ hh h => h.of_heap hh) own started (by kernel_rfl) Tryz.func3
    (ChangeSpec.witness_shaped (enc := enc) (C := Tryz.checked) (os := os) (X := fun w _ => laidMetH Tryz.prog Rows.fnWatchesRow.laid w) false (World.laidAll Tryz.prog os Rows.fnWatchesRow.laid) #[.slice none 0 0] 8 (World.laidAll_os _ _ _)
      (World.shaped_of_ZipB (by kernel_rfl) (by kernel_rfl)) (by kernel_rfl) (by kernel_rfl) (by kernel_rfl)
      (by rw [MakeChecks.laidMetH_plain _ _ _ (by kernel_rfl)]; exact laidMet_laidAll _ (by kernel_rfl) (by kernel_rfl))) ?_
  intro W base args ds gs before hval0 hW hcnd _ hL hsz0
  have hval : ∀ (j : Nat) t v, Tryz.f3.params[j]? = some t → args[j]? = some v → Value.okWide Tryz.prog W .any base t v := hval0
  have hW' := hW
  obtain ⟨p, q, hA0, hV, rfl, hfz, hnd⟩ := hW
  have hA : DataW.TrodAll enc Tryz.prog W 0 (fun _ => true) true Tryz.f3.params.toList args.toList ds p := hA0
  rw [Tryz.params3] at hA hval
  obtain ⟨v0, vs0, d0, ds0, p0, q0, hargs, rfl, rfl, h0, r0⟩ := trodAll_cons hA
  obtain ⟨rfl, rfl, rfl⟩ := trodAll_nil r0
  obtain rfl : args = #[v0] := by cases args; simp_all
  obtain ⟨rfl, rfl⟩ := trodVars_none hV
  have w0 := hval 0 22 v0 rfl rfl
  obtain ⟨x0, b0, l0⟩ := ta_Lbyte.arg (by kernel_rfl) h0
  have hlt0 : ∀ x ∈ p0, x.block < W.heap.size := fun x hx => by simpa using hW'.lt x (by simp [hx])
  clear hA0 hval0 hsz0
  have hc := calls_of_sound so3 (by kernel_rfl) (args := [argD Tryz.prog 9 22 d0]) (b := true) rfl ⟨x0, args_of_vles ⟨l0, trivial⟩, b0⟩ (vals := #[v0]) (W := W) rfl (fun j hj => by
    match j, hj with
    | 0, _ => exact law_arg (by kernel_rfl) w0 h0
    | j + 1, hj => exact absurd hj (by simp))
  refine hc.mono fun e W' ⟨he, bel⟩ => ?_
  subst he
  exact ⟨_, rfl, _, _, _, [], _, [], hW', trodAll_mk1 (shut_bool Tryz.underlying4 _), (trodAll_cons_mk (Below.trod laid (by kernel_rfl) (of_decide_eq_true (by kernel_rfl)) h0 bel hlt0) (trodAll_mk0)), rfl, bel.frame _, fun h => by cases h⟩
set_option maxRecDepth 100000
theorem k1 : Rows.fnWatchesRow.wf (OpenSpec.ofChange Rows.fnWatchesSpec) = true := by kernel_rfl
theorem k4 : Tryz.f3.params.all (Tryz.pinned.checked.prog.readableRec ·) = true := by kernel_rfl
theorem k5 : namedTie Tryz.pinned.checked.prog Rows.fnWatchesRow.named Rows.fnWatchesSpec.vars = true := by kernel_rfl
theorem k6 : (Rows.fnWatchesRow.stops == []) = true := by kernel_rfl
theorem k8 : (Rows.fnWatchesRow.knobs == []) = true := by kernel_rfl
theorem k10 : (Rows.fnWatchesRow.inPlace == Tryz.pinned.checked.prog.inPlace 3) = true := by kernel_rfl
theorem k11 : (Rows.fnWatchesRow.unfollowed == Tryz.pinned.checked.prog.unfollowed 3) = true := by kernel_rfl
theorem k12 : (Rows.fnWatchesRow.recurses == Tryz.pinned.checked.prog.recurses 3) = true := by kernel_rfl
theorem k13 : (Rows.fnWatchesRow.named == Tryz.pinned.checked.prog.varsNamed 3) = true := by kernel_rfl
theorem k14 : (Rows.fnWatchesRow.maps == (Tryz.f3.params.toList ++ Rows.fnWatchesSpec.plain.varTypes Tryz.pinned.checked.prog).any (Tryz.pinned.checked.prog.mapsRec ·)) = true := by kernel_rfl
theorem k15 : (Rows.fnWatchesRow.ifaces == (Tryz.f3.params.toList ++ Rows.fnWatchesSpec.plain.varTypes Tryz.pinned.checked.prog).any (Tryz.pinned.checked.prog.ifacesRec ·)) = true := by kernel_rfl
theorem k16 : (Rows.fnWatchesRow.mapsOut == Tryz.pinned.checked.prog.mapsAmong Tryz.f3.resultTypes.toList) = true := by kernel_rfl
theorem k17 : (Rows.fnWatchesRow.loops == (Tryz.f3.params.toList ++ Rows.fnWatchesSpec.plain.varTypes Tryz.pinned.checked.prog).any (Tryz.pinned.checked.prog.loopsFrom ·)) = true := by kernel_rfl
theorem k17b : (Rows.fnWatchesRow.wideKeys == (Tryz.f3.params.toList ++ Rows.fnWatchesSpec.plain.varTypes Tryz.pinned.checked.prog ++ Tryz.f3.resultTypes.toList).any (Tryz.pinned.checked.prog.wideKeysFrom ·)) = true := by kernel_rfl
theorem k18 : Rows.fnWatchesSpec.vars.all (Tryz.pinned.checked.prog.varReadable ·) = true := by kernel_rfl
theorem k19 : Tryz.f3.resultTypes.all (fun t => Tryz.pinned.checked.prog.readableRec t && decide (t < Tryz.pinned.checked.prog.types.size)) = true := by kernel_rfl
theorem k20 : (Rows.fnWatchesRow.ifacesOut == Tryz.f3.resultTypes.toList.any (Tryz.pinned.checked.prog.ifacesRec ·)) = true := by kernel_rfl
theorem k21 : (Rows.fnWatchesRow.loopsOut == Tryz.f3.resultTypes.toList.any (Tryz.pinned.checked.prog.loopsFrom ·)) = true := by kernel_rfl
theorem k22 : (Rows.fnWatchesRow.plainKeys == Tryz.pinned.checked.prog.plainKeys) = true := by kernel_rfl
theorem k23 : Rows.fnWatchesRow.shortTexts.isNone = true := by kernel_rfl
theorem k25 : (Rows.fnWatchesRow.kinds == (if Rows.fnWatchesRow.domain.isEmpty then [] else Tryz.f3.params.toList.map fun t => match Tryz.pinned.checked.prog.underlying t with | some (.int k) => some k | _ => none)) = true := by kernel_rfl
theorem k26 : (Rows.fnWatchesRow.pinned == Rows.fnWatchesRow.pinnedBy) = true := by kernel_rfl
theorem k27 : (Rows.fnWatchesRow.veiled == (Tryz.f3.params.toList ++ Rows.fnWatchesSpec.plain.varTypes Tryz.pinned.checked.prog ++ Tryz.f3.resultTypes.toList).any (Tryz.pinned.checked.prog.veiledRec ·)) = true := by kernel_rfl
theorem k28 : Rows.fnWatchesRow.veiledFits Tryz.pinned.checked.prog Tryz.f3.params.toList (Tryz.f3.params.toList ++ Rows.fnWatchesSpec.plain.varTypes Tryz.pinned.checked.prog ++ Tryz.f3.resultTypes.toList) = true := by kernel_rfl
theorem closed : joinedFacts Tryz.pinned.checked.prog 3 Tryz.f3 Rows.fnWatchesSpec Rows.fnWatchesRow = true := by
  unfold joinedFacts
  exact (jf.andI (jf.andI (jf.andI (jf.andI (jf.andI (jf.andI (jf.andI (jf.andI (jf.andI (jf.andI (jf.andI (jf.andI (jf.andI (jf.andI (jf.andI (jf.andI (jf.andI (jf.andI (jf.andI (jf.andI (jf.andI (jf.andI (jf.andI (jf.andI (jf.andI (jf.andI (jf.andI (jf.andI (jf.andI (jf.andI (jf.andI k1 jf.p1) jf.p2) k4) k5) k6) jf.p3) k8) jf.p4) k10) k11) k12) k13) k14) k15) k16) k17) k17b) k18) k19) k20) k21) k22) k23) jf.p6) jf.p7) (jf.beq_false jf.p8 rfl)) (jf.beq_make jf.p9 rfl)) k25) k26) k27) k28)
theorem over : Rows.fnWatchesRow.holds Tryz.pinned (OpenSpec.ofChange Rows.fnWatchesSpec) :=
  OpenClaim.holds_of_wide 3 Tryz.f3 rfl rfl rfl rfl rfl rfl rfl ⟨rfl, rfl, rfl, rfl, rfl⟩ rfl rfl rfl rfl rfl (by kernel_rfl) Tryz.func3 closed
    (of_decide_eq_true (by kernel_rfl)) (by unfold Func.isWrapper; first | (rw [if_pos (by decide +kernel)]; kernel_rfl) | (rw [if_neg (by decide +kernel)]; exact ⟨rfl, rfl⟩))
    (fun os started H enc _ => lifted os started H enc)
theorem proved : Rows.FnWatchesCardSaid :=
  Claim7.holds_tied_plain_at .later [] [.data, .data, .data, .data, .pinned] true (true, "7da34a4d452c9d2819f46d81a2fc2ac7f80841302b34d16f047f182921dc35e7") false over (fun _ h => by cases h) (by kernel_rfl) (fun _ h => by cases h) fnWatches_row_tie rfl ⟨rfl, rfl⟩ (by kernel_rfl) rfl
    (fun f fn hf hfn => by
      obtain rfl : f = 3 := Option.some.inj ((show Tryz.prog.funcNamed "loop.example/g00369/laws.FnWatches" = some 3 by kernel_rfl).symm.trans hf) |>.symm
      obtain rfl : fn = Tryz.f3 := (Option.some.inj (Tryz.func3.symm.trans hfn)).symm
      exact ⟨by kernel_rfl, fun j t ht => by
        rw [Tryz.params3] at ht
        have hm : t ∈ [22] := by simpa using Array.mem_of_getElem? ht
        have hall : ([22].all fun u => !Tryz.prog.wantsStandIn u) = true := by kernel_rfl
        exact (show Tryz.prog.wantsStandIn t = false by simpa using List.all_eq_true.1 hall t hm)⟩)
    (by kernel_rfl)
#print axioms proved
end Go.Proofs.YtgefdljcommhhaaGreatDoor.fnWatches
namespace Go.Proofs.YtgefdljcommhhaaGreatDoor
/-- The row, under a short name, for the claim. -/
theorem fnWatches_holds : Rows.FnWatchesCardSaid := fnWatches.proved
end Go.Proofs.YtgefdljcommhhaaGreatDoor
