/- The program's MarkOf: the law FnExactMarkOf holds at all arguments. Conditions: none. -/
import Derived.Test.YtendmninanhmiaaDoorRows
import Derived.Test.YtendmninanhmiaaDoorCards
import Derived.Test.YtendmninanhmiaaDoorTie
import Derived.Test.YtendmninanhmiaaDoorT5
import Derived.Test.YtendmninanhmiaaDoorX0
import Derived.Test.YtendmninanhmiaaDoorC3
import Derived.WalkKit
import Derived.ProofKit
import Derived.OpenShut
import Derived.ChangeOld
import Derived.Below
import Derived.Carry
import Derived.SizedLaws
import Derived.LaidMore
import Derived.Lay
import Derived.SevenTiedAt
import Derived.Stop.Joined
namespace Go.Proofs.YtendmninanhmiaaDoor.fnExactMarkOf
open Go.ChangeShapes Go.WideShapes Go.ChangeAt Go.RowKit Go.Av
set_option linter.unusedVariables false
theorem own : ownKnob Tryd.prog.godebug = none := by kernel_rfl
theorem laid : laidOutB Tryd.prog = true := by kernel_rfl
set_option maxRecDepth 100000 in
theorem lifted (os : Os) (started : os.Started) (H : Type) (enc : TypeId × Value → H) :
    ReturnsInHanded {} Tryd.checked os 8 .any (fun w args => (Rows.fnExactMarkOfSpec.pre enc Tryd.prog Tryd.f8 Rows.fnExactMarkOfRow.domain false w args ∧ laidMetH Tryd.prog Rows.fnExactMarkOfRow.laid w) ∧ sizedMet enc Tryd.prog Tryd.f8 (OpenSpec.ofChange Rows.fnExactMarkOfSpec) false w args)
      (Rows.fnExactMarkOfSpec.post enc Tryd.prog Tryd.f8 false true false false) := by
  refine returnsInHanded_of_change_and (C := Tryd.checked) (X := fun w _ => laidMetH Tryd.prog Rows.fnExactMarkOfRow.laid w) (fun _ _ _ hh h => h.of_heap hh) own started (by kernel_rfl) Tryd.func8
    (ChangeSpec.witness_shaped (enc := enc) (C := Tryd.checked) (os := os) (X := fun w _ => laidMetH Tryd.prog Rows.fnExactMarkOfRow.laid w) false (World.laidAll Tryd.prog os Rows.fnExactMarkOfRow.laid) #[.agg #[.slice none 0 0, .slice none 0 0, .int .i64 0, .slice none 0 0], .int .i64 0, .int .i64 0] 8 (World.laidAll_os _ _ _)
      (World.shaped_of_ZipB (by kernel_rfl) (by kernel_rfl)) (by kernel_rfl) (by kernel_rfl) (by kernel_rfl)
      (by rw [MakeChecks.laidMetH_plain _ _ _ (by kernel_rfl)]; exact laidMet_laidAll _ (by kernel_rfl) (by kernel_rfl))) ?_
  intro W base args ds gs before hval0 hW hcnd _ hL hsz0
  have hval : ∀ (j : Nat) t v, Tryd.f8.params[j]? = some t → args[j]? = some v → Value.okWide Tryd.prog W .any base t v := hval0
  have hW' := hW
  obtain ⟨p, q, hA0, hV, rfl, hfz, hnd⟩ := hW
  have hA : DataW.TrodAll enc Tryd.prog W 0 (fun _ => true) true Tryd.f8.params.toList args.toList ds p := hA0
  rw [Tryd.params8] at hA hval
  obtain ⟨v0, vs0, d0, ds0, p0, q0, hargs, rfl, rfl, h0, r0⟩ := trodAll_cons hA
  obtain ⟨v1, vs1, d1, ds1, p1, q1, rfl, rfl, rfl, h1, r1⟩ := trodAll_cons r0
  obtain ⟨v2, vs2, d2, ds2, p2, q2, rfl, rfl, rfl, h2, r2⟩ := trodAll_cons r1
  obtain ⟨rfl, rfl, rfl⟩ := trodAll_nil r2
  obtain rfl : args = #[v0, v1, v2] := by cases args; simp_all
  obtain ⟨rfl, rfl⟩ := trodVars_none hV
  have w0 := hval 0 65 v0 rfl rfl
  have w1 := hval 1 2 v1 rfl rfl
  have w2 := hval 2 2 v2 rfl rfl
  obtain ⟨x0, b0, l0⟩ := ta_TState.arg (by kernel_rfl) h0
  obtain ⟨x1, b1, l1⟩ := ta_int.arg (by kernel_rfl) h1
  obtain ⟨x2, b2, l2⟩ := ta_int.arg (by kernel_rfl) h2
  have hlt0 : ∀ x ∈ p0, x.block < W.heap.size := fun x hx => by simpa using hW'.lt x (by simp [hx])
  have hlt1 : ∀ x ∈ p1, x.block < W.heap.size := fun x hx => by simpa using hW'.lt x (by simp [hx])
  have hlt2 : ∀ x ∈ p2, x.block < W.heap.size := fun x hx => by simpa using hW'.lt x (by simp [hx])
  clear hA0 hval0 hsz0
  have hc := calls_of_sound so8 (by kernel_rfl) (args := [argD Tryd.prog 9 65 d0, argD Tryd.prog 9 2 d1, argD Tryd.prog 9 2 d2]) (b := true) rfl ⟨x0, x1, x2, args_of_vles ⟨l0, l1, l2, trivial⟩, ⟨b0, b1, b2⟩⟩ (vals := #[v0, v1, v2]) (W := W) rfl (fun j hj => by
    match j, hj with
    | 0, _ => exact law_arg (by kernel_rfl) w0 h0
    | 1, _ => exact law_arg (by kernel_rfl) w1 h1
    | 2, _ => exact law_arg (by kernel_rfl) w2 h2
    | j + 3, hj => exact absurd hj (by simp))
  refine hc.mono fun e W' ⟨he, bel⟩ => ?_
  subst he
  exact ⟨_, rfl, _, _, _, [], _, [], hW', trodAll_mk1 (shut_bool Tryd.underlying4 _), (trodAll_cons_mk (Below.trod laid (by kernel_rfl) (of_decide_eq_true (by kernel_rfl)) h0 bel hlt0) (trodAll_cons_mk (Below.trod laid (by kernel_rfl) (of_decide_eq_true (by kernel_rfl)) h1 bel hlt1) (trodAll_cons_mk (Below.trod laid (by kernel_rfl) (of_decide_eq_true (by kernel_rfl)) h2 bel hlt2) (trodAll_mk0)))), rfl, bel.frame _, fun h => by cases h⟩
set_option maxRecDepth 100000
theorem k1 : Rows.fnExactMarkOfRow.wf (OpenSpec.ofChange Rows.fnExactMarkOfSpec) = true := by kernel_rfl
theorem k4 : Tryd.f8.params.all (Tryd.pinned.checked.prog.readableRec ·) = true := by kernel_rfl
theorem k5 : namedTie Tryd.pinned.checked.prog Rows.fnExactMarkOfRow.named Rows.fnExactMarkOfSpec.vars = true := by kernel_rfl
theorem k6 : (Rows.fnExactMarkOfRow.stops == []) = true := by kernel_rfl
theorem k8 : (Rows.fnExactMarkOfRow.knobs == []) = true := by kernel_rfl
theorem k10 : (Rows.fnExactMarkOfRow.inPlace == Tryd.pinned.checked.prog.inPlace 8) = true := by kernel_rfl
theorem k11 : (Rows.fnExactMarkOfRow.unfollowed == Tryd.pinned.checked.prog.unfollowed 8) = true := by kernel_rfl
theorem k12 : (Rows.fnExactMarkOfRow.recurses == Tryd.pinned.checked.prog.recurses 8) = true := by kernel_rfl
theorem k13 : (Rows.fnExactMarkOfRow.named == Tryd.pinned.checked.prog.varsNamed 8) = true := by kernel_rfl
theorem k14 : (Rows.fnExactMarkOfRow.maps == (Tryd.f8.params.toList ++ Rows.fnExactMarkOfSpec.plain.varTypes Tryd.pinned.checked.prog).any (Tryd.pinned.checked.prog.mapsRec ·)) = true := by kernel_rfl
theorem k15 : (Rows.fnExactMarkOfRow.ifaces == (Tryd.f8.params.toList ++ Rows.fnExactMarkOfSpec.plain.varTypes Tryd.pinned.checked.prog).any (Tryd.pinned.checked.prog.ifacesRec ·)) = true := by kernel_rfl
theorem k16 : (Rows.fnExactMarkOfRow.mapsOut == Tryd.pinned.checked.prog.mapsAmong Tryd.f8.resultTypes.toList) = true := by kernel_rfl
theorem k17 : (Rows.fnExactMarkOfRow.loops == (Tryd.f8.params.toList ++ Rows.fnExactMarkOfSpec.plain.varTypes Tryd.pinned.checked.prog).any (Tryd.pinned.checked.prog.loopsFrom ·)) = true := by kernel_rfl
theorem k17b : (Rows.fnExactMarkOfRow.wideKeys == (Tryd.f8.params.toList ++ Rows.fnExactMarkOfSpec.plain.varTypes Tryd.pinned.checked.prog ++ Tryd.f8.resultTypes.toList).any (Tryd.pinned.checked.prog.wideKeysFrom ·)) = true := by kernel_rfl
theorem k18 : Rows.fnExactMarkOfSpec.vars.all (Tryd.pinned.checked.prog.varReadable ·) = true := by kernel_rfl
theorem k19 : Tryd.f8.resultTypes.all (fun t => Tryd.pinned.checked.prog.readableRec t && decide (t < Tryd.pinned.checked.prog.types.size)) = true := by kernel_rfl
theorem k20 : (Rows.fnExactMarkOfRow.ifacesOut == Tryd.f8.resultTypes.toList.any (Tryd.pinned.checked.prog.ifacesRec ·)) = true := by kernel_rfl
theorem k21 : (Rows.fnExactMarkOfRow.loopsOut == Tryd.f8.resultTypes.toList.any (Tryd.pinned.checked.prog.loopsFrom ·)) = true := by kernel_rfl
theorem k22 : (Rows.fnExactMarkOfRow.plainKeys == Tryd.pinned.checked.prog.plainKeys) = true := by kernel_rfl
theorem k23 : Rows.fnExactMarkOfRow.shortTexts.isNone = true := by kernel_rfl
theorem k25 : (Rows.fnExactMarkOfRow.kinds == (if Rows.fnExactMarkOfRow.domain.isEmpty then [] else Tryd.f8.params.toList.map fun t => match Tryd.pinned.checked.prog.underlying t with | some (.int k) => some k | _ => none)) = true := by kernel_rfl
theorem k26 : (Rows.fnExactMarkOfRow.pinned == Rows.fnExactMarkOfRow.pinnedBy) = true := by kernel_rfl
theorem k27 : (Rows.fnExactMarkOfRow.veiled == (Tryd.f8.params.toList ++ Rows.fnExactMarkOfSpec.plain.varTypes Tryd.pinned.checked.prog ++ Tryd.f8.resultTypes.toList).any (Tryd.pinned.checked.prog.veiledRec ·)) = true := by kernel_rfl
theorem k28 : Rows.fnExactMarkOfRow.veiledFits Tryd.pinned.checked.prog Tryd.f8.params.toList (Tryd.f8.params.toList ++ Rows.fnExactMarkOfSpec.plain.varTypes Tryd.pinned.checked.prog ++ Tryd.f8.resultTypes.toList) = true := by kernel_rfl
theorem closed : joinedFacts Tryd.pinned.checked.prog 8 Tryd.f8 Rows.fnExactMarkOfSpec Rows.fnExactMarkOfRow = true := by
  unfold joinedFacts
  exact (jf.andI (jf.andI (jf.andI (jf.andI (jf.andI (jf.andI (jf.andI (jf.andI (jf.andI (jf.andI (jf.andI (jf.andI (jf.andI (jf.andI (jf.andI (jf.andI (jf.andI (jf.andI (jf.andI (jf.andI (jf.andI (jf.andI (jf.andI (jf.andI (jf.andI (jf.andI (jf.andI (jf.andI (jf.andI (jf.andI (jf.andI k1 jf.p1) jf.p2) k4) k5) k6) jf.p3) k8) jf.p4) k10) k11) k12) k13) k14) k15) k16) k17) k17b) k18) k19) k20) k21) k22) k23) jf.p6) jf.p7) (jf.beq_false jf.p8 rfl)) (jf.beq_make jf.p9 rfl)) k25) k26) k27) k28)
theorem over : Rows.fnExactMarkOfRow.holds Tryd.pinned (OpenSpec.ofChange Rows.fnExactMarkOfSpec) :=
  OpenClaim.holds_of_wide 8 Tryd.f8 rfl rfl rfl rfl rfl rfl rfl ⟨rfl, rfl, rfl, rfl, rfl⟩ rfl rfl rfl rfl rfl (by kernel_rfl) Tryd.func8 closed
    (of_decide_eq_true (by kernel_rfl)) (by unfold Func.isWrapper; first | (rw [if_pos (by decide +kernel)]; kernel_rfl) | (rw [if_neg (by decide +kernel)]; exact ⟨rfl, rfl⟩))
    (fun os started H enc _ => lifted os started H enc)
theorem proved : Rows.FnExactMarkOfCardSaid :=
  Claim7.holds_tied_plain_at .later [] [.data, .pinned] true (true, "271e7ddb052e1142225d23759bd0b4ebefa6fe864ad0b525e2c931588a5f5450") false over (fun _ h => by cases h) (by kernel_rfl) (fun _ h => by cases h) fnExactMarkOf_row_tie rfl ⟨rfl, rfl⟩ (by kernel_rfl) rfl
    (fun f fn hf hfn => by
      obtain rfl : f = 8 := Option.some.inj ((show Tryd.prog.funcNamed "loop.example/g00369/laws.FnExactMarkOf" = some 8 by kernel_rfl).symm.trans hf) |>.symm
      obtain rfl : fn = Tryd.f8 := (Option.some.inj (Tryd.func8.symm.trans hfn)).symm
      exact ⟨by kernel_rfl, fun j t ht => by
        rw [Tryd.params8] at ht
        have hm : t ∈ [65, 2, 2] := by simpa using Array.mem_of_getElem? ht
        have hall : ([65, 2, 2].all fun u => !Tryd.prog.wantsStandIn u) = true := by kernel_rfl
        exact (show Tryd.prog.wantsStandIn t = false by simpa using List.all_eq_true.1 hall t hm)⟩)
    (by kernel_rfl)
#print axioms proved
end Go.Proofs.YtendmninanhmiaaDoor.fnExactMarkOf
namespace Go.Proofs.YtendmninanhmiaaDoor
/-- The row, under a short name, for the claim. -/
theorem fnExactMarkOf_holds : Rows.FnExactMarkOfCardSaid := fnExactMarkOf.proved
end Go.Proofs.YtendmninanhmiaaDoor
