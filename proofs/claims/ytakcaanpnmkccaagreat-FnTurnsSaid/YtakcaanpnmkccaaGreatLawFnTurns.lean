/- The program's FnTurns: the law FnTurns holds at all arguments. Conditions: none. -/
import Derived.Test.YtakcaanpnmkccaaGreatRows
import Derived.Test.YtakcaanpnmkccaaGreatR13
import Derived.Test.YtakcaanpnmkccaaGreatX0
import Derived.Test.YtakcaanpnmkccaaGreatC3
import Derived.WalkKit
import Derived.ProofKit
import Derived.OpenShut
import Derived.ChangeOld
import Derived.Below
import Derived.Carry
import Derived.SizedLaws
namespace Go.Proofs.YtakcaanpnmkccaaGreat.fnTurns
open Go.ChangeShapes Go.WideShapes Go.ChangeAt Go.RowKit Go.Av
set_option linter.unusedVariables false
theorem own : ownKnob Tryz.prog.godebug = none := by kernel_rfl
theorem laid : laidOutB Tryz.prog = true := by kernel_rfl
set_option maxRecDepth 100000 in
theorem lifted (os : Os) (started : os.Started) (H : Type) (enc : TypeId × Value → H) :
    ReturnsInHanded {} Tryz.checked os 4 .any (Rows.fnTurnsSpec.pre6 enc Tryz.prog Tryz.f4 Rows.fnTurnsRow.domain false) (Rows.fnTurnsSpec.post enc Tryz.prog Tryz.f4 false true false false) := by
  refine returnsInHanded_of_change_sized (C := Tryz.checked) own started (by kernel_rfl) Tryz.func4
    (ChangeSpec.witness6 (enc := enc) (C := Tryz.checked) false ⟨#[], #[.slice none 0 0], []⟩ 8 (by kernel_rfl) (by kernel_rfl) (by kernel_rfl) (by kernel_rfl)) ?_
  intro W base args ds gs before hval0 hW hcnd hsz0 _
  have hval : ∀ (j : Nat) t v, Tryz.f4.params[j]? = some t → args[j]? = some v → Value.okWide Tryz.prog W .any base t v := hval0
  have hW' := hW
  obtain ⟨p, q, hA0, hV, rfl, hfz, hnd⟩ := hW
  have hA : DataW.TrodAll enc Tryz.prog W 0 (fun _ => true) true Tryz.f4.params.toList args.toList ds p := hA0
  rw [Tryz.params4] at hA hval
  obtain ⟨v0, vs0, d0, ds0, p0, q0, hargs, rfl, rfl, h0, r0⟩ := trodAll_cons hA
  obtain ⟨rfl, rfl, rfl⟩ := trodAll_nil r0
  obtain rfl : args = #[v0] := by cases args; simp_all
  obtain ⟨rfl, rfl⟩ := trodVars_none hV
  have w0 := hval 0 22 v0 rfl rfl
  obtain ⟨x0, b0, l0⟩ := ta_Lbyte.arg (by kernel_rfl) h0
  have hlt0 : ∀ x ∈ p0, x.block < W.heap.size := fun x hx => by simpa using hW'.lt x (by simp [hx])
  clear hA0 hval0 hsz0
  have hc := calls_of_sound so4 (by kernel_rfl) (args := [argD Tryz.prog 9 22 d0]) (b := true) rfl ⟨x0, args_of_vles ⟨l0, trivial⟩, b0⟩ (vals := #[v0]) (W := W) rfl (fun j hj => by
    match j, hj with
    | 0, _ => exact law_arg (by kernel_rfl) w0 h0
    | j + 1, hj => exact absurd hj (by simp))
  refine hc.mono fun e W' ⟨he, bel⟩ => ?_
  subst he
  exact ⟨_, rfl, _, _, _, [], _, [], hW', trodAll_mk1 (shut_bool Tryz.underlying4 _), (trodAll_cons_mk (Below.trod laid (by kernel_rfl) (of_decide_eq_true (by kernel_rfl)) h0 bel hlt0) (trodAll_mk0)), rfl, bel.frame _, fun h => by cases h⟩
set_option maxRecDepth 100000
theorem k1 : Rows.fnTurnsRow.wf (OpenSpec.ofChange Rows.fnTurnsSpec) = true := by kernel_rfl
theorem k4 : Tryz.f4.params.all (Tryz.pinned.checked.prog.readableRec ·) = true := by kernel_rfl
theorem k5 : namedTie Tryz.pinned.checked.prog Rows.fnTurnsRow.named Rows.fnTurnsSpec.vars = true := by kernel_rfl
theorem k6 : (Rows.fnTurnsRow.stops == []) = true := by kernel_rfl
theorem k8 : (Rows.fnTurnsRow.knobs == []) = true := by kernel_rfl
theorem k10 : (Rows.fnTurnsRow.inPlace == Tryz.pinned.checked.prog.inPlace 4) = true := by kernel_rfl
theorem k11 : (Rows.fnTurnsRow.unfollowed == Tryz.pinned.checked.prog.unfollowed 4) = true := by kernel_rfl
theorem k12 : (Rows.fnTurnsRow.recurses == Tryz.pinned.checked.prog.recurses 4) = true := by kernel_rfl
theorem k13 : (Rows.fnTurnsRow.named == Tryz.pinned.checked.prog.varsNamed 4) = true := by kernel_rfl
theorem k14 : (Rows.fnTurnsRow.maps == (Tryz.f4.params.toList ++ Rows.fnTurnsSpec.plain.varTypes Tryz.pinned.checked.prog).any (Tryz.pinned.checked.prog.mapsRec ·)) = true := by kernel_rfl
theorem k15 : (Rows.fnTurnsRow.ifaces == (Tryz.f4.params.toList ++ Rows.fnTurnsSpec.plain.varTypes Tryz.pinned.checked.prog).any (Tryz.pinned.checked.prog.ifacesRec ·)) = true := by kernel_rfl
theorem k16 : (Rows.fnTurnsRow.mapsOut == Tryz.pinned.checked.prog.mapsAmong Tryz.f4.resultTypes.toList) = true := by kernel_rfl
theorem k17 : (Rows.fnTurnsRow.loops == (Tryz.f4.params.toList ++ Rows.fnTurnsSpec.plain.varTypes Tryz.pinned.checked.prog).any (Tryz.pinned.checked.prog.loopsFrom ·)) = true := by kernel_rfl
theorem k17b : (Rows.fnTurnsRow.wideKeys == (Tryz.f4.params.toList ++ Rows.fnTurnsSpec.plain.varTypes Tryz.pinned.checked.prog ++ Tryz.f4.resultTypes.toList).any (Tryz.pinned.checked.prog.wideKeysFrom ·)) = true := by kernel_rfl
theorem k18 : Rows.fnTurnsSpec.vars.all (Tryz.pinned.checked.prog.varReadable ·) = true := by kernel_rfl
theorem k19 : Tryz.f4.resultTypes.all (fun t => Tryz.pinned.checked.prog.readableRec t && decide (t < Tryz.pinned.checked.prog.types.size)) = true := by kernel_rfl
theorem k20 : (Rows.fnTurnsRow.ifacesOut == Tryz.f4.resultTypes.toList.any (Tryz.pinned.checked.prog.ifacesRec ·)) = true := by kernel_rfl
theorem k21 : (Rows.fnTurnsRow.loopsOut == Tryz.f4.resultTypes.toList.any (Tryz.pinned.checked.prog.loopsFrom ·)) = true := by kernel_rfl
theorem k22 : (Rows.fnTurnsRow.plainKeys == Tryz.pinned.checked.prog.plainKeys) = true := by kernel_rfl
theorem k23 : Rows.fnTurnsRow.shortTexts.isNone = true := by kernel_rfl
theorem k25 : (Rows.fnTurnsRow.kinds == (if Rows.fnTurnsRow.domain.isEmpty then [] else Tryz.f4.params.toList.map fun t => match Tryz.pinned.checked.prog.underlying t with | some (.int k) => some k | _ => none)) = true := by kernel_rfl
theorem k26 : (Rows.fnTurnsRow.pinned == Rows.fnTurnsRow.pinnedBy) = true := by kernel_rfl
theorem k27 : (Rows.fnTurnsRow.veiled == (Tryz.f4.params.toList ++ Rows.fnTurnsSpec.plain.varTypes Tryz.pinned.checked.prog ++ Tryz.f4.resultTypes.toList).any (Tryz.pinned.checked.prog.veiledRec ·)) = true := by kernel_rfl
theorem k28 : Rows.fnTurnsRow.veiledFits Tryz.pinned.checked.prog Tryz.f4.params.toList (Tryz.f4.params.toList ++ Rows.fnTurnsSpec.plain.varTypes Tryz.pinned.checked.prog ++ Tryz.f4.resultTypes.toList) = true := by kernel_rfl
theorem closed : joinedFacts Tryz.pinned.checked.prog 4 Tryz.f4 Rows.fnTurnsSpec Rows.fnTurnsRow = true := by
  unfold joinedFacts
  exact (jf.andI (jf.andI (jf.andI (jf.andI (jf.andI (jf.andI (jf.andI (jf.andI (jf.andI (jf.andI (jf.andI (jf.andI (jf.andI (jf.andI (jf.andI (jf.andI (jf.andI (jf.andI (jf.andI (jf.andI (jf.andI (jf.andI (jf.andI (jf.andI (jf.andI (jf.andI (jf.andI (jf.andI (jf.andI (jf.andI (jf.andI k1 jf.p1) jf.p2) k4) k5) k6) jf.p3) k8) jf.p4) k10) k11) k12) k13) k14) k15) k16) k17) k17b) k18) k19) k20) k21) k22) k23) jf.p6) jf.p7) (jf.beq_false jf.p8 rfl)) (jf.beq_make jf.p9 rfl)) k25) k26) k27) k28)
theorem over : Rows.fnTurnsRow.holds Tryz.pinned (OpenSpec.ofChange Rows.fnTurnsSpec) :=
  OpenClaim.holds_of_wide 4 Tryz.f4 rfl rfl rfl rfl rfl rfl rfl ⟨rfl, rfl, rfl, rfl, rfl⟩ rfl rfl rfl rfl rfl (by kernel_rfl) Tryz.func4 closed
    (of_decide_eq_true (by kernel_rfl)) (by unfold Func.isWrapper; first | (rw [if_pos (by decide +kernel)]; kernel_rfl) | (rw [if_neg (by decide +kernel)]; exact ⟨rfl, rfl⟩))
    (fun os started H enc _ => lifted os started H enc)
theorem proved : Rows.FnTurnsSaid := over
#print axioms proved
end Go.Proofs.YtakcaanpnmkccaaGreat.fnTurns
namespace Go.Proofs.YtakcaanpnmkccaaGreat
/-- The row, under a short name, for the claim. -/
theorem fnTurns_holds : Rows.FnTurnsSaid := fnTurns.proved
end Go.Proofs.YtakcaanpnmkccaaGreat
