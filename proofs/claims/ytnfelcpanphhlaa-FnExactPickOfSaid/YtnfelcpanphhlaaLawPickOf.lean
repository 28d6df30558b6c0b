/- The program's PickOf: the law FnExactPickOf holds at all arguments. Conditions: none. -/
import Derived.Test.YtnfelcpanphhlaaRows
import Derived.Test.YtnfelcpanphhlaaK32
import Derived.Test.YtnfelcpanphhlaaX0
import Derived.Test.YtnfelcpanphhlaaC3
import Derived.WalkKit
import Derived.ProofKit
import Derived.OpenShut
import Derived.ChangeOld
import Derived.Below
import Derived.Carry
import Derived.SizedLaws
namespace Go.Proofs.Ytnfelcpanphhlaa.fnExactPickOf
open Go.ChangeShapes Go.WideShapes Go.ChangeAt Go.RowKit Go.Av
set_option linter.unusedVariables false
theorem own : ownKnob Try.prog.godebug = none := by kernel_rfl
theorem laid : laidOutB Try.prog = true := by kernel_rfl
set_option maxRecDepth 100000 in
theorem lifted (os : Os) (started : os.Started) (H : Type) (enc : TypeId × Value → H) :
    ReturnsInHanded {} Try.checked os 11 .any (Rows.fnExactPickOfSpec.pre6 enc Try.prog Try.f11 Rows.fnExactPickOfRow.domain false) (Rows.fnExactPickOfSpec.post enc Try.prog Try.f11 false true false false) := by
  refine returnsInHanded_of_change_sized (C := Try.checked) own started (by kernel_rfl) Try.func11
    (ChangeSpec.witness6 (enc := enc) (C := Try.checked) false ⟨#[], #[.int .i64 0, .slice none 0 0, .slice none 0 0], []⟩ 8 (by kernel_rfl) (by kernel_rfl) (by kernel_rfl) (by kernel_rfl)) ?_
  intro W base args ds gs before hval0 hW hcnd hsz0 _
  have hval : ∀ (j : Nat) t v, Try.f11.params[j]? = some t → args[j]? = some v → Value.okWide Try.prog W .any base t v := hval0
  have hW' := hW
  obtain ⟨p, q, hA0, hV, rfl, hfz, hnd⟩ := hW
  have hA : DataW.TrodAll enc Try.prog W 0 (fun _ => true) true Try.f11.params.toList args.toList ds p := hA0
  rw [Try.params11] at hA hval
  obtain ⟨v0, vs0, d0, ds0, p0, q0, hargs, rfl, rfl, h0, r0⟩ := trodAll_cons hA
  obtain ⟨v1, vs1, d1, ds1, p1, q1, rfl, rfl, rfl, h1, r1⟩ := trodAll_cons r0
  obtain ⟨v2, vs2, d2, ds2, p2, q2, rfl, rfl, rfl, h2, r2⟩ := trodAll_cons r1
  obtain ⟨rfl, rfl, rfl⟩ := trodAll_nil r2
  obtain rfl : args = #[v0, v1, v2] := by cases args; simp_all
  obtain ⟨rfl, rfl⟩ := trodVars_none hV
  have w0 := hval 0 2 v0 rfl rfl
  have w1 := hval 1 42 v1 rfl rfl
  have w2 := hval 2 30 v2 rfl rfl
  obtain ⟨x0, b0, l0⟩ := ta_int.arg (by kernel_rfl) h0
  obtain ⟨x1, b1, l1⟩ := ta_LMsg.arg (by kernel_rfl) h1
  obtain ⟨x2, b2, l2⟩ := ta_Lint.arg (by kernel_rfl) h2
  have hlt0 : ∀ x ∈ p0, x.block < W.heap.size := fun x hx => by simpa using hW'.lt x (by simp [hx])
  have hlt1 : ∀ x ∈ p1, x.block < W.heap.size := fun x hx => by simpa using hW'.lt x (by simp [hx])
  have hlt2 : ∀ x ∈ p2, x.block < W.heap.size := fun x hx => by simpa using hW'.lt x (by simp [hx])
  clear hA0 hval0 hsz0
  have hc := calls_of_sound so11 (args := [argD Try.prog 9 2 d0, argD Try.prog 9 42 d1, argD Try.prog 9 30 d2]) (b := true) rfl ⟨x0, x1, x2, args_of_vles ⟨l0, l1, l2, trivial⟩, ⟨b0, b1, b2⟩⟩ (vals := #[v0, v1, v2]) (W := W) rfl (fun j hj => by
    match j, hj with
    | 0, _ => exact law_arg (by kernel_rfl) w0 h0
    | 1, _ => exact law_arg (by kernel_rfl) w1 h1
    | 2, _ => exact law_arg (by kernel_rfl) w2 h2
    | j + 3, hj => exact absurd hj (by simp))
  refine hc.mono fun e W' ⟨he, bel⟩ => ?_
  subst he
  exact ⟨_, rfl, _, _, _, [], _, [], hW', trodAll_mk1 (shut_bool Try.underlying4 _), (trodAll_cons_mk (Below.trod laid (by kernel_rfl) (of_decide_eq_true (by kernel_rfl)) h0 bel hlt0) (trodAll_cons_mk (Below.trod laid (by kernel_rfl) (of_decide_eq_true (by kernel_rfl)) h1 bel hlt1) (trodAll_cons_mk (Below.trod laid (by kernel_rfl) (of_decide_eq_true (by kernel_rfl)) h2 bel hlt2) (trodAll_mk0)))), rfl, bel.frame _, fun h => by cases h⟩
set_option maxRecDepth 100000
theorem k1 : Rows.fnExactPickOfRow.wf (OpenSpec.ofChange Rows.fnExactPickOfSpec) = true := by kernel_rfl
theorem k4 : Try.f11.params.all (Try.pinned.checked.prog.readableRec ·) = true := by kernel_rfl
theorem k5 : namedTie Try.pinned.checked.prog Rows.fnExactPickOfRow.named Rows.fnExactPickOfSpec.vars = true := by kernel_rfl
theorem k6 : (Rows.fnExactPickOfRow.stops == []) = true := by kernel_rfl
theorem k8 : (Rows.fnExactPickOfRow.knobs == []) = true := by kernel_rfl
theorem k10 : (Rows.fnExactPickOfRow.inPlace == Try.pinned.checked.prog.inPlace 11) = true := by kernel_rfl
theorem k11 : (Rows.fnExactPickOfRow.unfollowed == Try.pinned.checked.prog.unfollowed 11) = true := by kernel_rfl
theorem k12 : (Rows.fnExactPickOfRow.recurses == Try.pinned.checked.prog.recurses 11) = true := by kernel_rfl
theorem k13 : (Rows.fnExactPickOfRow.named == Try.pinned.checked.prog.varsNamed 11) = true := by kernel_rfl
theorem k14 : (Rows.fnExactPickOfRow.maps == (Try.f11.params.toList ++ Rows.fnExactPickOfSpec.plain.varTypes Try.pinned.checked.prog).any (Try.pinned.checked.prog.mapsRec ·)) = true := by kernel_rfl
theorem k15 : (Rows.fnExactPickOfRow.ifaces == (Try.f11.params.toList ++ Rows.fnExactPickOfSpec.plain.varTypes Try.pinned.checked.prog).any (Try.pinned.checked.prog.ifacesRec ·)) = true := by kernel_rfl
theorem k16 : (Rows.fnExactPickOfRow.mapsOut == Try.pinned.checked.prog.mapsAmong Try.f11.resultTypes.toList) = true := by kernel_rfl
theorem k17 : (Rows.fnExactPickOfRow.loops == (Try.f11.params.toList ++ Rows.fnExactPickOfSpec.plain.varTypes Try.pinned.checked.prog).any (Try.pinned.checked.prog.loopsFrom ·)) = true := by kernel_rfl
theorem k17b : (Rows.fnExactPickOfRow.wideKeys == (Try.f11.params.toList ++ Rows.fnExactPickOfSpec.plain.varTypes Try.pinned.checked.prog ++ Try.f11.resultTypes.toList).any (Try.pinned.checked.prog.wideKeysFrom ·)) = true := by kernel_rfl
theorem k18 : Rows.fnExactPickOfSpec.vars.all (Try.pinned.checked.prog.varReadable ·) = true := by kernel_rfl
theorem k19 : Try.f11.resultTypes.all (fun t => Try.pinned.checked.prog.readableRec t && decide (t < Try.pinned.checked.prog.types.size)) = true := by kernel_rfl
theorem k20 : (Rows.fnExactPickOfRow.ifacesOut == Try.f11.resultTypes.toList.any (Try.pinned.checked.prog.ifacesRec ·)) = true := by kernel_rfl
theorem k21 : (Rows.fnExactPickOfRow.loopsOut == Try.f11.resultTypes.toList.any (Try.pinned.checked.prog.loopsFrom ·)) = true := by kernel_rfl
theorem k22 : (Rows.fnExactPickOfRow.plainKeys == Try.pinned.checked.prog.plainKeys) = true := by kernel_rfl
theorem k23 : Rows.fnExactPickOfRow.shortTexts.isNone = true := by kernel_rfl
theorem k25 : (Rows.fnExactPickOfRow.kinds == (if Rows.fnExactPickOfRow.domain.isEmpty then [] else Try.f11.params.toList.map fun t => match Try.pinned.checked.prog.underlying t with | some (.int k) => some k | _ => none)) = true := by kernel_rfl
theorem k26 : (Rows.fnExactPickOfRow.pinned == Rows.fnExactPickOfRow.pinnedBy) = true := by kernel_rfl
theorem k27 : (Rows.fnExactPickOfRow.veiled == (Try.f11.params.toList ++ Rows.fnExactPickOfSpec.plain.varTypes Try.pinned.checked.prog ++ Try.f11.resultTypes.toList).any (Try.pinned.checked.prog.veiledRec ·)) = true := by kernel_rfl
theorem k28 : Rows.fnExactPickOfRow.veiledFits Try.pinned.checked.prog Try.f11.params.toList (Try.f11.params.toList ++ Rows.fnExactPickOfSpec.plain.varTypes Try.pinned.checked.prog ++ Try.f11.resultTypes.toList) = true := by kernel_rfl
theorem closed : joinedFacts Try.pinned.checked.prog 11 Try.f11 Rows.fnExactPickOfSpec Rows.fnExactPickOfRow = true := by
  unfold joinedFacts
  exact (jf.andI (jf.andI (jf.andI (jf.andI (jf.andI (jf.andI (jf.andI (jf.andI (jf.andI (jf.andI (jf.andI (jf.andI (jf.andI (jf.andI (jf.andI (jf.andI (jf.andI (jf.andI (jf.andI (jf.andI (jf.andI (jf.andI (jf.andI (jf.andI (jf.andI (jf.andI (jf.andI (jf.andI (jf.andI (jf.andI (jf.andI k1 jf.p1) jf.p2) k4) k5) k6) jf.p3) k8) jf.p4) k10) k11) k12) k13) k14) k15) k16) k17) k17b) k18) k19) k20) k21) k22) k23) jf.p6) jf.p7) (jf.beq_false jf.p8 rfl)) (jf.beq_make jf.p9 rfl)) k25) k26) k27) k28)
theorem over : Rows.fnExactPickOfRow.holds Try.pinned (OpenSpec.ofChange Rows.fnExactPickOfSpec) :=
  OpenClaim.holds_of_wide 11 Try.f11 rfl rfl rfl rfl rfl rfl rfl ⟨rfl, rfl, rfl, rfl, rfl⟩ rfl rfl rfl rfl rfl (by kernel_rfl) Try.func11 closed
    (of_decide_eq_true (by kernel_rfl)) (by unfold Func.isWrapper; first | (rw [if_pos (by decide +kernel)]; kernel_rfl) | (rw [if_neg (by decide +kernel)]; exact ⟨rfl, rfl⟩))
    (fun os started H enc _ => lifted os started H enc)
theorem proved : Rows.FnExactPickOfSaid := over
#print axioms proved
end Go.Proofs.Ytnfelcpanphhlaa.fnExactPickOf
namespace Go.Proofs.Ytnfelcpanphhlaa
/-- The row, under a short name, for the claim. -/
theorem fnExactPickOf_holds : Rows.FnExactPickOfSaid := fnExactPickOf.proved
end Go.Proofs.Ytnfelcpanphhlaa
