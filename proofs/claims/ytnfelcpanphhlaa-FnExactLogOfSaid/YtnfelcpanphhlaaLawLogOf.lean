/- The program's LogOf: the law FnExactLogOf holds at all arguments. Conditions: none. -/
import Derived.Test.YtnfelcpanphhlaaRows
import Derived.Test.YtnfelcpanphhlaaK9
import Derived.Test.YtnfelcpanphhlaaX0
import Derived.Test.YtnfelcpanphhlaaC3
import Derived.WalkKit
import Derived.ProofKit
import Derived.OpenShut
import Derived.ChangeOld
import Derived.Below
import Derived.Carry
import Derived.SizedLaws
namespace Go.Proofs.Ytnfelcpanphhlaa.fnExactLogOf
open Go.ChangeShapes Go.WideShapes Go.ChangeAt Go.RowKit Go.Av
set_option linter.unusedVariables false
theorem own : ownKnob Try.prog.godebug = none := by kernel_rfl
theorem laid : laidOutB Try.prog = true := by kernel_rfl
set_option maxRecDepth 100000 in
theorem lifted (os : Os) (started : os.Started) (H : Type) (enc : TypeId × Value → H) :
    ReturnsInHanded {} Try.checked os 19 .any (Rows.fnExactLogOfSpec.pre6 enc Try.prog Try.f19 Rows.fnExactLogOfRow.domain false) (Rows.fnExactLogOfSpec.post enc Try.prog Try.f19 false true false false) := by
  refine returnsInHanded_of_change_sized (C := Try.checked) own started (by kernel_rfl) Try.func19
    (ChangeSpec.witness6 (enc := enc) (C := Try.checked) false ⟨#[], #[.int .i64 0, .slice none 0 0], []⟩ 8 (by kernel_rfl) (by kernel_rfl) (by kernel_rfl) (by kernel_rfl)) ?_
  intro W base args ds gs before hval0 hW hcnd hsz0 _
  have hval : ∀ (j : Nat) t v, Try.f19.params[j]? = some t → args[j]? = some v → Value.okWide Try.prog W .any base t v := hval0
  have hW' := hW
  obtain ⟨p, q, hA0, hV, rfl, hfz, hnd⟩ := hW
  have hA : DataW.TrodAll enc Try.prog W 0 (fun _ => true) true Try.f19.params.toList args.toList ds p := hA0
  rw [Try.params19] at hA hval
  obtain ⟨v0, vs0, d0, ds0, p0, q0, hargs, rfl, rfl, h0, r0⟩ := trodAll_cons hA
  obtain ⟨v1, vs1, d1, ds1, p1, q1, rfl, rfl, rfl, h1, r1⟩ := trodAll_cons r0
  obtain ⟨rfl, rfl, rfl⟩ := trodAll_nil r1
  obtain rfl : args = #[v0, v1] := by cases args; simp_all
  obtain ⟨rfl, rfl⟩ := trodVars_none hV
  have w0 := hval 0 2 v0 rfl rfl
  have w1 := hval 1 42 v1 rfl rfl
  obtain ⟨x0, b0, l0⟩ := ta_int.arg (by kernel_rfl) h0
  obtain ⟨x1, b1, l1⟩ := ta_LMsg.arg (by kernel_rfl) h1
  have hlt0 : ∀ x ∈ p0, x.block < W.heap.size := fun x hx => by simpa using hW'.lt x (by simp [hx])
  have hlt1 : ∀ x ∈ p1, x.block < W.heap.size := fun x hx => by simpa using hW'.lt x (by simp [hx])
  clear hA0 hval0 hsz0
  have hc := calls_of_sound so19 (args := [argD Try.prog 9 2 d0, argD Try.prog 9 42 d1]) (b := true) rfl ⟨x0, x1, args_of_vles ⟨l0, l1, trivial⟩, ⟨b0, b1⟩⟩ (vals := #[v0, v1]) (W := W) rfl (fun j hj => by
    match j, hj with
    | 0, _ => exact law_arg (by kernel_rfl) w0 h0
    | 1, _ => exact law_arg (by kernel_rfl) w1 h1
    | j + 2, hj => exact absurd hj (by simp))
  refine hc.mono fun e W' ⟨he, bel⟩ => ?_
  subst he
  exact ⟨_, rfl, _, _, _, [], _, [], hW', trodAll_mk1 (shut_bool Try.underlying4 _), (trodAll_cons_mk (Below.trod laid (by kernel_rfl) (of_decide_eq_true (by kernel_rfl)) h0 bel hlt0) (trodAll_cons_mk (Below.trod laid (by kernel_rfl) (of_decide_eq_true (by kernel_rfl)) h1 bel hlt1) (trodAll_mk0))), rfl, bel.frame _, fun h => by cases h⟩
set_option maxRecDepth 100000
theorem k1 : Rows.fnExactLogOfRow.wf (OpenSpec.ofChange Rows.fnExactLogOfSpec) = true := by kernel_rfl
theorem k4 : Try.f19.params.all (Try.pinned.checked.prog.readableRec ·) = true := by kernel_rfl
theorem k5 : namedTie Try.pinned.checked.prog Rows.fnExactLogOfRow.named Rows.fnExactLogOfSpec.vars = true := by kernel_rfl
theorem k6 : (Rows.fnExactLogOfRow.stops == []) = true := by kernel_rfl
theorem k8 : (Rows.fnExactLogOfRow.knobs == []) = true := by kernel_rfl
theorem k10 : (Rows.fnExactLogOfRow.inPlace == Try.pinned.checked.prog.inPlace 19) = true := by kernel_rfl
theorem k11 : (Rows.fnExactLogOfRow.unfollowed == Try.pinned.checked.prog.unfollowed 19) = true := by kernel_rfl
theorem k12 : (Rows.fnExactLogOfRow.recurses == Try.pinned.checked.prog.recurses 19) = true := by kernel_rfl
theorem k13 : (Rows.fnExactLogOfRow.named == Try.pinned.checked.prog.varsNamed 19) = true := by kernel_rfl
theorem k14 : (Rows.fnExactLogOfRow.maps == (Try.f19.params.toList ++ Rows.fnExactLogOfSpec.plain.varTypes Try.pinned.checked.prog).any (Try.pinned.checked.prog.mapsRec ·)) = true := by kernel_rfl
theorem k15 : (Rows.fnExactLogOfRow.ifaces == (Try.f19.params.toList ++ Rows.fnExactLogOfSpec.plain.varTypes Try.pinned.checked.prog).any (Try.pinned.checked.prog.ifacesRec ·)) = true := by kernel_rfl
theorem k16 : (Rows.fnExactLogOfRow.mapsOut == Try.pinned.checked.prog.mapsAmong Try.f19.resultTypes.toList) = true := by kernel_rfl
theorem k17 : (Rows.fnExactLogOfRow.loops == (Try.f19.params.toList ++ Rows.fnExactLogOfSpec.plain.varTypes Try.pinned.checked.prog).any (Try.pinned.checked.prog.loopsFrom ·)) = true := by kernel_rfl
theorem k17b : (Rows.fnExactLogOfRow.wideKeys == (Try.f19.params.toList ++ Rows.fnExactLogOfSpec.plain.varTypes Try.pinned.checked.prog ++ Try.f19.resultTypes.toList).any (Try.pinned.checked.prog.wideKeysFrom ·)) = true := by kernel_rfl
theorem k18 : Rows.fnExactLogOfSpec.vars.all (Try.pinned.checked.prog.varReadable ·) = true := by kernel_rfl
theorem k19 : Try.f19.resultTypes.all (fun t => Try.pinned.checked.prog.readableRec t && decide (t < Try.pinned.checked.prog.types.size)) = true := by kernel_rfl
theorem k20 : (Rows.fnExactLogOfRow.ifacesOut == Try.f19.resultTypes.toList.any (Try.pinned.checked.prog.ifacesRec ·)) = true := by kernel_rfl
theorem k21 : (Rows.fnExactLogOfRow.loopsOut == Try.f19.resultTypes.toList.any (Try.pinned.checked.prog.loopsFrom ·)) = true := by kernel_rfl
theorem k22 : (Rows.fnExactLogOfRow.plainKeys == Try.pinned.checked.prog.plainKeys) = true := by kernel_rfl
theorem k23 : Rows.fnExactLogOfRow.shortTexts.isNone = true := by kernel_rfl
theorem k25 : (Rows.fnExactLogOfRow.kinds == (if Rows.fnExactLogOfRow.domain.isEmpty then [] else Try.f19.params.toList.map fun t => match Try.pinned.checked.prog.underlying t with | some (.int k) => some k | _ => none)) = true := by kernel_rfl
theorem k26 : (Rows.fnExactLogOfRow.pinned == Rows.fnExactLogOfRow.pinnedBy) = true := by kernel_rfl
theorem k27 : (Rows.fnExactLogOfRow.veiled == (Try.f19.params.toList ++ Rows.fnExactLogOfSpec.plain.varTypes Try.pinned.checked.prog ++ Try.f19.resultTypes.toList).any (Try.pinned.checked.prog.veiledRec ·)) = true := by kernel_rfl
theorem k28 : Rows.fnExactLogOfRow.veiledFits Try.pinned.checked.prog Try.f19.params.toList (Try.f19.params.toList ++ Rows.fnExactLogOfSpec.plain.varTypes Try.pinned.checked.prog ++ Try.f19.resultTypes.toList) = true := by kernel_rfl
theorem closed : joinedFacts Try.pinned.checked.prog 19 Try.f19 Rows.fnExactLogOfSpec Rows.fnExactLogOfRow = true := by
  unfold joinedFacts
  exact (jf.andI (jf.andI (jf.andI (jf.andI (jf.andI (jf.andI (jf.andI (jf.andI (jf.andI (jf.andI (jf.andI (jf.andI (jf.andI (jf.andI (jf.andI (jf.andI (jf.andI (jf.andI (jf.andI (jf.andI (jf.andI (jf.andI (jf.andI (jf.andI (jf.andI (jf.andI (jf.andI (jf.andI (jf.andI (jf.andI (jf.andI k1 jf.p1) jf.p2) k4) k5) k6) jf.p3) k8) jf.p4) k10) k11) k12) k13) k14) k15) k16) k17) k17b) k18) k19) k20) k21) k22) k23) jf.p6) jf.p7) (jf.beq_false jf.p8 rfl)) (jf.beq_make jf.p9 rfl)) k25) k26) k27) k28)
theorem over : Rows.fnExactLogOfRow.holds Try.pinned (OpenSpec.ofChange Rows.fnExactLogOfSpec) :=
  OpenClaim.holds_of_wide 19 Try.f19 rfl rfl rfl rfl rfl rfl rfl ⟨rfl, rfl, rfl, rfl, rfl⟩ rfl rfl rfl rfl rfl (by kernel_rfl) Try.func19 closed
    (of_decide_eq_true (by kernel_rfl)) (by unfold Func.isWrapper; first | (rw [if_pos (by decide +kernel)]; kernel_rfl) | (rw [if_neg (by decide +kernel)]; exact ⟨rfl, rfl⟩))
    (fun os started H enc _ => lifted os started H enc)
theorem proved : Rows.FnExactLogOfSaid := over
#print axioms proved
end Go.Proofs.Ytnfelcpanphhlaa.fnExactLogOf
namespace Go.Proofs.Ytnfelcpanphhlaa
/-- The row, under a short name, for the claim. -/
theorem fnExactLogOf_holds : Rows.FnExactLogOfSaid := fnExactLogOf.proved
end Go.Proofs.Ytnfelcpanphhlaa
