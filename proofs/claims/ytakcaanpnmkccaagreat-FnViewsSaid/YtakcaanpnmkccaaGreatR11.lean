/- The law on views: one begins just with enough changes that are right, each of another one. -/
import Derived.Test.YtakcaanpnmkccaaGreatR9
import Derived.Test.YtakcaanpnmkccaaGreatR5b
import Derived.Test.YtakcaanpnmkccaaGreatR5a
import Derived.Test.YtakcaanpnmkccaaGreatK10
import Derived.Test.YtakcaanpnmkccaaGreatK31
namespace Go.Av
open Go.Proofs
set_option maxRecDepth 100000
set_option maxHeartbeats 2000000
set_option linter.unusedVariables false
set_option linter.unusedSimpArgs false

theorem okX_code {code : List Int} (h1 : code.length ≤ 1048576) (h2 : ∀ x ∈ code, (Lit.int .u8 x).wf = true) : okX code 0 := by
  refine ⟨h1, fun x hx => ?_, by omega, by omega⟩
  have := h2 x hx
  simp [Lit.wf, IntKind.min, IntKind.max, IntKind.bits, IntKind.signed] at this
  omega
theorem chTo_ok (f : Int) (l : List Msg) (view : Int) : ∀ i, ∀ p ∈ chTo f l view i, changeOk f l p
  | 0, p, hp => by simp [chTo] at hp
  | i + 1, p, hp => by
    unfold chTo chStep at hp
    split at hp
    · rename_i h
      rcases List.mem_append.1 hp with hp | hp
      · exact chTo_ok f l view i p hp
      · have : p = i := by simpa using hp
        subst this
        exact h.2.2.2
    · exact chTo_ok f l view i p hp
noncomputable def wF (code : List Int) : Int := drawF code (wrong10 code 0).2
noncomputable def wL (code : List Int) : List Msg := (wrong10 code 0).1
noncomputable def wA (code : List Int) : Int := (placeD code ((wrong10 code 0).2 + 1) (wrong10 code 0).1 5).1
noncomputable def wM (code : List Int) : Msg := atM (wL code) (wA code)
noncomputable def wC (code : List Int) : List Int := chL (wF code) (wL code) 1

/-! ### impl.PickOf%c -/
def pr14c (f : Int) (l : List Msg) (refs : List Int) : Prop := bdL l ∧ refs.length ≤ 1048576
noncomputable def rs14c (f : Int) (l : List Msg) (refs : List Int) : V := .agg [.int .i64 (pickOfF f l refs).code, .undef]
noncomputable def sp14c : FSpec := fun args bin => match args, bin with
  | [.int .i64 a0, a1, a2], [] => some (VLe a1 (encL (encMsg 1) 1 (((decL decMsg) a1))) ∧ VLe a2 (encL encI 1 (((decL decI) a2))) ∧ pr14c a0 ((decL decMsg) a1) ((decL decI) a2), rs14c a0 ((decL decMsg) a1) ((decL decI) a2), [])
  | _, _ => none
noncomputable def D14c : Nat → Option (Bool × FSpec) := lk [(27, (false, sp27)), (38, (false, sp38)), (39, (false, sp39_40)), (42, (false, sp42o))]
theorem da14c : SoundAll Tryz.prog D14c := soundAll_cons so27 (soundAll_cons so38 (soundAll_cons so39_40 (soundAll_cons so42o (soundAll_nil))))
noncomputable def cx14c (f : Int) (l : List Msg) (refs : List Int) : Cx := ⟨tt, D14c, Tryz.f14.ntmps, [0, 1, 2, 4, 6, 7, 12, 19, 23], [], [], fun _ => none, [], noM, []⟩
theorem bd14c (f : Int) (l : List Msg) (refs : List Int) (hpre : pr14c f l refs) : bodyP (cx14c f l refs) Tryz.f14 0 [.int .i64 (f), encL (encMsg 1) 1 (l), encL encI 1 (refs)] (fun rr => VLe rr (rs14c f l refs)) := by
  have key :
      (((VLe (encL (encMsg 1) 1 l)
   (encL (encMsg 1) 1 (decL decMsg (encL (encMsg 1) 1 l)))) ∧
   (pr27 f (decL decMsg (encL (encMsg 1) 1 l)))) ∧
   ((((ledgerFault f (decL decMsg (encL (encMsg 1) 1 l)) != (0 : Int)) = true) →
   (VLe (V.agg [V.int IntKind.i64 (ledgerFault f (decL decMsg (encL (encMsg 1) 1 l))), V.nil])
   (V.agg [V.int IntKind.i64 (IntsResult.code (pickOfF f l refs)), V.undef]))) ∧
   (((ledgerFault f (decL decMsg (encL (encMsg 1) 1 l)) != (0 : Int)) = false) →
   ((pr38 f) ∧
   (((decide ((↑(List.length refs) : Int) > (3 : Int) * f + (1 : Int)) = true) →
   (VLe (V.agg [V.int IntKind.i64 (2 : Int), V.nil])
   (V.agg [V.int IntKind.i64 (IntsResult.code (pickOfF f l refs)), V.undef]))) ∧
   ((decide ((↑(List.length refs) : Int) > (3 : Int) * f + (1 : Int)) = false) →
   (((VLe (encL encI 1 refs) (encL encI 1 (decL decI (encL encI 1 refs)))) ∧
   ((VLe (V.ptr [encL (encMsg 1) 1 l] 0 1)
   (encPL (encMsg 1) 1 (decPL decMsg (V.ptr [encL (encMsg 1) 1 l] 0 1)))) ∧
   (pr39_40 (decL decI (encL encI 1 refs))
   (decPL decMsg (V.ptr [encL (encMsg 1) 1 l] 0 1))))) ∧
   ((((List.any (decL decI (encL encI 1 refs)) fun (r : Int) ↦
   decide ¬isAt (decPL decMsg (V.ptr [encL (encMsg 1) 1 l] 0 1)) r (4 : Int)) =
   true) →
   (VLe (V.agg [V.int IntKind.i64 (4 : Int), V.nil])
   (V.agg [V.int IntKind.i64 (IntsResult.code (pickOfF f l refs)), V.undef]))) ∧
   (((List.any (decL decI (encL encI 1 refs)) fun (r : Int) ↦
   decide ¬isAt (decPL decMsg (V.ptr [encL (encMsg 1) 1 l] 0 1)) r (4 : Int)) =
   false) →
   (((VLe (encL (encMsg 1) 1 l)
   (encL (encMsg 1) 1 (decL decMsg (encL (encMsg 1) 1 l)))) ∧
   ((VLe (encL encI 1 refs) (encL encI 1 (decL decI (encL encI 1 refs)))) ∧
   (pr42o (decL decMsg (encL (encMsg 1) 1 l)) (decL decI (encL encI 1 refs))))) ∧
   (VLe
   (V.agg
   [V.int IntKind.i64 (0 : Int),
   encL encI 0
   (ro42o (decL decMsg (encL (encMsg 1) 1 l)) (decL decI (encL encI 1 refs)))])
   (V.agg [V.int IntKind.i64 (IntsResult.code (pickOfF f l refs)), V.undef])))))))))))) := by
    obtain ⟨hl, hb⟩ := hpre
    simp only [decL_Msg, decL_ints, decPL_Msg, ro42o]
    refine ⟨⟨VLe.refl _, hl⟩, fun h => ?_, fun h => ?_⟩
    · have e : pickOfF f l refs = ⟨ledgerFault f l, []⟩ := if_pos (by simpa using h)
      rw [e]
      exact vle_agg ⟨VLe.refl _, vle_undef _, trivial⟩
    have h0 : ledgerFault f l = 0 := by simpa using h
    have hr := right_of h0
    have hf : 1 ≤ f ∧ f ≤ 2 := by have := hr.okf; unfold okF at this; omega
    have e0 : pickOfF f l refs = if 3 * f + 1 < (refs.length : Int) then ⟨2, []⟩ else if ¬ pickOk l refs then ⟨4, []⟩ else ⟨0, pickL l refs⟩ := if_neg (not_not_intro h0)
    refine ⟨hr.okf, fun h => ?_, fun h => ?_⟩
    · have e : pickOfF f l refs = ⟨2, []⟩ := by rw [e0, if_pos (of_decide_eq_true h)]
      rw [e]
      exact vle_agg ⟨VLe.refl _, vle_undef _, trivial⟩
    have h1 := of_decide_eq_false h
    rw [any_notOk]
    refine ⟨⟨VLe.refl _, VLe.refl _, by show refs.length ≤ maxLen; unfold maxLen; omega, hr.len⟩, fun h => ?_, fun h => ?_⟩
    · have e : pickOfF f l refs = ⟨4, []⟩ := by rw [e0, if_neg h1, if_pos (of_decide_eq_true h)]
      rw [e]
      exact vle_agg ⟨VLe.refl _, vle_undef _, trivial⟩
    · have hp := Classical.not_not.1 (of_decide_eq_false h)
      have e : pickOfF f l refs = ⟨0, pickL l refs⟩ := by rw [e0, if_neg h1, if_neg (not_not_intro hp)]
      rw [e]
      exact ⟨⟨VLe.refl _, VLe.refl _, ⟨f, hr⟩, hl, hp, by omega⟩, vle_agg ⟨VLe.refl _, vle_undef _, trivial⟩⟩
  exact Eq.mp (by kernel_rfl) key
theorem so14c : Sound Tryz.prog 14 sp14c := by
  refine sound_of_body hmix (pol := 0) Tryz.func14 rfl (by kernel_rfl) fun args bin ob r bout hDe hob => ?_
  unfold sp14c at hDe
  split at hDe
  · rename_i a0 a1 a2
    cases hDe
    exact ⟨rfl, rfl, Nat.le_of_ble_eq_true (by kernel_rfl), cx14c a0 ((decL decMsg) a1) ((decL decI) a2), Eq.mp (by kernel_rfl) htt, Eq.mp (by kernel_rfl) da14c, Eq.mp (by kernel_rfl) (noM_sound (P := Tryz.prog)), by kernel_rfl, [.int .i64 (a0), encL (encMsg 1) 1 (((decL decMsg) a1)), encL encI 1 (((decL decI) a2))], args_of_vles (⟨VLe.refl _, hob.1, hob.2.1, trivial⟩), Eq.mp (by kernel_rfl) (bd14c a0 ((decL decMsg) a1) ((decL decI) a2) (hob.2.2))⟩
  · cases hDe

/-! ### spec.DrawNewRight -/
def pr6 (code : List Int) : Prop := okX code 0
noncomputable def ro6 (code : List Int) : Int × List Msg × Int := (wF code, wL code, wA code)
noncomputable def rb6 (code : List Int) : List Blk := []
noncomputable def rs6 (code : List Int) : V := .tup [.int .i64 ((ro6 code).1), encL (encMsg 1) 2 ((ro6 code).2.1), .int .i64 ((ro6 code).2.2)]
noncomputable def sp6 : FSpec := fun args bin => match args, bin with
  | [a0], [] => some (VLe a0 (encL encY 1 (((decL decY) a0))) ∧ pr6 ((decL decY) a0), rs6 ((decL decY) a0), rb6 ((decL decY) a0))
  | _, _ => none
noncomputable def D6 : Nat → Option (Bool × FSpec) := lk [(23, (true, sp23)), (24, (true, sp24z)), (25, (true, sp25)), (26, (true, sp26))]
theorem da6 : SoundAll Tryz.prog D6 := soundAll_cons so23 (soundAll_cons so24z (soundAll_cons so25 (soundAll_cons so26 (soundAll_nil))))
noncomputable def cx6 (code : List Int) : Cx := ⟨tt, D6, Tryz.f6.ntmps, [0, 2, 3, 4, 5, 6], [], [], fun _ => none, [], noM, []⟩
theorem bd6 (code : List Int) (hpre : pr6 code) : bodyO (cx6 code) Tryz.f6 [] [encL encY 1 (code)] [] (fun rr bs => VLe rr (rs6 code) ∧ BinLe bs (rb6 code)) := by
  have key :
      (((VLe (encL encY 1 code) (encL encY 1 (decL decY (encL encY 1 code)))) ∧
   (pr23 (decL decY (encL encY 1 code)))) ∧
   ((((0 = 0) ∧
   ((0 = 0) ∧
   (0 = 0))) ∧
   ((VLe (encL encY 1 (decL decY (encL encY 1 code)))
   (encL encY 1 (decL decY (encL encY 1 (decL decY (encL encY 1 code)))))) ∧
   (pr24z (decL decY (encL encY 1 (decL decY (encL encY 1 code)))) (0 : Int)))) ∧
   ((((0 = 0) ∧
   ((0 = 0) ∧
   (0 = 0))) ∧
   ((VLe (encL encY 1 (decL decY (encL encY 1 (decL decY (encL encY 1 code)))))
   (encL encY 1
   (decL decY (encL encY 1 (decL decY (encL encY 1 (decL decY (encL encY 1 code)))))))) ∧
   (pr25 (decL decY (encL encY 1 (decL decY (encL encY 1 (decL decY (encL encY 1 code))))))
   (ra24z (decL decY (encL encY 1 (decL decY (encL encY 1 code)))) (0 : Int))))) ∧
   ((((0 = 0) ∧
   ((0 = 0) ∧
   (0 = 0))) ∧
   ((VLe
   (encL encY 1
   (decL decY (encL encY 1 (decL decY (encL encY 1 (decL decY (encL encY 1 code)))))))
   (encL encY 1
   (decL decY
   (encL encY 1
   (decL decY (encL encY 1 (decL decY (encL encY 1 (decL decY (encL encY 1 code)))))))))) ∧
   ((VLe
   (encL (encMsg 1) 1
   (Prod.fst (wrong10 (decL decY (encL encY 1 (decL decY (encL encY 1 code)))) (0 : Int))))
   (encL (encMsg 1) 1
   (decL decMsg
   (encL (encMsg 1) 1
   (Prod.fst (wrong10 (decL decY (encL encY 1 (decL decY (encL encY 1 code)))) (0 : Int))))))) ∧
   (pr26
   (decL decY
   (encL encY 1
   (decL decY (encL encY 1 (decL decY (encL encY 1 (decL decY (encL encY 1 code))))))))
   (ra25 (decL decY (encL encY 1 (decL decY (encL encY 1 (decL decY (encL encY 1 code))))))
   (ra24z (decL decY (encL encY 1 (decL decY (encL encY 1 code)))) (0 : Int)))
   (decL decMsg
   (encL (encMsg 1) 1
   (Prod.fst (wrong10 (decL decY (encL encY 1 (decL decY (encL encY 1 code)))) (0 : Int)))))
   (5 : Int))))) ∧
   ((VLe
   (V.tup
   [V.int IntKind.i64
   (pickF
   (decL decY (encL encY 1 (decL decY (encL encY 1 (decL decY (encL encY 1 code))))))
   (ra24z (decL decY (encL encY 1 (decL decY (encL encY 1 code)))) (0 : Int))
   [(1 : Int), (1 : Int), (1 : Int), (1 : Int), (2 : Int), (0 : Int), (1 : Int), (1 : Int), (3 : Int)]),
   encL (encMsg 1) 2
   (Prod.fst (wrong10 (decL decY (encL encY 1 (decL decY (encL encY 1 code)))) (0 : Int))),
   V.int IntKind.i64
   (Prod.fst
   (placeD
   (decL decY
   (encL encY 1
   (decL decY
   (encL encY 1 (decL decY (encL encY 1 (decL decY (encL encY 1 code))))))))
   (ra25
   (decL decY (encL encY 1 (decL decY (encL encY 1 (decL decY (encL encY 1 code))))))
   (ra24z (decL decY (encL encY 1 (decL decY (encL encY 1 code)))) (0 : Int)))
   (decL decMsg
   (encL (encMsg 1) 1
   (Prod.fst
   (wrong10 (decL decY (encL encY 1 (decL decY (encL encY 1 code)))) (0 : Int)))))
   (5 : Int)))])
   (V.tup
   [V.int IntKind.i64 (Prod.fst (wF code, wL code, wA code)),
   encL (encMsg 1) 2 (Prod.fst (wL code, wA code)), V.int IntKind.i64 (Prod.snd (wL code, wA code))])) ∧
   (True)))))) := by
    have h0 : okX code 0 := hpre
    have w := wrong10_bd h0 (by omega)
    simp only [decL_bytes, decL_Msg, ra25, ra24z]
    exact ⟨⟨VLe.refl _, trivial⟩, srcO ⟨h0, by omega⟩, srcO (h0.to (by omega) (by omega)), ⟨⟨trivial, trivial, trivial⟩, VLe.refl _, VLe.refl _, h0.to (by omega) (by omega), by omega, by omega⟩, VLe.refl _, trivial⟩
  exact Eq.mp (by kernel_rfl) key
theorem so6 : Sound Tryz.prog 6 sp6 := by
  refine sound_of_bodyO hmix (tpl := []) Tryz.func6 rfl (by kernel_rfl) fun args bin ob r bout hDe hob => ?_
  unfold sp6 at hDe
  split at hDe
  · rename_i a0
    cases hDe
    exact ⟨Nat.le_of_ble_eq_true (by kernel_rfl), cx6 ((decL decY) a0), Eq.mp (by kernel_rfl) htt, Eq.mp (by kernel_rfl) da6, Eq.mp (by kernel_rfl) (noM_sound (P := Tryz.prog)), by kernel_rfl, [encL encY 1 (((decL decY) a0))], [], args_of_vles (⟨hob.1, trivial⟩), trivial, Eq.mp (by kernel_rfl) (bd6 ((decL decY) a0) (hob.2))⟩
  · cases hDe

theorem viewD_bd {code : List Int} (h0 : okX code 0) : bdL (wL code) := by
  have w := wrong10_bd h0 (by omega)
  have e : wL code = (wrong10 code 0).1 := rfl
  rw [e]
  exact bdL_short w.1 (by omega) (by omega)

/-! ### laws.FnViews -/
def pr3 (code : List Int) : Prop := code.length ≤ maxLen ∧ ∀ x ∈ code, (Lit.int .u8 x).wf = true
noncomputable def rs3 (code : List Int) : V := .bool (true)
def Q3 (vs : List V) : Prop := ∃ (code : List Int), ArgsLe vs [encL encY 1 (code)] ∧ pr3 code
noncomputable def in3_11 (code : List Int) : LoopInv :=
  ⟨Nat, fun i => ⟨[(3, .int .i64 (wF code)), (4, encL (encMsg 1) 215 (wL code)), (5, .int .i64 (wA code)), (6, .bool (decide (ledgerFault (wF code) (wL code) = 0 ∧ newOk (wF code) (wL code) (wA code)))), (7, .oref 512 0 0), (8, .int .i64 i)], [(512, .box [.int .i64 0, .osl (canonB 512 1) (wC code).length]), (canonB 512 1, .arr 1 (wC code).length (gL encI (wC code)) tagS)]⟩,
    fun i => i ≤ (wC code).length, fun i => (wC code).length - i⟩
noncomputable def in3_19 (code : List Int) : LoopInv :=
  ⟨Nat, fun i => ⟨[(3, .int .i64 (wF code)), (4, encL (encMsg 1) 215 (wL code)), (9, .oref 640 0 0), (10, .int .i64 i)], [(640, .box (encMsg 215 (wM code)).cells)]⟩,
    fun i => i ≤ (wM code).refs.length, fun i => (wM code).refs.length - i⟩
noncomputable def iv3 (code : List Int) : Nat → Option LoopInv := fun rg_ => match rg_ with
  | 11 => some (in3_11 code)
  | 19 => some (in3_19 code)
  | _ => none
noncomputable def D3 : Nat → Option (Bool × FSpec) := lk [(5, (false, sp5)), (6, (false, sp6)), (7, (false, sp7)), (8, (false, sp8)), (9, (false, sp9o)), (10, (false, sp10o)), (11, (false, sp11)), (12, (false, sp12)), (13, (false, sp13)), (14, (false, sp14c))]
theorem da3 : SoundAll Tryz.prog D3 := soundAll_cons so5 (soundAll_cons so6 (soundAll_cons so7 (soundAll_cons so8 (soundAll_cons so9o (soundAll_cons so10o (soundAll_cons so11 (soundAll_cons so12 (soundAll_cons so13 (soundAll_cons so14c (soundAll_nil))))))))))
noncomputable def cx3 (code : List Int) : Cx := ⟨tt, D3, Tryz.f3.ntmps, [0, 2, 3, 4, 5, 6, 7, 8, 9, 10, 12, 28, 34, 50, 61, 63, 81, 106], [(11, ⟨[(3, none), (4, none), (5, none), (6, none), (7, none), (8, none)], [(512, [(1, 1)])]⟩), (19, ⟨[(3, none), (4, none), (9, none), (10, none)], [(640, [])]⟩)], [], iv3 code, [], noM, []⟩
theorem bd3 (code : List Int) (hpre : pr3 code) : bodyP (cx3 code) Tryz.f3 0 [encL encY 1 (code)] (fun rr => VLe rr (rs3 code)) := by
  have key :
      (((VLe (encL encY 1 code) (encL encY 1 (decL decY (encL encY 1 code)))) ∧
   (pr5 (decL decY (encL encY 1 code)))) ∧
   (((decide (1048576 < List.length (decL decY (encL encY 1 code))) = true) →
   (VLe (V.bool true) (V.bool true))) ∧
   ((decide (1048576 < List.length (decL decY (encL encY 1 code))) = false) →
   (((VLe (encL encY 1 code) (encL encY 1 (decL decY (encL encY 1 code)))) ∧
   (pr6 (decL decY (encL encY 1 code)))) ∧
   (((VLe
   (encL (encMsg 1) 1
   (Prod.fst (wL (decL decY (encL encY 1 code)), wA (decL decY (encL encY 1 code)))))
   (encL (encMsg 1) 1
   (decL decMsg
   (encL (encMsg 1) 1
   (Prod.fst (wL (decL decY (encL encY 1 code)), wA (decL decY (encL encY 1 code)))))))) ∧
   (pr7
   (Prod.fst
   (wF (decL decY (encL encY 1 code)), wL (decL decY (encL encY 1 code)),
   wA (decL decY (encL encY 1 code))))
   (decL decMsg
   (encL (encMsg 1) 1
   (Prod.fst (wL (decL decY (encL encY 1 code)), wA (decL decY (encL encY 1 code))))))
   (Prod.snd (wL (decL decY (encL encY 1 code)), wA (decL decY (encL encY 1 code)))))) ∧
   (((VLe
   (encL (encMsg 1) 1
   (Prod.fst (wL (decL decY (encL encY 1 code)), wA (decL decY (encL encY 1 code)))))
   (encL (encMsg 1) 1
   (decL decMsg
   (encL (encMsg 1) 1
   (Prod.fst (wL (decL decY (encL encY 1 code)), wA (decL decY (encL encY 1 code)))))))) ∧
   (pr8
   (Prod.fst
   (wF (decL decY (encL encY 1 code)), wL (decL decY (encL encY 1 code)),
   wA (decL decY (encL encY 1 code))))
   (decL decMsg
   (encL (encMsg 1) 1
   (Prod.fst (wL (decL decY (encL encY 1 code)), wA (decL decY (encL encY 1 code))))))
   (Prod.snd (wL (decL decY (encL encY 1 code)), wA (decL decY (encL encY 1 code)))))) ∧
   ((((!decide
   (ledgerFault
   (Prod.fst
   (wF (decL decY (encL encY 1 code)), wL (decL decY (encL encY 1 code)),
   wA (decL decY (encL encY 1 code))))
   (decL decMsg
   (encL (encMsg 1) 1
   (Prod.fst (wL (decL decY (encL encY 1 code)), wA (decL decY (encL encY 1 code)))))) =
   (0 : Int) ∧
   newOk
   (Prod.fst
   (wF (decL decY (encL encY 1 code)), wL (decL decY (encL encY 1 code)),
   wA (decL decY (encL encY 1 code))))
   (decL decMsg
   (encL (encMsg 1) 1
   (Prod.fst (wL (decL decY (encL encY 1 code)), wA (decL decY (encL encY 1 code))))))
   (Prod.snd (wL (decL decY (encL encY 1 code)), wA (decL decY (encL encY 1 code))))) ==
   decide
   (ledgerFault
   (Prod.fst
   (wF (decL decY (encL encY 1 code)), wL (decL decY (encL encY 1 code)),
   wA (decL decY (encL encY 1 code))))
   (decL decMsg
   (encL (encMsg 1) 1
   (Prod.fst (wL (decL decY (encL encY 1 code)), wA (decL decY (encL encY 1 code)))))) =
   (0 : Int) ∧
   newOk
   (Prod.fst
   (wF (decL decY (encL encY 1 code)), wL (decL decY (encL encY 1 code)),
   wA (decL decY (encL encY 1 code))))
   (decL decMsg
   (encL (encMsg 1) 1
   (Prod.fst (wL (decL decY (encL encY 1 code)), wA (decL decY (encL encY 1 code))))))
   (Prod.snd (wL (decL decY (encL encY 1 code)), wA (decL decY (encL encY 1 code)))))) =
   true) →
   (VLe (V.bool false) (V.bool true))) ∧
   (((!decide
   (ledgerFault
   (Prod.fst
   (wF (decL decY (encL encY 1 code)), wL (decL decY (encL encY 1 code)),
   wA (decL decY (encL encY 1 code))))
   (decL decMsg
   (encL (encMsg 1) 1
   (Prod.fst (wL (decL decY (encL encY 1 code)), wA (decL decY (encL encY 1 code)))))) =
   (0 : Int) ∧
   newOk
   (Prod.fst
   (wF (decL decY (encL encY 1 code)), wL (decL decY (encL encY 1 code)),
   wA (decL decY (encL encY 1 code))))
   (decL decMsg
   (encL (encMsg 1) 1
   (Prod.fst (wL (decL decY (encL encY 1 code)), wA (decL decY (encL encY 1 code))))))
   (Prod.snd (wL (decL decY (encL encY 1 code)), wA (decL decY (encL encY 1 code))))) ==
   decide
   (ledgerFault
   (Prod.fst
   (wF (decL decY (encL encY 1 code)), wL (decL decY (encL encY 1 code)),
   wA (decL decY (encL encY 1 code))))
   (decL decMsg
   (encL (encMsg 1) 1
   (Prod.fst (wL (decL decY (encL encY 1 code)), wA (decL decY (encL encY 1 code)))))) =
   (0 : Int) ∧
   newOk
   (Prod.fst
   (wF (decL decY (encL encY 1 code)), wL (decL decY (encL encY 1 code)),
   wA (decL decY (encL encY 1 code))))
   (decL decMsg
   (encL (encMsg 1) 1
   (Prod.fst (wL (decL decY (encL encY 1 code)), wA (decL decY (encL encY 1 code))))))
   (Prod.snd (wL (decL decY (encL encY 1 code)), wA (decL decY (encL encY 1 code)))))) =
   false) →
   (((VLe
   (encL (encMsg 1) 1
   (Prod.fst (wL (decL decY (encL encY 1 code)), wA (decL decY (encL encY 1 code)))))
   (encL (encMsg 1) 1
   (decL decMsg
   (encL (encMsg 1) 1
   (Prod.fst (wL (decL decY (encL encY 1 code)), wA (decL decY (encL encY 1 code)))))))) ∧
   (pr9o
   (Prod.fst
   (wF (decL decY (encL encY 1 code)), wL (decL decY (encL encY 1 code)),
   wA (decL decY (encL encY 1 code))))
   (decL decMsg
   (encL (encMsg 1) 1
   (Prod.fst (wL (decL decY (encL encY 1 code)), wA (decL decY (encL encY 1 code))))))
   (1 : Int))) ∧
   ((((IntsResult.code
   (ro9o
   (Prod.fst
   (wF (decL decY (encL encY 1 code)), wL (decL decY (encL encY 1 code)),
   wA (decL decY (encL encY 1 code))))
   (decL decMsg
   (encL (encMsg 1) 1
   (Prod.fst (wL (decL decY (encL encY 1 code)), wA (decL decY (encL encY 1 code))))))
   (1 : Int)) !=
   (0 : Int)) =
   true) →
   (((VLe
   (encL (encMsg 1) 1
   (Prod.fst (wL (decL decY (encL encY 1 code)), wA (decL decY (encL encY 1 code)))))
   (encL (encMsg 1) 1
   (decL decMsg
   (encL (encMsg 1) 1
   (Prod.fst (wL (decL decY (encL encY 1 code)), wA (decL decY (encL encY 1 code)))))))) ∧
   (pr10o
   (Prod.fst
   (wF (decL decY (encL encY 1 code)), wL (decL decY (encL encY 1 code)),
   wA (decL decY (encL encY 1 code))))
   (decL decMsg
   (encL (encMsg 1) 1
   (Prod.fst (wL (decL decY (encL encY 1 code)), wA (decL decY (encL encY 1 code))))))
   (1 : Int))) ∧
   ((tq (IntsResult.code
   (ro9o
   (Prod.fst
   (wF (decL decY (encL encY 1 code)), wL (decL decY (encL encY 1 code)),
   wA (decL decY (encL encY 1 code))))
   (decL decMsg
   (encL (encMsg 1) 1
   (Prod.fst (wL (decL decY (encL encY 1 code)), wA (decL decY (encL encY 1 code))))))
   (1 : Int)) ==
   IntsResult.code
   (ro10o
   (Prod.fst
   (wF (decL decY (encL encY 1 code)), wL (decL decY (encL encY 1 code)),
   wA (decL decY (encL encY 1 code))))
   (decL decMsg
   (encL (encMsg 1) 1
   (Prod.fst (wL (decL decY (encL encY 1 code)), wA (decL decY (encL encY 1 code))))))
   (1 : Int)))) ∧
   (((true = true) →
   (((IntsResult.code
   (ro9o
   (Prod.fst
   (wF (decL decY (encL encY 1 code)), wL (decL decY (encL encY 1 code)),
   wA (decL decY (encL encY 1 code))))
   (decL decMsg
   (encL (encMsg 1) 1
   (Prod.fst (wL (decL decY (encL encY 1 code)), wA (decL decY (encL encY 1 code))))))
   (1 : Int)) ==
   IntsResult.code
   (ro10o
   (Prod.fst
   (wF (decL decY (encL encY 1 code)), wL (decL decY (encL encY 1 code)),
   wA (decL decY (encL encY 1 code))))
   (decL decMsg
   (encL (encMsg 1) 1
   (Prod.fst (wL (decL decY (encL encY 1 code)), wA (decL decY (encL encY 1 code))))))
   (1 : Int))) =
   true) →
   ((IntsResult.code
   (ro9o
   (Prod.fst
   (wF (decL decY (encL encY 1 code)), wL (decL decY (encL encY 1 code)),
   wA (decL decY (encL encY 1 code))))
   (decL decMsg
   (encL (encMsg 1) 1
   (Prod.fst (wL (decL decY (encL encY 1 code)), wA (decL decY (encL encY 1 code))))))
   (1 : Int)) ==
   IntsResult.code
   (ro10o
   (Prod.fst
   (wF (decL decY (encL encY 1 code)), wL (decL decY (encL encY 1 code)),
   wA (decL decY (encL encY 1 code))))
   (decL decMsg
   (encL (encMsg 1) 1
   (Prod.fst (wL (decL decY (encL encY 1 code)), wA (decL decY (encL encY 1 code))))))
   (1 : Int))) =
   true))) ∧
   (∀ b : Bool,
   ((b =
   bif
   IntsResult.code
   (ro9o
   (Prod.fst
   (wF (decL decY (encL encY 1 code)), wL (decL decY (encL encY 1 code)),
   wA (decL decY (encL encY 1 code))))
   (decL decMsg
   (encL (encMsg 1) 1
   (Prod.fst (wL (decL decY (encL encY 1 code)), wA (decL decY (encL encY 1 code))))))
   (1 : Int)) ==
   IntsResult.code
   (ro10o
   (Prod.fst
   (wF (decL decY (encL encY 1 code)), wL (decL decY (encL encY 1 code)),
   wA (decL decY (encL encY 1 code))))
   (decL decMsg
   (encL (encMsg 1) 1
   (Prod.fst (wL (decL decY (encL encY 1 code)), wA (decL decY (encL encY 1 code))))))
   (1 : Int)) then
   !decide
   (ledgerFault
   (Prod.fst
   (wF (decL decY (encL encY 1 code)), wL (decL decY (encL encY 1 code)),
   wA (decL decY (encL encY 1 code))))
   (decL decMsg
   (encL (encMsg 1) 1
   (Prod.fst (wL (decL decY (encL encY 1 code)), wA (decL decY (encL encY 1 code)))))) =
   (0 : Int) ∧
   newOk
   (Prod.fst
   (wF (decL decY (encL encY 1 code)), wL (decL decY (encL encY 1 code)),
   wA (decL decY (encL encY 1 code))))
   (decL decMsg
   (encL (encMsg 1) 1
   (Prod.fst (wL (decL decY (encL encY 1 code)), wA (decL decY (encL encY 1 code))))))
   (Prod.snd (wL (decL decY (encL encY 1 code)), wA (decL decY (encL encY 1 code)))))
   else false) →
   (VLe (V.bool b) (V.bool true)))))))) ∧
   (((IntsResult.code
   (ro9o
   (Prod.fst
   (wF (decL decY (encL encY 1 code)), wL (decL decY (encL encY 1 code)),
   wA (decL decY (encL encY 1 code))))
   (decL decMsg
   (encL (encMsg 1) 1
   (Prod.fst (wL (decL decY (encL encY 1 code)), wA (decL decY (encL encY 1 code))))))
   (1 : Int)) !=
   (0 : Int)) =
   false) →
   ((∃ x : Nat, ((SLe
   (AS.mk
   [(3,
   V.int IntKind.i64
   (Prod.fst
   (wF (decL decY (encL encY 1 code)), wL (decL decY (encL encY 1 code)),
   wA (decL decY (encL encY 1 code))))),
   (4,
   encL (encMsg 1) 215
   (Prod.fst (wL (decL decY (encL encY 1 code)), wA (decL decY (encL encY 1 code))))),
   (5,
   V.int IntKind.i64
   (Prod.snd (wL (decL decY (encL encY 1 code)), wA (decL decY (encL encY 1 code))))),
   (6,
   V.bool
   (decide
   (ledgerFault
   (Prod.fst
   (wF (decL decY (encL encY 1 code)), wL (decL decY (encL encY 1 code)),
   wA (decL decY (encL encY 1 code))))
   (decL decMsg
   (encL (encMsg 1) 1
   (Prod.fst
   (wL (decL decY (encL encY 1 code)), wA (decL decY (encL encY 1 code)))))) =
   (0 : Int) ∧
   newOk
   (Prod.fst
   (wF (decL decY (encL encY 1 code)), wL (decL decY (encL encY 1 code)),
   wA (decL decY (encL encY 1 code))))
   (decL decMsg
   (encL (encMsg 1) 1
   (Prod.fst (wL (decL decY (encL encY 1 code)), wA (decL decY (encL encY 1 code))))))
   (Prod.snd (wL (decL decY (encL encY 1 code)), wA (decL decY (encL encY 1 code))))))),
   (7, V.oref 512 0 0), (8, V.int IntKind.i64 (0 : Int))]
   [(512,
   Blk.box
   [V.int IntKind.i64
   (IntsResult.code
   (ro9o
   (Prod.fst
   (wF (decL decY (encL encY 1 code)), wL (decL decY (encL encY 1 code)),
   wA (decL decY (encL encY 1 code))))
   (decL decMsg
   (encL (encMsg 1) 1
   (Prod.fst
   (wL (decL decY (encL encY 1 code)), wA (decL decY (encL encY 1 code))))))
   (1 : Int))),
   V.osl 66097216
   (List.length
   (IntsResult.list
   (ro9o
   (Prod.fst
   (wF (decL decY (encL encY 1 code)), wL (decL decY (encL encY 1 code)),
   wA (decL decY (encL encY 1 code))))
   (decL decMsg
   (encL (encMsg 1) 1
   (Prod.fst
   (wL (decL decY (encL encY 1 code)), wA (decL decY (encL encY 1 code))))))
   (1 : Int))))]),
   (66097216,
   Blk.arr 1
   (List.length
   (IntsResult.list
   (ro9o
   (Prod.fst
   (wF (decL decY (encL encY 1 code)), wL (decL decY (encL encY 1 code)),
   wA (decL decY (encL encY 1 code))))
   (decL decMsg
   (encL (encMsg 1) 1
   (Prod.fst (wL (decL decY (encL encY 1 code)), wA (decL decY (encL encY 1 code))))))
   (1 : Int))))
   (gL encI
   (IntsResult.list
   (ro9o
   (Prod.fst
   (wF (decL decY (encL encY 1 code)), wL (decL decY (encL encY 1 code)),
   wA (decL decY (encL encY 1 code))))
   (decL decMsg
   (encL (encMsg 1) 1
   (Prod.fst (wL (decL decY (encL encY 1 code)), wA (decL decY (encL encY 1 code))))))
   (1 : Int))))
   100)])
   (AS.mk
   [(3, V.int IntKind.i64 (wF code)), (4, encL (encMsg 1) 215 (wL code)),
   (5, V.int IntKind.i64 (wA code)),
   (6, V.bool (decide (ledgerFault (wF code) (wL code) = (0 : Int) ∧ newOk (wF code) (wL code) (wA code)))),
   (7, V.oref 512 0 0), (8, V.int IntKind.i64 (↑x : Int))]
   [(512, Blk.box [V.int IntKind.i64 (0 : Int), V.osl 66097216 (List.length (wC code))]),
   (66097216, Blk.arr 1 (List.length (wC code)) (gL encI (wC code)) 100)])) ∧
   (x ≤ List.length (wC code)))) ∧
   (∀ x : Nat,
   ((x ≤ List.length (wC code)) →
   (((decide ((↑x : Int) < (↑(List.length (wC code)) : Int)) = true) →
   ((((0 : Int) ≤ (↑x : Int)) ∧
   ((↑x : Int) < (↑(List.length (wC code)) : Int))) ∧
   ((Int.toNat (↑x : Int) < List.length (wC code)) ∧
   (((VLe (encL (encMsg 1) 1 (wL code))
   (encL (encMsg 1) 1 (decL decMsg (encL (encMsg 1) 1 (wL code))))) ∧
   (pr11 (wF code) (decL decMsg (encL (encMsg 1) 1 (wL code)))
   (List.getD (wC code) (Int.toNat (↑x : Int)) default))) ∧
   ((((!decide
   (ledgerFault (wF code) (decL decMsg (encL (encMsg 1) 1 (wL code))) = (0 : Int) ∧
   changeOk (wF code) (decL decMsg (encL (encMsg 1) 1 (wL code)))
   (List.getD (wC code) (Int.toNat (↑x : Int)) default))) =
   true) →
   (VLe (V.bool false) (V.bool true))) ∧
   (((!decide
   (ledgerFault (wF code) (decL decMsg (encL (encMsg 1) 1 (wL code))) = (0 : Int) ∧
   changeOk (wF code) (decL decMsg (encL (encMsg 1) 1 (wL code)))
   (List.getD (wC code) (Int.toNat (↑x : Int)) default))) =
   false) →
   ((inK IntKind.i64 ((↑x : Int) + (1 : Int))) ∧
   (∃ y : Nat, ((SLe
   (AS.mk
   [(3, V.int IntKind.i64 (wF code)), (4, encL (encMsg 1) 215 (wL code)),
   (5, V.int IntKind.i64 (wA code)),
   (6, V.bool (decide (ledgerFault (wF code) (wL code) = (0 : Int) ∧ newOk (wF code) (wL code) (wA code)))),
   (7, V.oref 512 0 0), (8, V.int IntKind.i64 ((↑x : Int) + (1 : Int)))]
   [(512, Blk.box [V.int IntKind.i64 (0 : Int), V.osl 66097216 (List.length (wC code))]),
   (66097216, Blk.arr 1 (List.length (wC code)) (gL encI (wC code)) 100)])
   (AS.mk
   [(3, V.int IntKind.i64 (wF code)), (4, encL (encMsg 1) 215 (wL code)),
   (5, V.int IntKind.i64 (wA code)),
   (6, V.bool (decide (ledgerFault (wF code) (wL code) = (0 : Int) ∧ newOk (wF code) (wL code) (wA code)))),
   (7, V.oref 512 0 0), (8, V.int IntKind.i64 (↑y : Int))]
   [(512, Blk.box [V.int IntKind.i64 (0 : Int), V.osl 66097216 (List.length (wC code))]),
   (66097216, Blk.arr 1 (List.length (wC code)) (gL encI (wC code)) 100)])) ∧
   ((y ≤ List.length (wC code)) ∧
   (List.length (wC code) - y < List.length (wC code) - x))))))))))) ∧
   ((decide ((↑x : Int) < (↑(List.length (wC code)) : Int)) = false) →
   ((((!decide (ledgerFault (wF code) (wL code) = (0 : Int) ∧ newOk (wF code) (wL code) (wA code))) = true) →
   (((VLe (encL (encMsg 1) 1 (wL code))
   (encL (encMsg 1) 1 (decL decMsg (encL (encMsg 1) 1 (wL code))))) ∧
   (pr10o (wF code) (decL decMsg (encL (encMsg 1) 1 (wL code))) (1 : Int))) ∧
   (VLe
   (V.bool
   ((↑(List.length (wC code)) : Int) ==
   (↑(List.length
   (IntsResult.list (ro10o (wF code) (decL decMsg (encL (encMsg 1) 1 (wL code))) (1 : Int)))) :
   Int)))
   (V.bool true)))) ∧
   (((!decide (ledgerFault (wF code) (wL code) = (0 : Int) ∧ newOk (wF code) (wL code) (wA code))) = false) →
   ((((0 : Int) ≤ wA code) ∧
   (wA code < (↑(List.length (wL code)) : Int))) ∧
   ((∃ x_1 : Nat, ((SLe
   (AS.mk
   [(3, V.int IntKind.i64 (wF code)), (4, encL (encMsg 1) 215 (wL code)),
   (9, V.oref 640 0 0), (10, V.int IntKind.i64 (0 : Int))]
   [(640,
   Blk.box
   [V.int IntKind.i64 (Msg.kind (List.getD (wL code) (Int.toNat (wA code)) default)),
   V.int IntKind.i64 (Msg.view (List.getD (wL code) (Int.toNat (wA code)) default)),
   V.int IntKind.i64 (Msg.sender (List.getD (wL code) (Int.toNat (wA code)) default)),
   V.int IntKind.i64 (Msg.slot (List.getD (wL code) (Int.toNat (wA code)) default)),
   V.int IntKind.i64 (Msg.value (List.getD (wL code) (Int.toNat (wA code)) default)),
   encL (encCert 1) 215 (Msg.certs (List.getD (wL code) (Int.toNat (wA code)) default)),
   encL encI 215 (Msg.refs (List.getD (wL code) (Int.toNat (wA code)) default))])])
   (AS.mk
   [(3, V.int IntKind.i64 (wF code)), (4, encL (encMsg 1) 215 (wL code)),
   (9, V.oref 640 0 0), (10, V.int IntKind.i64 (↑x_1 : Int))]
   [(640,
   Blk.box
   [V.int IntKind.i64 (Msg.kind (wM code)), V.int IntKind.i64 (Msg.view (wM code)),
   V.int IntKind.i64 (Msg.sender (wM code)), V.int IntKind.i64 (Msg.slot (wM code)),
   V.int IntKind.i64 (Msg.value (wM code)), encL (encCert 1) 215 (Msg.certs (wM code)),
   encL encI 215 (Msg.refs (wM code))])])) ∧
   (x_1 ≤ List.length (Msg.refs (wM code))))) ∧
   (∀ x_1 : Nat,
   ((x_1 ≤ List.length (Msg.refs (wM code))) →
   (((decide ((↑x_1 : Int) < (↑(List.length (Msg.refs (wM code))) : Int)) = true) →
   ((((0 : Int) ≤ (↑x_1 : Int)) ∧
   ((↑x_1 : Int) < (↑(List.length (Msg.refs (wM code))) : Int))) ∧
   (((VLe (encL (encMsg 1) 1 (wL code))
   (encL (encMsg 1) 1 (decL decMsg (encL (encMsg 1) 1 (wL code))))) ∧
   (pr11 (wF code) (decL decMsg (encL (encMsg 1) 1 (wL code)))
   (List.getD (Msg.refs (wM code)) (Int.toNat (↑x_1 : Int)) default))) ∧
   ((tq (!!decide
   (ledgerFault (wF code) (decL decMsg (encL (encMsg 1) 1 (wL code))) = (0 : Int) ∧
   changeOk (wF code) (decL decMsg (encL (encMsg 1) 1 (wL code)))
   (List.getD (Msg.refs (wM code)) (Int.toNat (↑x_1 : Int)) default)))) ∧
   ((tq (!!decide
   (ledgerFault (wF code) (decL decMsg (encL (encMsg 1) 1 (wL code))) = (0 : Int) ∧
   changeOk (wF code) (decL decMsg (encL (encMsg 1) 1 (wL code)))
   (List.getD (Msg.refs (wM code)) (Int.toNat (↑x_1 : Int)) default)))) ∧
   ((tq (!!decide
   (ledgerFault (wF code) (decL decMsg (encL (encMsg 1) 1 (wL code))) = (0 : Int) ∧
   changeOk (wF code) (decL decMsg (encL (encMsg 1) 1 (wL code)))
   (List.getD (Msg.refs (wM code)) (Int.toNat (↑x_1 : Int)) default)))) ∧
   ((((!!decide
   (ledgerFault (wF code) (decL decMsg (encL (encMsg 1) 1 (wL code))) = (0 : Int) ∧
   changeOk (wF code) (decL decMsg (encL (encMsg 1) 1 (wL code)))
   (List.getD (Msg.refs (wM code)) (Int.toNat (↑x_1 : Int)) default))) =
   true) →
   (((0 : Int) ≤ (↑x_1 : Int)) ∧
   ((↑x_1 : Int) < (↑(List.length (Msg.refs (wM code))) : Int)))) ∧
   ((tq (!!decide
   (ledgerFault (wF code) (decL decMsg (encL (encMsg 1) 1 (wL code))) = (0 : Int) ∧
   changeOk (wF code) (decL decMsg (encL (encMsg 1) 1 (wL code)))
   (List.getD (Msg.refs (wM code)) (Int.toNat (↑x_1 : Int)) default)))) ∧
   ((tq (!!decide
   (ledgerFault (wF code) (decL decMsg (encL (encMsg 1) 1 (wL code))) = (0 : Int) ∧
   changeOk (wF code) (decL decMsg (encL (encMsg 1) 1 (wL code)))
   (List.getD (Msg.refs (wM code)) (Int.toNat (↑x_1 : Int)) default)))) ∧
   ((tq (!!decide
   (ledgerFault (wF code) (decL decMsg (encL (encMsg 1) 1 (wL code))) = (0 : Int) ∧
   changeOk (wF code) (decL decMsg (encL (encMsg 1) 1 (wL code)))
   (List.getD (Msg.refs (wM code)) (Int.toNat (↑x_1 : Int)) default)))) ∧
   ((((!!decide
   (ledgerFault (wF code) (decL decMsg (encL (encMsg 1) 1 (wL code))) = (0 : Int) ∧
   changeOk (wF code) (decL decMsg (encL (encMsg 1) 1 (wL code)))
   (List.getD (Msg.refs (wM code)) (Int.toNat (↑x_1 : Int)) default))) =
   true) →
   (((0 : Int) ≤ List.getD (Msg.refs (wM code)) (Int.toNat (↑x_1 : Int)) default) ∧
   (List.getD (Msg.refs (wM code)) (Int.toNat (↑x_1 : Int)) default < (↑(List.length (wL code)) : Int)))) ∧
   ((tq (!!decide
   (ledgerFault (wF code) (decL decMsg (encL (encMsg 1) 1 (wL code))) = (0 : Int) ∧
   changeOk (wF code) (decL decMsg (encL (encMsg 1) 1 (wL code)))
   (List.getD (Msg.refs (wM code)) (Int.toNat (↑x_1 : Int)) default)))) ∧
   ((tq (!!decide
   (ledgerFault (wF code) (decL decMsg (encL (encMsg 1) 1 (wL code))) = (0 : Int) ∧
   changeOk (wF code) (decL decMsg (encL (encMsg 1) 1 (wL code)))
   (List.getD (Msg.refs (wM code)) (Int.toNat (↑x_1 : Int)) default)))) ∧
   ((tq (!!decide
   (ledgerFault (wF code) (decL decMsg (encL (encMsg 1) 1 (wL code))) = (0 : Int) ∧
   changeOk (wF code) (decL decMsg (encL (encMsg 1) 1 (wL code)))
   (List.getD (Msg.refs (wM code)) (Int.toNat (↑x_1 : Int)) default)))) ∧
   ((tq (!!decide
   (ledgerFault (wF code) (decL decMsg (encL (encMsg 1) 1 (wL code))) = (0 : Int) ∧
   changeOk (wF code) (decL decMsg (encL (encMsg 1) 1 (wL code)))
   (List.getD (Msg.refs (wM code)) (Int.toNat (↑x_1 : Int)) default)))) ∧
   ((tq (!!decide
   (ledgerFault (wF code) (decL decMsg (encL (encMsg 1) 1 (wL code))) = (0 : Int) ∧
   changeOk (wF code) (decL decMsg (encL (encMsg 1) 1 (wL code)))
   (List.getD (Msg.refs (wM code)) (Int.toNat (↑x_1 : Int)) default)))) ∧
   (((true = true) →
   (((!decide
   (ledgerFault (wF code) (decL decMsg (encL (encMsg 1) 1 (wL code))) = (0 : Int) ∧
   changeOk (wF code) (decL decMsg (encL (encMsg 1) 1 (wL code)))
   (List.getD (Msg.refs (wM code)) (Int.toNat (↑x_1 : Int)) default))) =
   false) →
   ((!!decide
   (ledgerFault (wF code) (decL decMsg (encL (encMsg 1) 1 (wL code))) = (0 : Int) ∧
   changeOk (wF code) (decL decMsg (encL (encMsg 1) 1 (wL code)))
   (List.getD (Msg.refs (wM code)) (Int.toNat (↑x_1 : Int)) default))) =
   true))) ∧
   (∀ b : Bool,
   ((b =
   bif
   !decide
   (ledgerFault (wF code) (decL decMsg (encL (encMsg 1) 1 (wL code))) = (0 : Int) ∧
   changeOk (wF code) (decL decMsg (encL (encMsg 1) 1 (wL code)))
   (List.getD (Msg.refs (wM code)) (Int.toNat (↑x_1 : Int)) default)) then
   true
   else
   Msg.view
   (List.getD (wL code) (Int.toNat (List.getD (Msg.refs (wM code)) (Int.toNat (↑x_1 : Int)) default)) default) !=
   Msg.view (wM code)) →
   (((b = true) →
   (VLe (V.bool false) (V.bool true))) ∧
   ((b = false) →
   ((inK IntKind.i64 ((↑x_1 : Int) + (1 : Int))) ∧
   (∃ y : Nat, ((SLe
   (AS.mk
   [(3, V.int IntKind.i64 (wF code)), (4, encL (encMsg 1) 215 (wL code)),
   (9, V.oref 640 0 0), (10, V.int IntKind.i64 ((↑x_1 : Int) + (1 : Int)))]
   [(640,
   Blk.box
   [V.int IntKind.i64 (Msg.kind (wM code)), V.int IntKind.i64 (Msg.view (wM code)),
   V.int IntKind.i64 (Msg.sender (wM code)), V.int IntKind.i64 (Msg.slot (wM code)),
   V.int IntKind.i64 (Msg.value (wM code)), encL (encCert 1) 215 (Msg.certs (wM code)),
   encL encI 215 (Msg.refs (wM code))])])
   (AS.mk
   [(3, V.int IntKind.i64 (wF code)), (4, encL (encMsg 1) 215 (wL code)),
   (9, V.oref 640 0 0), (10, V.int IntKind.i64 (↑y : Int))]
   [(640,
   Blk.box
   [V.int IntKind.i64 (Msg.kind (wM code)), V.int IntKind.i64 (Msg.view (wM code)),
   V.int IntKind.i64 (Msg.sender (wM code)), V.int IntKind.i64 (Msg.slot (wM code)),
   V.int IntKind.i64 (Msg.value (wM code)), encL (encCert 1) 215 (Msg.certs (wM code)),
   encL encI 215 (Msg.refs (wM code))])])) ∧
   ((y ≤ List.length (Msg.refs (wM code))) ∧
   (List.length (Msg.refs (wM code)) - y < List.length (Msg.refs (wM code)) - x_1)))))))))))))))))))))))))) ∧
   ((decide ((↑x_1 : Int) < (↑(List.length (Msg.refs (wM code))) : Int)) = false) →
   ((pr12 (wF code)) ∧
   ((tq (decide ((↑(List.length (Msg.refs (wM code))) : Int) ≥ IntResult.value (needOfF (wF code))))) ∧
   ((tq (decide ((↑(List.length (Msg.refs (wM code))) : Int) ≥ IntResult.value (needOfF (wF code))))) ∧
   ((tq (decide ((↑(List.length (Msg.refs (wM code))) : Int) ≥ IntResult.value (needOfF (wF code))))) ∧
   ((tq (decide ((↑(List.length (Msg.refs (wM code))) : Int) ≥ IntResult.value (needOfF (wF code))))) ∧
   (((decide ((↑(List.length (Msg.refs (wM code))) : Int) ≥ IntResult.value (needOfF (wF code))) = true) →
   (pr13 (wF code) (Msg.view (wM code)))) ∧
   ((tq (decide ((↑(List.length (Msg.refs (wM code))) : Int) ≥ IntResult.value (needOfF (wF code))))) ∧
   ((tq (decide ((↑(List.length (Msg.refs (wM code))) : Int) ≥ IntResult.value (needOfF (wF code))))) ∧
   ((tq (decide ((↑(List.length (Msg.refs (wM code))) : Int) ≥ IntResult.value (needOfF (wF code))))) ∧
   (((true = true) →
   ((decide ((↑(List.length (Msg.refs (wM code))) : Int) ≥ IntResult.value (needOfF (wF code))) = true) →
   (decide ((↑(List.length (Msg.refs (wM code))) : Int) ≥ IntResult.value (needOfF (wF code))) = true))) ∧
   (∀ b : Bool,
   ((b =
   bif decide ((↑(List.length (Msg.refs (wM code))) : Int) ≥ IntResult.value (needOfF (wF code))) then
   Msg.sender (wM code) == IntResult.value (primaryOfF (wF code) (Msg.view (wM code)))
   else false) →
   ((tq (b)) ∧
   ((tq (b)) ∧
   ((tq (b)) ∧
   ((tq (b)) ∧
   (((b = true) →
   ((VLe (encL (encMsg 1) 1 (wL code))
   (encL (encMsg 1) 1 (decL decMsg (encL (encMsg 1) 1 (wL code))))) ∧
   ((VLe (encL encI 1 (Msg.refs (wM code)))
   (encL encI 1 (decL decI (encL encI 1 (Msg.refs (wM code)))))) ∧
   (pr14c (wF code) (decL decMsg (encL (encMsg 1) 1 (wL code)))
   (decL decI (encL encI 1 (Msg.refs (wM code)))))))) ∧
   ((tq (b)) ∧
   ((tq (b)) ∧
   (((true = true) →
   ((b = true) →
   (b = true))) ∧
   (∀ b_1 : Bool,
   ((b_1 =
   bif b then
   IntsResult.code
   (pickOfF (wF code) (decL decMsg (encL (encMsg 1) 1 (wL code)))
   (decL decI (encL encI 1 (Msg.refs (wM code))))) ==
   (0 : Int)
   else false) →
   (VLe (V.bool b_1) (V.bool true)))))))))))))))))))))))))))))))))))))))))))))))) := by
    obtain ⟨hlen, hby⟩ := hpre
    simp only [decL_bytes, decL_Msg, decL_ints, ro9o, ro10o]
    refine ⟨⟨VLe.refl _, trivial⟩, fun h => VLe.refl _, fun h => ?_⟩
    have h0 := okX_code (Nat.le_of_not_lt (of_decide_eq_false h)) hby
    have hb := viewD_bd h0
    have hM : wM code = atM (wL code) (wA code) := rfl
    have hC : wC code = chL (wF code) (wL code) 1 := rfl
    generalize wF code = f at *
    generalize wL code = l at *
    generalize wA code = at_ at *
    generalize wM code = m at *
    generalize wC code = C at *
    refine ⟨⟨VLe.refl _, h0⟩, ⟨VLe.refl _, hb⟩, ⟨VLe.refl _, hb⟩, fun h => absurd h (by simp), fun _ => ⟨⟨VLe.refl _, hb⟩, fun h => ?_, fun h => ?_⟩⟩
    · have hz : ledgerFault f l ≠ 0 := fun g => by
        unfold changesForF at h
        rw [if_neg (not_not_intro g), if_neg (not_not_intro (show inR 1 0 20 from ⟨by decide, by decide⟩))] at h
        simp at h
      refine ⟨⟨VLe.refl _, hb⟩, tqB _, fun _ h => h, fun b hb2 => vle_bool ?_⟩
      rw [hb2]
      simp [hz]
    have hc : (changesForF f l 1).code = 0 := by simpa using h
    have hz : ledgerFault f l = 0 := Classical.byContradiction fun g => by
      unfold changesForF at hc
      rw [if_pos g] at hc
      exact g hc
    have e : changesForF f l 1 = ⟨0, C⟩ := by
      unfold changesForF
      rw [if_neg (not_not_intro hz), if_neg (not_not_intro (show inR 1 0 20 from ⟨by decide, by decide⟩)), hC]
    have hr := right_of hz
    have h240 := hr.len
    have hf' : 1 ≤ f ∧ f ≤ 2 := by have := hr.okf; unfold okF at this; omega
    have hCl : C.length ≤ 240 := by
      have := chTo_len f l 1 l.length
      rw [hC]
      unfold chL
      omega
    have hCo : ∀ p ∈ C, changeOk f l p := fun p hp => chTo_ok f l 1 l.length p (by rw [hC] at hp; exact hp)
    simp only [e]
    refine ⟨⟨0, sle_of ⟨rfl, VLe.refl _, rfl, VLe.refl _, rfl, VLe.refl _, rfl, VLe.refl _, rfl, VLe.refl _, rfl, VLe.refl _, trivial⟩ ⟨rfl, BLe.refl _, rfl, BLe.refl _, trivial⟩, Nat.zero_le _⟩, fun i hi => ⟨fun h => ?_, fun h => ?_⟩⟩
    · have hlt : i < C.length := by simpa using h
      have hok : changeOk f l (C.getD i default) := hCo _ (by simp [hlt])
      simp only [Int.toNat_natCast]
      refine ⟨by omega, by omega, ⟨VLe.refl _, hb⟩, fun h => absurd h (by rw [decide_eq_true (show ledgerFault f l = 0 ∧ changeOk f l (C.getD i default) from ⟨hz, hok⟩)]; simp), fun _ => ⟨inK64 (by omega), i + 1, sle_of ⟨rfl, VLe.refl _, rfl, VLe.refl _, rfl, VLe.refl _, rfl, VLe.refl _, rfl, VLe.refl _, rfl, vle_int (by omega), trivial⟩ ⟨rfl, BLe.refl _, rfl, BLe.refl _, trivial⟩, by omega, by omega⟩⟩
    · refine ⟨fun _ => ⟨⟨VLe.refl _, hb⟩, vle_bool (by simp)⟩, fun h => ?_⟩
      have hnew : newOk f l at_ := by
        have h2 : decide (ledgerFault f l = 0 ∧ newOk f l at_) = true := by simpa using h
        exact (of_decide_eq_true h2).2
      have hat : 0 ≤ at_ ∧ at_ < (l.length : Int) := by
        have := hnew.1.1
        unfold inL inR at this
        omega
      have hg := hr.memGood (atM_mem hnew.1.1)
      rw [← hM] at hg
      obtain ⟨n1, n2, n3, n4, n5⟩ := hnew
      rw [← hM] at n2 n3 n4 n5
      have hM2 : l.getD at_.toNat default = m := hM.symm
      have hfew := hg.few
      unfold few at hfew
      have hpr : primaryOfF f m.view = ⟨0, primaryF f m.view⟩ := if_pos ⟨hr.okf, hg.ranged.1⟩
      have hnd : needOfF f = ⟨0, 2 * f + 1⟩ := if_pos hr.okf
      have hpk : pickOk l m.refs := fun x hx => by
        obtain ⟨j, hj, rfl⟩ := List.getElem_of_mem hx
        have := (n5 j hj).1.1
        simpa [hj] using this
      have hpf : pickOfF f l m.refs = ⟨0, pickL l m.refs⟩ := by
        unfold pickOfF
        rw [if_neg (not_not_intro hz), if_neg (by omega), if_neg (not_not_intro hpk)]
      simp only [hM2]
      refine ⟨hat, ⟨0, sle_of ⟨rfl, VLe.refl _, rfl, VLe.refl _, rfl, VLe.refl _, rfl, VLe.refl _, trivial⟩ ⟨rfl, BLe.refl _, trivial⟩, Nat.zero_le _⟩, fun i hi => ⟨fun h => ?_, fun h => ?_⟩⟩
      · have hlt : i < m.refs.length := by simpa using h
        obtain ⟨q1, q2, _⟩ := n5 i hlt
        have d1 : decide (ledgerFault f l = 0 ∧ changeOk f l (m.refs.getD i default)) = true := decide_eq_true ⟨hz, q1⟩
        have hin := q1.1.1
        unfold inL inR at hin
        have q3 : (l.getD (m.refs.getD i default).toNat default).view = m.view := q2
        simp only [Int.toNat_natCast, d1, Bool.not_true, Bool.not_false, q3]
        refine ⟨by omega, ⟨VLe.refl _, hb⟩, ?_⟩
        repeat (first | (refine And.intro (fun h _ => h) ?_) | (refine And.intro (fun _ h => h) ?_) | (refine And.intro ?aa ?_; case aa => (exact tqB _)) | (refine And.intro ?aa ?_; case aa => (exact fun _ => ⟨by omega, by omega⟩)) | (refine And.intro ?aa ?_; case aa => (exact fun _ _ => rfl)) | (refine And.intro ?aa ?_; case aa => (intros; simp_all [pr5, pr6, pr7, pr8, pr9o, pr10o, pr11, pr12, pr13, pr14c]; done)) | (refine And.intro ?aa ?_; case aa => (intros; exact inK64 (by omega))) | (refine And.intro ?aa ?_; case aa => (intros; simp only [decide_eq_true_eq] at *; omega)) | (intro q hq))
        have h30 : m.refs.length ≤ 240 := by omega
        exact fun _ => ⟨inK64 (by omega), i + 1, sle_of ⟨rfl, VLe.refl _, rfl, VLe.refl _, rfl, VLe.refl _, rfl, vle_int rfl, trivial⟩ ⟨rfl, BLe.refl _, trivial⟩, by omega, by omega⟩
      · rw [hnd, hpr, hpf]
        refine ⟨trivial, ?_⟩
        repeat (first | (refine And.intro (fun h _ => h) ?_) | (refine And.intro (fun _ h => h) ?_) | (refine And.intro ?aa ?_; case aa => (exact tqB _)) | (refine And.intro ?aa ?_; case aa => (exact fun _ => trivial)) | (refine And.intro ?aa ?_; case aa => (exact fun _ => ⟨VLe.refl _, VLe.refl _, hb, by omega⟩)) | (refine And.intro ?aa ?_; case aa => (exact fun _ h => h)) | (refine And.intro ?aa ?_; case aa => (intros; simp_all [pr5, pr6, pr7, pr8, pr9o, pr10o, pr11, pr12, pr13, pr14c]; done)) | (refine And.intro ?aa ?_; case aa => (intros; exact inK64 (by omega))) | (refine And.intro ?aa ?_; case aa => (intros; simp only [decide_eq_true_eq] at *; omega)) | (intro q hq))
        subst_vars
        exact vle_bool (by simp [n3, n4])
  exact Eq.mp (by kernel_rfl) key
theorem so3 : Sound Tryz.prog 3 (lawD Q3) := by
  refine sound_of_body hmix (pol := 0) Tryz.func3 rfl (by kernel_rfl) fun args bin ob r bout hDe hob => ?_
  unfold lawD at hDe
  split at hDe
  · cases hDe
    obtain ⟨code, hle, hpre⟩ := hob
    have hlen : args.length = 1 := hle.1.symm
    exact ⟨rfl, rfl, by rw [hlen]; exact Nat.le_of_ble_eq_true (by kernel_rfl), cx3 code, Eq.mp (by kernel_rfl) htt, Eq.mp (by kernel_rfl) da3, Eq.mp (by kernel_rfl) (noM_sound (P := Tryz.prog)), by kernel_rfl, _, hle, Eq.mp (by kernel_rfl) (bd3 code hpre)⟩
  · cases hDe

end Go.Av
