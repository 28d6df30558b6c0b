/- The watches that a source draws. -/
import Derived.Test.YtgefdljcommhhaaGreatDoorR20
import Derived.Test.YtgefdljcommhhaaGreatDoorM2
namespace Go.Av
open Go.Proofs
set_option maxRecDepth 100000
set_option maxHeartbeats 4000000
set_option linter.unusedVariables false
set_option linter.unusedSimpArgs false

theorem pickO {xs : List Int} {p : Prop} {n : Nat} {g : Nat → Int} (h : p) : (True ∧ True ∧ True) ∧ VLe (encL encY 1 xs) (encL encY 1 xs) ∧ (True ∧ True ∧ True ∧ True ∧ ∀ i, i < n → ELe (V.int .i64 (g i)) (V.int .i64 (intA (V.int .i64 (g i))))) ∧ p :=
  ⟨⟨trivial, trivial, trivial⟩, VLe.refl _, ⟨trivial, trivial, trivial, trivial, fun i hi => ELe.refl _⟩, h⟩
theorem pkW : List.map (fun i => intA (V.int .i64 (([0, 1, 10] : List Int).getD i 0))) (List.range 3) = [0, 1, 10] := rfl
def goW (xs : List Int) (at_ : Int) (q : Nat × Int × List Watch) : Prop := watchD xs q.1 q.2.1 q.2.2 = rightW xs at_ ∧ at_ + 1 ≤ q.2.1 ∧ q.2.1 + 5 * q.1 ≤ at_ + 31 ∧ q.2.2.length + q.1 ≤ 6

/-! ### spec.l7Right -/
def pr34 (xs : List Int) (at_ : Int)  : Prop := okX xs at_ ∧ at_ ≤ 900000
noncomputable def ro34 (xs : List Int) (at_ : Int)  : List Watch := (rightW xs at_).1
noncomputable def rs34 (xs : List Int) (at_ : Int)  : V := .osl 1 (ro34 xs at_ ).length
noncomputable def rb34 (xs : List Int) (at_ : Int)  : List Blk := [(.arr 2 (ro34 xs at_ ).length (gL (encWatch 1) (ro34 xs at_ )) tagS)]
noncomputable def ra34 (xs : List Int) (at_ : Int)  : Int := (rightW xs at_).2
noncomputable def in34_3 (xs : List Int) (at_ : Int)  : LoopInv :=
  ⟨Nat × Int × List Watch, fun q => ⟨[(0, .oref 0 0 0), (3, .osl (canonT 3) q.2.2.length), (4, .int .i64 q.1)], [(canonT 3, .arr 2 q.2.2.length (gL (encWatch 1) q.2.2) tagS), (0, .box [encL encY 0 xs, .int .i64 q.2.1])]⟩, fun q => goW xs at_ q, fun q => q.1⟩
noncomputable def iv34 (xs : List Int) (at_ : Int)  : Nat → Option LoopInv := fun k0 => match k0 with
  | 3 => some (in34_3 xs at_ )
  | _ => none
noncomputable def D34 : Nat → Option (Bool × FSpec) := lk [(27, (true, sp27)), (28, (true, sp28)), (39, (false, sp39))]
theorem da34 : SoundAll Tryz.prog D34 := soundAll_cons so27 (soundAll_cons so28 (soundAll_cons so39 (soundAll_nil)))
noncomputable def cx34 (xs : List Int) (at_ : Int)  : Cx := ⟨tt, D34, Tryz.f34.ntmps, [0, 2, 3, 4, 5, 10, 22], [(3, ⟨[(0, none), (3, some 2), (4, none)], [(0, [])]⟩)], [], iv34 xs at_ , [], noM, []⟩
noncomputable def k34_0 (xs : List Int) (x : Nat × Int × List Watch) : V := (V.agg [vi ((1 : Int) + nextF (decL decY (encL encY 1 xs)) x.2.1 (3 : Int)), V.str (Prod.fst (drawP (decL decY (encL encY 1 (decL decY (encL encY 1 xs)))) (ra27 (decL decY (encL encY 1 xs)) x.2.1 (3 : Int))))])
noncomputable def k34_1 (xs : List Int) : V := (encL encY 1 (decL decY (encL encY 1 xs)))
noncomputable def k34_2 (xs : List Int) (y : Nat × Int × List Watch) : AS := (AS.mk [(0, V.oref 0 0 0), (3, V.osl 32000256 (List.length y.2.2)), (4, vi (↑y.1 : Int))] [(32000256, Blk.arr 2 (List.length y.2.2) (gL (encWatch 1) y.2.2) 100), (0, Blk.box [encL encY 0 xs, vi y.2.1])])
noncomputable def k34_3 (xs : List Int) (x : Nat × Int × List Watch) : List V := [V.agg [vi ((1 : Int) + nextF (decL decY (encL encY 1 xs)) x.2.1 (3 : Int)), V.str (Prod.fst (drawP (decL decY (k34_1 xs)) (ra27 (decL decY (encL encY 1 xs)) x.2.1 (3 : Int))))]]
theorem bd34 (xs : List Int) (at_ : Int)  (hpre : pr34 xs at_ ) : bodyO (cx34 xs at_ ) Tryz.f34 [(0, 2)] [.oref 0 0 0] [(.box [encL encY 1 xs, .int .i64 at_])] (fun rr bs => VLe rr (rs34 xs at_ ) ∧ BinLe bs [(.box [encL encY 1 xs, .int .i64 (ra34 xs at_ )]), (.arr 2 (ro34 xs at_ ).length (gL (encWatch 1) (ro34 xs at_ )) tagS)]) := by
  have key : ((((0 = 0) ∧ ((0 = 0) ∧ (0 = 0))) ∧ ((VLe (encL encY 1 xs) (k34_1 xs)) ∧ (pr27 (decL decY (encL encY 1 xs)) at_ (7 : Int)))) ∧ ((∃ x : Nat × Int × List Watch, ((SLe (AS.mk [(0, V.oref 0 0 0), (3, V.osl 32000256 0), (4, vi (nextF (decL decY (encL encY 1 xs)) at_ (7 : Int)))] [(32000256, Blk.arr 2 0 (rowg []) 100), (0, Blk.box [encL encY 0 (decL decY (encL encY 1 xs)), vi (ra27 (decL decY (encL encY 1 xs)) at_ (7 : Int))])]) (AS.mk [(0, V.oref 0 0 0), (3, V.osl 32000256 (List.length x.2.2)), (4, vi (↑x.1 : Int))] [(32000256, Blk.arr 2 (List.length x.2.2) (gL (encWatch 1) x.2.2) 100), (0, Blk.box [encL encY 0 xs, vi x.2.1])])) ∧ (goW xs at_ x))) ∧ (∀ x : Nat × Int × List Watch, ((goW xs at_ x) → (((decide ((↑x.1 : Int) > (0 : Int)) = true) → ((((0 = 0) ∧ ((0 = 0) ∧ (0 = 0))) ∧ ((VLe (encL encY 1 xs) (k34_1 xs)) ∧ (pr27 (decL decY (encL encY 1 xs)) x.2.1 (3 : Int)))) ∧ ((inK IntKind.i64 ((1 : Int) + nextF (decL decY (encL encY 1 xs)) x.2.1 (3 : Int))) ∧ ((((0 = 0) ∧ ((0 = 0) ∧ (0 = 0))) ∧ ((VLe (k34_1 xs) (encL encY 1 (decL decY (k34_1 xs)))) ∧ (pr28 (decL decY (k34_1 xs)) (ra27 (decL decY (encL encY 1 xs)) x.2.1 (3 : Int))))) ∧ (((VLe (encL (encWatch 1) 1 x.2.2) (encL (encWatch 1) 1 (decL decWatch (encL (encWatch 1) 1 x.2.2)))) ∧ ((VLe (k34_0 xs x) (encWatch 1 (decWatch (k34_0 xs x)))) ∧ (pr39 (decL decWatch (encL (encWatch 1) 1 x.2.2)) (decWatch (k34_0 xs x))))) ∧ (((decide (atW (decL decWatch (encL (encWatch 1) 1 x.2.2)) (decWatch (k34_0 xs x)) < (0 : Int)) = true) → ((List.length x.2.2 = List.length x.2.2) ∧ ((List.length x.2.2 + 1 ≤ 1073741824) ∧ ((sizedL 2 1 (rowg (k34_3 xs x))) ∧ ((inK IntKind.i64 ((↑x.1 : Int) - (1 : Int))) ∧ (∃ y : Nat × Int × List Watch, ((SLe (AS.mk [(0, V.oref 0 0 0), (3, V.osl 32000256 (List.length x.2.2 + 1)), (4, vi ((↑x.1 : Int) - (1 : Int)))] [(32000256, Blk.arr 2 (List.length x.2.2 + 1) (appg (List.length x.2.2) (gL (encWatch 1) x.2.2) (rowg (k34_3 xs x))) 100), (0, Blk.box [encL encY 0 (decL decY (k34_1 xs)), vi (ra28 (decL decY (k34_1 xs)) (ra27 (decL decY (encL encY 1 xs)) x.2.1 (3 : Int)))])]) (k34_2 xs y)) ∧ ((goW xs at_ y) ∧ (Prod.fst y < Prod.fst x))))))))) ∧ ((decide (atW (decL decWatch (encL (encWatch 1) 1 x.2.2)) (decWatch (k34_0 xs x)) < (0 : Int)) = false) → ((inK IntKind.i64 ((↑x.1 : Int) - (1 : Int))) ∧ (∃ y : Nat × Int × List Watch, ((SLe (AS.mk [(0, V.oref 0 0 0), (3, V.osl 32000256 (List.length x.2.2)), (4, vi ((↑x.1 : Int) - (1 : Int)))] [(32000256, Blk.arr 2 (List.length x.2.2) (gL (encWatch 1) x.2.2) 100), (0, Blk.box [encL encY 0 (decL decY (k34_1 xs)), vi (ra28 (decL decY (k34_1 xs)) (ra27 (decL decY (encL encY 1 xs)) x.2.1 (3 : Int)))])]) (k34_2 xs y)) ∧ ((goW xs at_ y) ∧ (Prod.fst y < Prod.fst x)))))))))))) ∧ ((decide ((↑x.1 : Int) > (0 : Int)) = false) → ((VLe (V.osl 1 (List.length x.2.2)) (V.osl 1 (List.length (ro34 xs at_)))) ∧ ((BLe (Blk.box [encL encY 1 xs, vi x.2.1]) (Blk.box [encL encY 1 xs, vi (ra34 xs at_)])) ∧ ((BLe (Blk.arr 2 (List.length x.2.2) (gL (encWatch 1) x.2.2) 100) (Blk.arr 2 (List.length (ro34 xs at_)) (gL (encWatch 1) (ro34 xs at_)) 100)) ∧ (True)))))))))) := by
    delta k34_3; delta k34_2; delta k34_1; delta k34_0; delta vi
    obtain ⟨h0, h1⟩ := hpre
    have h3 := h0.2.2.1
    have b1 := nextF_bd h0 7
    have b17 := b1.2.1 (by decide)
    have v1 : nextF xs at_ 7 = (((nextF xs at_ 7).toNat : Nat) : Int) := by omega
    have hw : ∀ c s, decWatch (.agg [.int .i64 c, .str s]) = ⟨c, s⟩ := fun _ _ => rfl
    simp only [decL_bytes, decL_Watch, hw, ra27, ra28]
    refine ⟨srcO h0, ⟨((nextF xs at_ 7).toNat, at_ + 1, []), sle_of ⟨rfl, VLe.refl _, rfl, VLe.refl _, rfl, vle_int v1, trivial⟩ ⟨rfl, ble_nil _, rfl, BLe.refl _, trivial⟩, rfl, by simp only; omega, by simp only; omega, by simp only [List.length_nil]; omega⟩, ?_⟩
    rintro ⟨f, a, l⟩ ⟨he, ha1, ha2, hl⟩
    simp only at he ha1 ha2 hl ⊢
    refine ⟨fun h => ?_, fun h => ?_⟩
    · cases f with
      | zero => have := of_decide_eq_true h; omega
      | succ f =>
        have h4 : okX xs a := h0.to (by omega) (by omega)
        have h5 : okX xs (a + 1) := h0.to (by omega) (by omega)
        have d := drawP_bd h5
        have b2 := nextF_bd h4 3
        have b3 := b2.2.1 (by decide)
        have hm : l.length ≤ maxLen := by unfold maxLen; omega
        have v2 : ((f + 1 : Nat) : Int) - 1 = ((f : Nat) : Int) := by omega
        have hi := atW_in l ⟨1 + nextF xs a 3, (drawP xs (a + 1)).1⟩
        have hs : watchD xs (f + 1) a l = watchD xs f (drawP xs (a + 1)).2 (if (⟨1 + nextF xs a 3, (drawP xs (a + 1)).1⟩ : Watch) ∈ l then l else l ++ [⟨1 + nextF xs a 3, (drawP xs (a + 1)).1⟩]) := rfl
        rw [hs] at he
        refine ⟨srcO h4, inK64 (by omega), srcO ⟨h5, by omega⟩, ⟨VLe.refl _, VLe.refl _, hm⟩, fun h6 => ?_, fun h6 => ?_⟩
        · have h7 : ¬ (⟨1 + nextF xs a 3, (drawP xs (a + 1)).1⟩ : Watch) ∈ l := fun g => by
            rw [decide_eq_true g] at hi
            have := of_decide_eq_true hi
            have := of_decide_eq_true h6
            omega
          rw [if_neg h7] at he
          refine ⟨trivial, by omega, sizedL_z rfl rfl, inK64 (by omega), (f, (drawP xs (a + 1)).2, l ++ [⟨1 + nextF xs a 3, (drawP xs (a + 1)).1⟩]), ?_, ⟨he, by simp only; omega, by simp only; omega, by simp only [List.length_append, List.length_singleton]; omega⟩, by simp only; omega⟩
          simp only [List.length_append, List.length_singleton]
          exact sle_of ⟨rfl, VLe.refl _, rfl, VLe.refl _, rfl, vle_int v2, trivial⟩ ⟨rfl, ble_push rfl rfl, rfl, BLe.refl _, trivial⟩
        · have h7 : (⟨1 + nextF xs a 3, (drawP xs (a + 1)).1⟩ : Watch) ∈ l := Classical.byContradiction fun g => by
            rw [decide_eq_false g] at hi
            have := of_decide_eq_false hi
            have := of_decide_eq_false h6
            omega
          rw [if_pos h7] at he
          exact ⟨inK64 (by omega), (f, (drawP xs (a + 1)).2, l), sle_of ⟨rfl, VLe.refl _, rfl, VLe.refl _, rfl, vle_int v2, trivial⟩ ⟨rfl, BLe.refl _, rfl, BLe.refl _, trivial⟩, ⟨he, by simp only; omega, by simp only; omega, by simp only; omega⟩, by simp only; omega⟩
    · have hf : f = 0 := by have := of_decide_eq_false h; omega
      subst hf
      have e1 : (l, a) = rightW xs at_ := he
      have e2 : ra34 xs at_ = a := by
        show (rightW xs at_).2 = a
        rw [← e1]
      have e3 : ro34 xs at_ = l := by
        show (rightW xs at_).1 = l
        rw [← e1]
      rw [e2, e3]
      exact ⟨VLe.refl _, BLe.refl _, BLe.refl _, trivial⟩
  exact Eq.mp (by kernel_rfl) key
noncomputable def sp34 : FSpec := fun args bin => match args, bin with
  | [.oref i0 j0 o0], [.box [v0, .int .i64 p0]] => some ((i0 = 0 ∧ j0 = 0 ∧ o0 = 0) ∧ VLe v0 (encL encY 1 (decL decY v0)) ∧ pr34 (decL decY v0) p0, rs34 (decL decY v0) p0, [.box [encL encY 1 (decL decY v0), .int .i64 (ra34 (decL decY v0) p0)]] ++ rb34 (decL decY v0) p0)
  | _, _ => none
theorem so34 : Sound Tryz.prog 34 sp34 := by
  refine sound_of_bodyO hmix (tpl := [(0, 2)]) Tryz.func34 rfl (by kernel_rfl) fun args bin ob r bout hDe hob => ?_
  unfold sp34 at hDe
  split at hDe
  · rename_i i0 j0 o0 v0 p0
    cases hDe
    obtain ⟨⟨rfl, rfl, rfl⟩, h0, hpre⟩ := hob
    have hb := bd34 (decL decY v0) p0 hpre
    exact ⟨Nat.le_of_ble_eq_true (by kernel_rfl), cx34 (decL decY v0) p0, Eq.mp (by kernel_rfl) htt, Eq.mp (by kernel_rfl) da34, Eq.mp (by kernel_rfl) (noM_sound (P := Tryz.prog)), by kernel_rfl, [.oref 0 0 0], [(.box [encL encY 1 (decL decY v0), .int .i64 p0])], args_of_vles (l' := [.oref 0 0 0]) ⟨VLe.refl _, trivial⟩, ⟨ble_box ⟨h0, VLe.refl _, trivial⟩, trivial⟩, Eq.mp (by kernel_rfl) hb⟩
  · cases hDe

/-! ### spec.l7Bent -/
def pr13 (xs : List Int) (at_ : Int)  : Prop := okX xs at_ ∧ at_ ≤ 800000
noncomputable def ro13 (xs : List Int) (at_ : Int)  : List Watch := (bentW xs at_).1
noncomputable def rs13 (xs : List Int) (at_ : Int)  : V := .osl 1 (ro13 xs at_ ).length
noncomputable def rb13 (xs : List Int) (at_ : Int)  : List Blk := [(.arr 2 (ro13 xs at_ ).length (gL (encWatch 1) (ro13 xs at_ )) tagS)]
noncomputable def ra13 (xs : List Int) (at_ : Int)  : Int := (bentW xs at_).2
noncomputable def D13 : Nat → Option (Bool × FSpec) := lk [(27, (true, sp27)), (35, (true, sp35)), (36, (true, sp36)), (34, (true, sp34))]
theorem da13 : SoundAll Tryz.prog D13 := soundAll_cons so27 (soundAll_cons so35 (soundAll_cons so36 (soundAll_cons so34 (soundAll_nil))))
noncomputable def cx13 (xs : List Int) (at_ : Int)  : Cx := ⟨tt, D13, Tryz.f13.ntmps, [0, 2, 3, 7, 8, 19], [], [], fun _ => none, [], noM, []⟩
noncomputable def k13_0 (xs : List Int) : List Int := (decL decY (encL encY 1 (decL decY (encL encY 1 xs))))
noncomputable def k13_1 (xs : List Int) (at_ : Int) : Int := (ra35 (decL decY (encL encY 1 (k13_0 xs))) (ra27 (k13_0 xs) (ra34 (decL decY (encL encY 1 xs)) at_) (12 : Int)) (List.map (fun (i : Nat) ↦ intA (vi (List.getD [(0 : Int), (1 : Int), (10 : Int)] i (0 : Int)))) (List.range 3)))
noncomputable def k13_2 (xs : List Int) (at_ : Int) : List V := [V.agg [vi (pickF (decL decY (encL encY 1 (k13_0 xs))) (ra27 (k13_0 xs) (ra34 (decL decY (encL encY 1 xs)) at_) (12 : Int)) (List.map (fun (i : Nat) ↦ intA (vi (List.getD [(0 : Int), (1 : Int), (10 : Int)] i (0 : Int)))) (List.range 3))), V.str (Prod.fst (bentP (decL decY (encL encY 1 (decL decY (encL encY 1 (k13_0 xs))))) (k13_1 xs at_)))]]
noncomputable def k13_3 (xs : List Int) : V := (encL encY 1 (decL decY (encL encY 1 (k13_0 xs))))
noncomputable def k13_4 (xs : List Int) (at_ : Int) : Prop := (BLe (Blk.box [encL encY 1 (k13_0 xs), vi (ra27 (k13_0 xs) (ra34 (decL decY (encL encY 1 xs)) at_) (12 : Int))]) (Blk.box [encL encY 1 xs, vi (ra13 xs at_)]))
noncomputable def k13_5 (xs : List Int) (at_ : Int) : Blk := (Blk.arr 2 (List.length (ro13 xs at_)) (gL (encWatch 1) (ro13 xs at_)) 100)
theorem bd13 (xs : List Int) (at_ : Int)  (hpre : pr13 xs at_ ) : bodyO (cx13 xs at_ ) Tryz.f13 [(0, 2)] [.oref 0 0 0] [(.box [encL encY 1 xs, .int .i64 at_])] (fun rr bs => VLe rr (rs13 xs at_ ) ∧ BinLe bs [(.box [encL encY 1 xs, .int .i64 (ra13 xs at_ )]), (.arr 2 (ro13 xs at_ ).length (gL (encWatch 1) (ro13 xs at_ )) tagS)]) := by
  have key : ((((0 = 0) ∧ ((0 = 0) ∧ (0 = 0))) ∧ ((VLe (encL encY 1 xs) (encL encY 1 (decL decY (encL encY 1 xs)))) ∧ (pr34 (decL decY (encL encY 1 xs)) at_))) ∧ ((((0 = 0) ∧ ((0 = 0) ∧ (0 = 0))) ∧ ((VLe (encL encY 1 (decL decY (encL encY 1 xs))) (encL encY 1 (k13_0 xs))) ∧ (pr27 (k13_0 xs) (ra34 (decL decY (encL encY 1 xs)) at_) (12 : Int)))) ∧ ((((nextF (k13_0 xs) (ra34 (decL decY (encL encY 1 xs)) at_) (12 : Int) == (0 : Int)) = true) → ((((0 = 0) ∧ ((0 = 0) ∧ (0 = 0))) ∧ ((VLe (encL encY 1 (k13_0 xs)) (k13_3 xs)) ∧ (((1 = 1) ∧ ((1 = 1) ∧ ((100 = 100) ∧ ((3 = 3) ∧ (∀ i : Nat, ((i < 3) → (ELe (vi (List.getD [(0 : Int), (1 : Int), (10 : Int)] i (0 : Int))) (vi (intA (vi (List.getD [(0 : Int), (1 : Int), (10 : Int)] i (0 : Int)))))))))))) ∧ (pr35 (decL decY (encL encY 1 (k13_0 xs))) (ra27 (k13_0 xs) (ra34 (decL decY (encL encY 1 xs)) at_) (12 : Int)) (List.map (fun (i : Nat) ↦ intA (vi (List.getD [(0 : Int), (1 : Int), (10 : Int)] i (0 : Int)))) (List.range 3)))))) ∧ ((3 = 3) ∧ ((((0 = 0) ∧ ((0 = 0) ∧ (0 = 0))) ∧ ((VLe (k13_3 xs) (encL encY 1 (decL decY (k13_3 xs)))) ∧ (pr36 (decL decY (k13_3 xs)) (k13_1 xs at_)))) ∧ ((List.length (ro34 (decL decY (encL encY 1 xs)) at_) = List.length (ro34 (decL decY (encL encY 1 xs)) at_)) ∧ ((List.length (ro34 (decL decY (encL encY 1 xs)) at_) + 1 ≤ 1073741824) ∧ ((sizedL 2 1 (rowg (k13_2 xs at_))) ∧ ((VLe (V.osl 1 (List.length (ro34 (decL decY (encL encY 1 xs)) at_) + 1)) (V.osl 1 (List.length (ro13 xs at_)))) ∧ ((BLe (Blk.box [encL encY 1 (decL decY (k13_3 xs)), vi (ra36 (decL decY (k13_3 xs)) (k13_1 xs at_))]) (Blk.box [encL encY 1 xs, vi (ra13 xs at_)])) ∧ ((BLe (Blk.arr 2 (List.length (ro34 (decL decY (encL encY 1 xs)) at_) + 1) (appg (List.length (ro34 (decL decY (encL encY 1 xs)) at_)) (gL (encWatch 1) (ro34 (decL decY (encL encY 1 xs)) at_)) (rowg (k13_2 xs at_))) 100) (k13_5 xs at_)) ∧ (True))))))))))) ∧ (((nextF (k13_0 xs) (ra34 (decL decY (encL encY 1 xs)) at_) (12 : Int) == (0 : Int)) = false) → ((((nextF (k13_0 xs) (ra34 (decL decY (encL encY 1 xs)) at_) (12 : Int) == (1 : Int)) = true) → ((((0 : Int) ≤ (21 : Int)) ∧ (((21 : Int) ≤ (21 : Int)) ∧ ((21 : Int) ≤ (↑1073741824 : Int)))) ∧ ((VLe (V.osl 1 21) (V.osl 1 (List.length (ro13 xs at_)))) ∧ ((k13_4 xs at_) ∧ ((BLe (Blk.arr 2 21 (fun (x : Nat) ↦ V.agg [vi (0 : Int), V.str (ByteArray.mk #[])]) 100) (k13_5 xs at_)) ∧ (True)))))) ∧ (((nextF (k13_0 xs) (ra34 (decL decY (encL encY 1 xs)) at_) (12 : Int) == (1 : Int)) = false) → ((VLe (V.osl 1 (List.length (ro34 (decL decY (encL encY 1 xs)) at_))) (V.osl 1 (List.length (ro13 xs at_)))) ∧ ((k13_4 xs at_) ∧ ((BLe (Blk.arr 2 (List.length (ro34 (decL decY (encL encY 1 xs)) at_)) (gL (encWatch 1) (ro34 (decL decY (encL encY 1 xs)) at_)) 100) (k13_5 xs at_)) ∧ (True)))))))))) := by
    delta k13_5; delta k13_4; delta k13_3; delta k13_2; delta k13_1; delta k13_0; delta vi
    obtain ⟨h0, h1⟩ := hpre
    have h3 := h0.2.2.1
    have r := rightW_bd h0 (by omega)
    have h4 : okX xs (rightW xs at_).2 := h0.to (by omega) (by omega)
    have h5 : okX xs ((rightW xs at_).2 + 1) := h0.to (by omega) (by omega)
    have h6 : okX xs ((rightW xs at_).2 + 1 + 1) := h0.to (by omega) (by omega)
    have ea : (rightW xs at_).2 + 1 + 1 = (rightW xs at_).2 + 2 := by omega
    simp only [decL_bytes, decL_Watch, pkW, ra27, ra35, ra36, ra34, ro34, ra13, ro13]
    refine ⟨srcO ⟨h0, by omega⟩, srcO h4, fun h => ?_, fun h => ⟨fun h2 => ?_, fun h2 => ?_⟩⟩
    · have e : bentW xs at_ = ((rightW xs at_).1 ++ [⟨pickF xs ((rightW xs at_).2 + 1) [0, 1, 10], (bentP xs ((rightW xs at_).2 + 2)).1⟩], (bentP xs ((rightW xs at_).2 + 2)).2) := by
        unfold bentW
        rw [if_pos (eq_of_beq h)]
      rw [e, ea]
      rw [ea] at h6
      simp only [List.length_append, List.length_singleton]
      exact ⟨pickO ⟨h5, by decide, by decide⟩, trivial, srcO ⟨h6, by omega⟩, trivial, by omega, sizedL_z rfl rfl, VLe.refl _, BLe.refl _, ble_push rfl rfl, trivial⟩
    · have e : bentW xs at_ = (List.replicate 21 ⟨0, nilB⟩, (rightW xs at_).2 + 1) := by
        unfold bentW
        rw [if_neg (by simpa using h), if_pos (eq_of_beq h2)]
      rw [e]
      simp only [List.length_replicate]
      refine ⟨⟨by decide, by decide, by decide⟩, VLe.refl _, BLe.refl _, ble_arr (fun i hi => ?_) (Or.inl rfl), trivial⟩
      have : gL (encWatch 1) (List.replicate 21 (⟨0, nilB⟩ : Watch)) i = .agg [.int .i64 0, .str ⟨#[]⟩] := by
        unfold gL
        rw [List.getD_eq_getElem?_getD, List.getElem?_replicate, if_pos hi]
        rfl
      rw [this]
      exact ELe.refl _
    · have e : bentW xs at_ = ((rightW xs at_).1, (rightW xs at_).2 + 1) := by
        unfold bentW
        rw [if_neg (by simpa using h), if_neg (by simpa using h2)]
      rw [e]
      exact ⟨VLe.refl _, BLe.refl _, BLe.refl _, trivial⟩
  exact Eq.mp (by kernel_rfl) key
noncomputable def sp13 : FSpec := fun args bin => match args, bin with
  | [.oref i0 j0 o0], [.box [v0, .int .i64 p0]] => some ((i0 = 0 ∧ j0 = 0 ∧ o0 = 0) ∧ VLe v0 (encL encY 1 (decL decY v0)) ∧ pr13 (decL decY v0) p0, rs13 (decL decY v0) p0, [.box [encL encY 1 (decL decY v0), .int .i64 (ra13 (decL decY v0) p0)]] ++ rb13 (decL decY v0) p0)
  | _, _ => none
theorem so13 : Sound Tryz.prog 13 sp13 := by
  refine sound_of_bodyO hmix (tpl := [(0, 2)]) Tryz.func13 rfl (by kernel_rfl) fun args bin ob r bout hDe hob => ?_
  unfold sp13 at hDe
  split at hDe
  · rename_i i0 j0 o0 v0 p0
    cases hDe
    obtain ⟨⟨rfl, rfl, rfl⟩, h0, hpre⟩ := hob
    have hb := bd13 (decL decY v0) p0 hpre
    exact ⟨Nat.le_of_ble_eq_true (by kernel_rfl), cx13 (decL decY v0) p0, Eq.mp (by kernel_rfl) htt, Eq.mp (by kernel_rfl) da13, Eq.mp (by kernel_rfl) (noM_sound (P := Tryz.prog)), by kernel_rfl, [.oref 0 0 0], [(.box [encL encY 1 (decL decY v0), .int .i64 p0])], args_of_vles (l' := [.oref 0 0 0]) ⟨VLe.refl _, trivial⟩, ⟨ble_box ⟨h0, VLe.refl _, trivial⟩, trivial⟩, Eq.mp (by kernel_rfl) hb⟩
  · cases hDe

end Go.Av
