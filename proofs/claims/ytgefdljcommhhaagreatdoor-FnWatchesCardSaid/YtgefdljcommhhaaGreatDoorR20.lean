/- The paths that a source draws. -/
import Derived.Test.YtgefdljcommhhaaGreatDoorT6
import Derived.Test.YtgefdljcommhhaaGreatDoorR1
namespace Go.Av
open Go.Proofs
set_option maxRecDepth 100000
set_option maxHeartbeats 4000000
set_option linter.unusedVariables false
set_option linter.unusedSimpArgs false

theorem srcO {xs : List Int} {p : Prop} (h : p) : (True ∧ True ∧ True) ∧ VLe (encL encY 1 xs) (encL encY 1 xs) ∧ p := ⟨⟨trivial, trivial, trivial⟩, VLe.refl _, h⟩
theorem okX.up {xs : List Int} {a : Int} (h : okX xs a) (k : Int) (h1 : 0 ≤ k) (h2 : a + k ≤ 1000000) : okX xs (a + k) := h.to (by have := h.2.2.1; omega) h2
def goP (xs : List Int) (at_ : Int) (q : Nat × Int × ByteArray) : Prop := pathD xs q.1 q.2.1 q.2.2 = drawP xs at_ ∧ at_ + 1 ≤ q.2.1 ∧ q.2.1 + q.1 ≤ at_ + 4 ∧ q.2.2.size + 2 * q.1 ≤ 7

/-! ### spec.l1Draw -/
def pr28 (xs : List Int) (at_ : Int)  : Prop := okX xs at_ ∧ at_ ≤ 990000
noncomputable def rs28 (xs : List Int) (at_ : Int)  : V := .str ((drawP xs at_).1)
noncomputable def ra28 (xs : List Int) (at_ : Int)  : Int := (drawP xs at_).2
noncomputable def in28_3 (xs : List Int) (at_ : Int)  : LoopInv :=
  ⟨Nat × Int × ByteArray, fun q => ⟨[(0, .oref 0 0 0), (3, .str q.2.2), (4, .int .i64 q.1)], [(0, .box [encL encY 0 xs, .int .i64 q.2.1])]⟩, fun q => goP xs at_ q, fun q => q.1⟩
noncomputable def iv28 (xs : List Int) (at_ : Int)  : Nat → Option LoopInv := fun k0 => match k0 with
  | 3 => some (in28_3 xs at_ )
  | _ => none
noncomputable def D28 : Nat → Option (Bool × FSpec) := lk [(27, (true, sp27)), (55, (false, sp55))]
theorem da28 : SoundAll Tryz.prog D28 := soundAll_cons so27 (soundAll_cons so55 (soundAll_nil))
noncomputable def cx28 (xs : List Int) (at_ : Int)  : Cx := ⟨tt, D28, Tryz.f28.ntmps, [0, 2, 3, 4, 8], [(3, ⟨[(0, none), (3, none), (4, none)], [(0, [])]⟩)], [], iv28 xs at_ , [], noM, []⟩
theorem bd28 (xs : List Int) (at_ : Int)  (hpre : pr28 xs at_ ) : bodyO (cx28 xs at_ ) Tryz.f28 [] [.oref 0 0 0] [(.box [encL encY 1 xs, .int .i64 at_])] (fun rr bs => VLe rr (rs28 xs at_ ) ∧ BinLe bs [(.box [encL encY 1 xs, .int .i64 (ra28 xs at_ )])]) := by
  have key : ((((0 = 0) ∧ ((0 = 0) ∧ (0 = 0))) ∧ ((VLe (encL encY 1 xs) (encL encY 1 (decL decY (encL encY 1 xs)))) ∧ (pr27 (decL decY (encL encY 1 xs)) at_ (4 : Int)))) ∧ ((∃ x : Nat × Int × ByteArray, ((SLe (AS.mk [(0, V.oref 0 0 0), (3, V.str (ByteArray.mk #[(47 : UInt8)])), (4, vi (nextF (decL decY (encL encY 1 xs)) at_ (4 : Int)))] [(0, Blk.box [encL encY 0 (decL decY (encL encY 1 xs)), vi (ra27 (decL decY (encL encY 1 xs)) at_ (4 : Int))])]) (AS.mk [(0, V.oref 0 0 0), (3, V.str x.2.2), (4, vi (↑x.1 : Int))] [(0, Blk.box [encL encY 0 xs, vi x.2.1])])) ∧ (goP xs at_ x))) ∧ (∀ x : Nat × Int × ByteArray, ((goP xs at_ x) → (((decide ((↑x.1 : Int) > (0 : Int)) = true) → ((((0 = 0) ∧ ((0 = 0) ∧ (0 = 0))) ∧ ((VLe (encL encY 1 xs) (encL encY 1 (decL decY (encL encY 1 xs)))) ∧ (pr27 (decL decY (encL encY 1 xs)) x.2.1 (3 : Int)))) ∧ ((((0 : Int) ≤ nextF (decL decY (encL encY 1 xs)) x.2.1 (3 : Int)) ∧ (nextF (decL decY (encL encY 1 xs)) x.2.1 (3 : Int) < (↑3 : Int))) ∧ ((Int.toNat (nextF (decL decY (encL encY 1 xs)) x.2.1 (3 : Int)) < 3) ∧ ((pr55 x.2.2 (List.getD [ByteArray.mk #[(97 : UInt8)], ByteArray.mk #[(98 : UInt8)], ByteArray.mk #[(99 : UInt8)]] (Int.toNat (nextF (decL decY (encL encY 1 xs)) x.2.1 (3 : Int))) default)) ∧ ((inK IntKind.i64 ((↑x.1 : Int) - (1 : Int))) ∧ (∃ y : Nat × Int × ByteArray, ((SLe (AS.mk [(0, V.oref 0 0 0), (3, V.str (joinF x.2.2 (List.getD [ByteArray.mk #[(97 : UInt8)], ByteArray.mk #[(98 : UInt8)], ByteArray.mk #[(99 : UInt8)]] (Int.toNat (nextF (decL decY (encL encY 1 xs)) x.2.1 (3 : Int))) default))), (4, vi ((↑x.1 : Int) - (1 : Int)))] [(0, Blk.box [encL encY 0 (decL decY (encL encY 1 xs)), vi (ra27 (decL decY (encL encY 1 xs)) x.2.1 (3 : Int))])]) (AS.mk [(0, V.oref 0 0 0), (3, V.str y.2.2), (4, vi (↑y.1 : Int))] [(0, Blk.box [encL encY 0 xs, vi y.2.1])])) ∧ ((goP xs at_ y) ∧ (Prod.fst y < Prod.fst x)))))))))) ∧ ((decide ((↑x.1 : Int) > (0 : Int)) = false) → ((VLe (V.str x.2.2) (V.str (Prod.fst (drawP xs at_)))) ∧ ((BLe (Blk.box [encL encY 1 xs, vi x.2.1]) (Blk.box [encL encY 1 xs, vi (ra28 xs at_)])) ∧ (True))))))))) := by
    delta vi
    obtain ⟨h0, h1⟩ := hpre
    have h3 := h0.2.2.1
    have b1 := nextF_bd h0 4
    simp only [decL_bytes, ra27]
    have v1 : nextF xs at_ 4 = (((nextF xs at_ 4).toNat : Nat) : Int) := by omega
    refine ⟨srcO h0, ⟨((nextF xs at_ 4).toNat, at_ + 1, top), sle_of ⟨rfl, VLe.refl _, rfl, VLe.refl _, rfl, vle_int v1, trivial⟩ ⟨rfl, BLe.refl _, trivial⟩, rfl, by simp only; omega, by simp only; omega, ?_⟩, ?_⟩
    · have : top.size = 1 := rfl
      simp only
      omega
    rintro ⟨f, a, p⟩ ⟨he, ha1, ha2, hp⟩
    simp only at he ha1 ha2 hp ⊢
    refine ⟨fun h => ?_, fun h => ?_⟩
    · have hf : 0 < f := by have := of_decide_eq_true h; omega
      have h4 : okX xs a := h0.to (by omega) (by omega)
      have b2 := nextF_bd h4 3
      have b3 := b2.2.1 (by decide)
      have j1 := joinF_size p (abcF (nextF xs a 3))
      have j2 := abcF_size (nextF xs a 3)
      have eq : ([⟨#[97]⟩, ⟨#[98]⟩, ⟨#[99]⟩] : List ByteArray).getD (nextF xs a 3).toNat default = abcF (nextF xs a 3) := rfl
      rw [eq]
      have v2 : (f : Int) - 1 = ((f - 1 : Nat) : Int) := by omega
      refine ⟨srcO h4, ⟨b2.1, b3⟩, by omega, ⟨by omega, by omega⟩, inK64 (by omega), (f - 1, a + 1, joinF p (abcF (nextF xs a 3))), sle_of ⟨rfl, VLe.refl _, rfl, VLe.refl _, rfl, vle_int v2, trivial⟩ ⟨rfl, BLe.refl _, trivial⟩, ⟨?_, by simp only; omega, by simp only; omega, by simp only; omega⟩, by simp only; omega⟩
      cases f with
      | zero => omega
      | succ f =>
        rw [← he]
        rfl
    · have hf : f = 0 := by have := of_decide_eq_false h; omega
      subst hf
      have e1 : (p, a) = drawP xs at_ := he
      have e2 : ra28 xs at_ = a := by
        show (drawP xs at_).2 = a
        rw [← e1]
      rw [e2, ← e1]
      exact ⟨VLe.refl _, BLe.refl _, trivial⟩
  exact Eq.mp (by kernel_rfl) key
noncomputable def sp28 : FSpec := fun args bin => match args, bin with
  | [.oref i0 j0 o0], [.box [v0, .int .i64 p0]] => some ((i0 = 0 ∧ j0 = 0 ∧ o0 = 0) ∧ VLe v0 (encL encY 1 (decL decY v0)) ∧ pr28 (decL decY v0) p0, rs28 (decL decY v0) p0, [.box [encL encY 1 (decL decY v0), .int .i64 (ra28 (decL decY v0) p0)]])
  | _, _ => none
theorem so28 : Sound Tryz.prog 28 sp28 := by
  refine sound_of_bodyO hmix (tpl := []) Tryz.func28 rfl (by kernel_rfl) fun args bin ob r bout hDe hob => ?_
  unfold sp28 at hDe
  split at hDe
  · rename_i i0 j0 o0 v0 p0
    cases hDe
    obtain ⟨⟨rfl, rfl, rfl⟩, h0, hpre⟩ := hob
    have hb := bd28 (decL decY v0) p0 hpre
    exact ⟨Nat.le_of_ble_eq_true (by kernel_rfl), cx28 (decL decY v0) p0, Eq.mp (by kernel_rfl) htt, Eq.mp (by kernel_rfl) da28, Eq.mp (by kernel_rfl) (noM_sound (P := Tryz.prog)), by kernel_rfl, [.oref 0 0 0], [(.box [encL encY 1 (decL decY v0), .int .i64 p0])], args_of_vles (l' := [.oref 0 0 0]) ⟨VLe.refl _, trivial⟩, ⟨ble_box ⟨h0, VLe.refl _, trivial⟩, trivial⟩, Eq.mp (by kernel_rfl) hb⟩
  · cases hDe

/-! ### spec.l1Bent -/
def pr36 (xs : List Int) (at_ : Int)  : Prop := okX xs at_ ∧ at_ ≤ 980000
noncomputable def rs36 (xs : List Int) (at_ : Int)  : V := .str ((bentP xs at_).1)
noncomputable def ra36 (xs : List Int) (at_ : Int)  : Int := (bentP xs at_).2
noncomputable def D36 : Nat → Option (Bool × FSpec) := lk [(27, (true, sp27)), (28, (true, sp28))]
theorem da36 : SoundAll Tryz.prog D36 := soundAll_cons so27 (soundAll_cons so28 (soundAll_nil))
noncomputable def cx36 (xs : List Int) (at_ : Int)  : Cx := ⟨tt, D36, Tryz.f36.ntmps, [0, 2, 3, 7, 8, 12], [], [], fun _ => none, [], noM, []⟩
noncomputable def k36_0 (xs : List Int) : List Int := (decL decY (encL encY 1 (decL decY (encL encY 1 xs))))
noncomputable def k36_1 (xs : List Int) (at_ : Int) : Int := (ra27 (k36_0 xs) (ra28 (decL decY (encL encY 1 xs)) at_) (10 : Int))
theorem bd36 (xs : List Int) (at_ : Int)  (hpre : pr36 xs at_ ) : bodyO (cx36 xs at_ ) Tryz.f36 [] [.oref 0 0 0] [(.box [encL encY 1 xs, .int .i64 at_])] (fun rr bs => VLe rr (rs36 xs at_ ) ∧ BinLe bs [(.box [encL encY 1 xs, .int .i64 (ra36 xs at_ )])]) := by
  have key : ((((0 = 0) ∧ ((0 = 0) ∧ (0 = 0))) ∧ ((VLe (encL encY 1 xs) (encL encY 1 (decL decY (encL encY 1 xs)))) ∧ (pr28 (decL decY (encL encY 1 xs)) at_))) ∧ ((((0 = 0) ∧ ((0 = 0) ∧ (0 = 0))) ∧ ((VLe (encL encY 1 (decL decY (encL encY 1 xs))) (encL encY 1 (k36_0 xs))) ∧ (pr27 (k36_0 xs) (ra28 (decL decY (encL encY 1 xs)) at_) (10 : Int)))) ∧ ((((nextF (k36_0 xs) (ra28 (decL decY (encL encY 1 xs)) at_) (10 : Int) == (0 : Int)) = true) → ((ByteArray.size (Prod.fst (drawP (decL decY (encL encY 1 xs)) at_)) + 1 ≤ 4611686018427387904) ∧ ((VLe (V.str (Prod.fst (drawP (decL decY (encL encY 1 xs)) at_) ++ ByteArray.mk #[(47 : UInt8)])) (V.str (Prod.fst (bentP xs at_)))) ∧ ((BLe (Blk.box [encL encY 1 (k36_0 xs), vi (k36_1 xs at_)]) (Blk.box [encL encY 1 xs, vi (ra36 xs at_)])) ∧ (True))))) ∧ (((nextF (k36_0 xs) (ra28 (decL decY (encL encY 1 xs)) at_) (10 : Int) == (0 : Int)) = false) → ((((nextF (k36_0 xs) (ra28 (decL decY (encL encY 1 xs)) at_) (10 : Int) == (1 : Int)) = true) → ((((0 = 0) ∧ ((0 = 0) ∧ (0 = 0))) ∧ ((VLe (encL encY 1 (k36_0 xs)) (encL encY 1 (decL decY (encL encY 1 (k36_0 xs))))) ∧ (pr27 (decL decY (encL encY 1 (k36_0 xs))) (k36_1 xs at_) (7 : Int)))) ∧ ((((0 : Int) ≤ nextF (decL decY (encL encY 1 (k36_0 xs))) (k36_1 xs at_) (7 : Int)) ∧ (nextF (decL decY (encL encY 1 (k36_0 xs))) (k36_1 xs at_) (7 : Int) < (↑7 : Int))) ∧ ((Int.toNat (nextF (decL decY (encL encY 1 (k36_0 xs))) (k36_1 xs at_) (7 : Int)) < 7) ∧ ((VLe (V.str (List.getD [ByteArray.mk #[], ByteArray.mk #[(97 : UInt8)], ByteArray.mk #[(47 : UInt8), (47 : UInt8)], ByteArray.mk #[(47 : UInt8), (65 : UInt8)], ByteArray.mk #[(47 : UInt8), (97 : UInt8), (47 : UInt8), (98 : UInt8), (47 : UInt8), (99 : UInt8), (47 : UInt8), (100 : UInt8), (47 : UInt8), (101 : UInt8)], ByteArray.mk #[(47 : UInt8), (97 : UInt8), (98 : UInt8), (99 : UInt8), (100 : UInt8), (101 : UInt8), (102 : UInt8), (103 : UInt8), (104 : UInt8), (105 : UInt8)], ByteArray.mk #[(47 : UInt8), (97 : UInt8), (97 : UInt8), (97 : UInt8), (97 : UInt8), (97 : UInt8), (97 : UInt8), (97 : UInt8), (97 : UInt8), (47 : UInt8), (97 : UInt8), (97 : UInt8), (97 : UInt8), (97 : UInt8), (97 : UInt8), (97 : UInt8), (97 : UInt8), (97 : UInt8), (47 : UInt8), (97 : UInt8), (97 : UInt8), (97 : UInt8), (97 : UInt8), (97 : UInt8), (97 : UInt8)]] (Int.toNat (nextF (decL decY (encL encY 1 (k36_0 xs))) (k36_1 xs at_) (7 : Int))) default)) (V.str (Prod.fst (bentP xs at_)))) ∧ ((BLe (Blk.box [encL encY 1 (decL decY (encL encY 1 (k36_0 xs))), vi (ra27 (decL decY (encL encY 1 (k36_0 xs))) (k36_1 xs at_) (7 : Int))]) (Blk.box [encL encY 1 xs, vi (ra36 xs at_)])) ∧ (True))))))) ∧ (((nextF (k36_0 xs) (ra28 (decL decY (encL encY 1 xs)) at_) (10 : Int) == (1 : Int)) = false) → ((VLe (V.str (Prod.fst (drawP (decL decY (encL encY 1 xs)) at_))) (V.str (Prod.fst (bentP xs at_)))) ∧ ((BLe (Blk.box [encL encY 1 (k36_0 xs), vi (k36_1 xs at_)]) (Blk.box [encL encY 1 xs, vi (ra36 xs at_)])) ∧ (True))))))))) := by
    delta k36_1; delta k36_0; delta vi
    obtain ⟨h0, h1⟩ := hpre
    have h3 := h0.2.2.1
    have d := drawP_bd h0
    simp only [decL_bytes, ra27, ra28, ra36]
    have h4 : okX xs (drawP xs at_).2 := h0.to (by omega) (by omega)
    have h5 : okX xs ((drawP xs at_).2 + 1) := h0.to (by omega) (by omega)
    have b := nextF_bd h5 7
    refine ⟨srcO ⟨h0, by omega⟩, srcO h4, fun h => ?_, fun h => ⟨fun h2 => ?_, fun h2 => ?_⟩⟩
    · have e : bentP xs at_ = ((drawP xs at_).1 ++ top, (drawP xs at_).2 + 1) := by
        unfold bentP
        rw [if_pos (eq_of_beq h)]
      rw [e]
      exact ⟨by omega, VLe.refl _, BLe.refl _, trivial⟩
    · have e : bentP xs at_ = (oddP (nextF xs ((drawP xs at_).2 + 1) 7), (drawP xs at_).2 + 2) := by
        unfold bentP
        rw [if_neg (by simpa using h), if_pos (eq_of_beq h2)]
      rw [e]
      have b7 := b.2.1 (by decide)
      exact ⟨srcO h5, ⟨b.1, b7⟩, by omega, VLe.refl _, ble_src (by simp only; omega), trivial⟩
    · have e : bentP xs at_ = ((drawP xs at_).1, (drawP xs at_).2 + 1) := by
        unfold bentP
        rw [if_neg (by simpa using h), if_neg (by simpa using h2)]
      rw [e]
      exact ⟨VLe.refl _, BLe.refl _, trivial⟩
  exact Eq.mp (by kernel_rfl) key
noncomputable def sp36 : FSpec := fun args bin => match args, bin with
  | [.oref i0 j0 o0], [.box [v0, .int .i64 p0]] => some ((i0 = 0 ∧ j0 = 0 ∧ o0 = 0) ∧ VLe v0 (encL encY 1 (decL decY v0)) ∧ pr36 (decL decY v0) p0, rs36 (decL decY v0) p0, [.box [encL encY 1 (decL decY v0), .int .i64 (ra36 (decL decY v0) p0)]])
  | _, _ => none
theorem so36 : Sound Tryz.prog 36 sp36 := by
  refine sound_of_bodyO hmix (tpl := []) Tryz.func36 rfl (by kernel_rfl) fun args bin ob r bout hDe hob => ?_
  unfold sp36 at hDe
  split at hDe
  · rename_i i0 j0 o0 v0 p0
    cases hDe
    obtain ⟨⟨rfl, rfl, rfl⟩, h0, hpre⟩ := hob
    have hb := bd36 (decL decY v0) p0 hpre
    exact ⟨Nat.le_of_ble_eq_true (by kernel_rfl), cx36 (decL decY v0) p0, Eq.mp (by kernel_rfl) htt, Eq.mp (by kernel_rfl) da36, Eq.mp (by kernel_rfl) (noM_sound (P := Tryz.prog)), by kernel_rfl, [.oref 0 0 0], [(.box [encL encY 1 (decL decY v0), .int .i64 p0])], args_of_vles (l' := [.oref 0 0 0]) ⟨VLe.refl _, trivial⟩, ⟨ble_box ⟨h0, VLe.refl _, trivial⟩, trivial⟩, Eq.mp (by kernel_rfl) hb⟩
  · cases hDe

end Go.Av
