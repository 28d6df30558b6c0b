/- What is drawn of watches, and of a tree before and after. -/
import Derived.Test.YtgefdljcommhhaaGreatDoorR24
import Derived.Test.YtgefdljcommhhaaGreatDoorR5a
namespace Go.Av
open Go.Proofs
set_option maxRecDepth 100000
set_option maxHeartbeats 4000000
set_option linter.unusedVariables false
set_option linter.unusedSimpArgs false

theorem twoD_bd {xs : List Int} : ∀ (f : Nat) (a : Int) (l : List Znode), okX xs a → a + 7 * f ≤ 1000000 → keptT l → keptT (twoD xs f a l).1 ∧ a ≤ (twoD xs f a l).2 ∧ (twoD xs f a l).2 ≤ a + 7 * f
  | 0, a, l, h0, ha, hk => ⟨hk, Int.le_refl _, by simp [twoD]⟩
  | f + 1, a, l, h0, ha, hk => by
    have h3 := h0.2.2.1
    have d := drawP_bd h0
    have dp := drawP_pos xs a
    have br := req2_bd xs (drawP xs a).2 l (drawP xs a).1
    have kr := req2_kept (xs := xs) (a := (drawP xs a).2) (p := (drawP xs a).1) hk ⟨dp, by omega⟩
    have := @twoD_bd xs f (req2 xs (drawP xs a).2 l (drawP xs a).1).2 (if (req2 xs (drawP xs a).2 l (drawP xs a).1).1.code = 0 then (req2 xs (drawP xs a).2 l (drawP xs a).1).1.nodes else l) (h0.to (by omega) (by omega)) (by omega) (by
      split
      · rename_i h
        exact kr h
      · exact hk)
    unfold twoD
    exact ⟨this.1, by omega, by omega⟩
theorem nextB_bd {xs : List Int} {a : Int} (h : okX xs a) (ha : a ≤ 800000) : keptT (nextB xs a).1 ∧ a + 3 ≤ (nextB xs a).2 ∧ (nextB xs a).2 ≤ a + 123 := by
  have h3 := h.2.2.1
  have r := rightT_bd h (by omega)
  have k1 : okX xs (rightT xs a).2 := h.to (by omega) (by omega)
  have b := nextF_bd k1 3
  have b1 := b.2.1 (by decide)
  have := @twoD_bd xs (1 + nextF xs (rightT xs a).2 3).toNat ((rightT xs a).2 + 1) (rightT xs a).1 (h.to (by omega) (by omega)) (by omega) r.1
  unfold nextB
  exact ⟨this.1, by omega, by omega⟩
theorem bentT_bd {xs : List Int} {a : Int} (h : okX xs a) (ha : a ≤ 800000) : (bentT xs a).1.length ≤ 21 ∧ a + 2 ≤ (bentT xs a).2 ∧ (bentT xs a).2 ≤ a + 109 := by
  have h3 := h.2.2.1
  have r := rightT_bd h (by omega)
  have hl := r.1.1
  have p := bentP_bd (h.to (b := (rightT xs a).2 + 2) (by omega) (by omega))
  have e : ∀ (i : Nat) (z : Znode), ((rightT xs a).1.set i z).length ≤ 21 := fun i z => by rw [List.length_set]; omega
  unfold bentT
  simp only
  split
  · exact ⟨e _ _, by simp only; omega, by simp only; omega⟩
  split
  · exact ⟨e _ _, by simp only; omega, by simp only; omega⟩
  split
  · exact ⟨e _ _, by simp only; omega, by simp only; omega⟩
  split
  · exact ⟨e _ _, by simp only; omega, by simp only; omega⟩
  split
  · exact ⟨e _ _, by simp only; omega, by simp only; omega⟩
  split
  · exact ⟨by rw [List.length_replicate]; omega, by simp only; omega, by simp only; omega⟩
  · exact ⟨by simp only; omega, by simp only; omega, by simp only; omega⟩
theorem twoT_bd {xs : List Int} {a : Int} (h : okX xs a) (ha : a ≤ 700000) : (twoT xs a).1.1.length ≤ 21 ∧ (twoT xs a).1.2.length ≤ 21 ∧ a ≤ (twoT xs a).2 ∧ (twoT xs a).2 ≤ a + 300 := by
  have h3 := h.2.2.1
  have r := rightT_bd h (by omega)
  have n := nextB_bd h (by omega)
  have hl := r.1.1
  have hn := n.1.1
  have b := bentT_bd (h.to (b := (nextB xs a).2 + 1) (by omega) (by omega)) (by omega)
  unfold twoT
  split
  · exact ⟨b.1, by simp only; omega, by simp only; omega, by simp only; omega⟩
  · exact ⟨by simp only; omega, by simp only; omega, by simp only; omega, by simp only; omega⟩
noncomputable def fiW (code : List Int) : List Watch := (bentW code (twoT code 0).2).1
noncomputable def fiB (code : List Int) : List Znode := (twoT code 0).1.1
noncomputable def fiA (code : List Int) : List Znode := (twoT code 0).1.2
theorem fi_bd {code : List Int} (h : okX code 0) : (fiW code).length ≤ 21 ∧ (fiB code).length ≤ 21 ∧ (fiA code).length ≤ 21 := by
  have t := twoT_bd h (by omega)
  have w := bentW_bd (h.to (b := (twoT code 0).2) (by omega) (by omega)) (by omega)
  exact ⟨w.1, t.1, t.2.1⟩

/-! ### spec.DrawFireWatches -/
def pr5 (code : List Int) : Prop := okX code 0
noncomputable def ro5 (code : List Int) : List Watch × List Znode × List Znode := (fiW code, fiB code, fiA code)
noncomputable def rb5 (code : List Int) : List Blk := [(.arr 2 ((ro5 code).1).length (gL (encWatch 1) ((ro5 code).1)) tagS), (.arr 5 ((ro5 code).2.1).length (gL (encZnode 1) ((ro5 code).2.1)) tagS), (.arr 5 ((ro5 code).2.2).length (gL (encZnode 1) ((ro5 code).2.2)) tagS)]
noncomputable def rs5 (code : List Int) : V := .tup [.osl 0 ((ro5 code).1).length, .osl 1 ((ro5 code).2.1).length, .osl 2 ((ro5 code).2.2).length]
noncomputable def sp5 : FSpec := fun args bin => match args, bin with
  | [a0], [] => some (VLe a0 (encL encY 1 (((decL decY) a0))) ∧ pr5 ((decL decY) a0), rs5 ((decL decY) a0), rb5 ((decL decY) a0))
  | _, _ => none
noncomputable def D5 : Nat → Option (Bool × FSpec) := lk [(11, (true, sp11)), (12, (true, sp12)), (13, (true, sp13))]
theorem da5 : SoundAll Tryz.prog D5 := soundAll_cons so11 (soundAll_cons so12 (soundAll_cons so13 (soundAll_nil)))
noncomputable def cx5 (code : List Int) : Cx := ⟨tt, D5, Tryz.f5.ntmps, [0, 2, 3, 4, 5, 6, 7], [], [], fun _ => none, [], noM, []⟩
noncomputable def k5_0 (code : List Int) : List Int := (decL decY (encL encY 1 (decL decY (encL encY 1 code))))
theorem bd5 (code : List Int) (hpre : pr5 code) : bodyO (cx5 code) Tryz.f5 [(0, 2), (1, 5), (2, 5)] [encL encY 1 (code)] [] (fun rr bs => VLe rr (rs5 code) ∧ BinLe bs (rb5 code)) := by
  have key : (((VLe (encL encY 1 code) (encL encY 1 (decL decY (encL encY 1 code)))) ∧ (pr11 (decL decY (encL encY 1 code)))) ∧ ((((0 = 0) ∧ ((0 = 0) ∧ (0 = 0))) ∧ ((VLe (encL encY 1 (decL decY (encL encY 1 code))) (encL encY 1 (k5_0 code))) ∧ (pr12 (k5_0 code) (0 : Int)))) ∧ ((((0 = 0) ∧ ((0 = 0) ∧ (0 = 0))) ∧ ((VLe (encL encY 1 (k5_0 code)) (encL encY 1 (decL decY (encL encY 1 (k5_0 code))))) ∧ (pr13 (decL decY (encL encY 1 (k5_0 code))) (ra12 (k5_0 code) (0 : Int))))) ∧ ((VLe (V.tup [V.osl 0 (List.length (ro13 (decL decY (encL encY 1 (k5_0 code))) (ra12 (k5_0 code) (0 : Int)))), V.osl 1 (List.length (Prod.fst (ro12 (k5_0 code) (0 : Int)))), V.osl 2 (List.length (Prod.snd (ro12 (k5_0 code) (0 : Int))))]) (V.tup [V.osl 0 (List.length (Prod.fst (fiW code, fiB code, fiA code))), V.osl 1 (List.length (Prod.fst (fiB code, fiA code))), V.osl 2 (List.length (Prod.snd (fiB code, fiA code)))])) ∧ ((BLe (Blk.arr 2 (List.length (ro13 (decL decY (encL encY 1 (k5_0 code))) (ra12 (k5_0 code) (0 : Int)))) (gL (encWatch 1) (ro13 (decL decY (encL encY 1 (k5_0 code))) (ra12 (k5_0 code) (0 : Int)))) 100) (Blk.arr 2 (List.length (Prod.fst (fiW code, fiB code, fiA code))) (gL (encWatch 1) (Prod.fst (fiW code, fiB code, fiA code))) 100)) ∧ ((BLe (Blk.arr 5 (List.length (Prod.fst (ro12 (k5_0 code) (0 : Int)))) (gL (encZnode 1) (Prod.fst (ro12 (k5_0 code) (0 : Int)))) 100) (Blk.arr 5 (List.length (Prod.fst (fiB code, fiA code))) (gL (encZnode 1) (Prod.fst (fiB code, fiA code))) 100)) ∧ ((BLe (Blk.arr 5 (List.length (Prod.snd (ro12 (k5_0 code) (0 : Int)))) (gL (encZnode 1) (Prod.snd (ro12 (k5_0 code) (0 : Int)))) 100) (Blk.arr 5 (List.length (Prod.snd (fiB code, fiA code))) (gL (encZnode 1) (Prod.snd (fiB code, fiA code))) 100)) ∧ (True)))))))) := by
    delta k5_0
    have h0 : okX code 0 := hpre
    have t := twoT_bd h0 (by omega)
    simp only [decL_bytes, ra12, ro12, ro13]
    exact ⟨⟨VLe.refl _, trivial⟩, srcO ⟨h0, by omega⟩, srcO ⟨h0.to (by omega) (by omega), by omega⟩, VLe.refl _, BLe.refl _, BLe.refl _, BLe.refl _, trivial⟩
  exact Eq.mp (by kernel_rfl) key
theorem so5 : Sound Tryz.prog 5 sp5 := by
  refine sound_of_bodyO hmix (tpl := [(0, 2), (1, 5), (2, 5)]) Tryz.func5 rfl (by kernel_rfl) fun args bin ob r bout hDe hob => ?_
  unfold sp5 at hDe
  split at hDe
  · rename_i a0
    cases hDe
    exact ⟨Nat.le_of_ble_eq_true (by kernel_rfl), cx5 ((decL decY) a0), Eq.mp (by kernel_rfl) htt, Eq.mp (by kernel_rfl) da5, Eq.mp (by kernel_rfl) (noM_sound (P := Tryz.prog)), by kernel_rfl, [encL encY 1 (((decL decY) a0))], [], args_of_vles (⟨hob.1, trivial⟩), trivial, Eq.mp (by kernel_rfl) (bd5 ((decL decY) a0) (hob.2))⟩
  · cases hDe

end Go.Av
