/- Trees that a source draws, bent. -/
import Derived.Test.YtgefdljcommhhaaGreatDoorR22
namespace Go.Av
open Go.Proofs
set_option maxRecDepth 100000
set_option maxHeartbeats 20000000
set_option linter.unusedVariables false
set_option linter.unusedSimpArgs false

theorem treeD_bd {xs : List Int} : ∀ (f : Nat) (a : Int) (l : List Znode), okX xs a → a + 9 * f ≤ 1000000 → keptT l → keptT (treeD xs f a l).1 ∧ a ≤ (treeD xs f a l).2 ∧ (treeD xs f a l).2 ≤ a + 9 * f
  | 0, a, l, h0, ha, hk => ⟨hk, Int.le_refl _, by simp [treeD]⟩
  | f + 1, a, l, h0, ha, hk => by
    have h3 := h0.2.2.1
    have d := drawP_bd h0
    have dp := drawP_pos xs a
    have br := reqT_bd xs (drawP xs a).2 l (drawP xs a).1
    have kr := reqT_kept (xs := xs) (a := (drawP xs a).2) (p := (drawP xs a).1) hk ⟨dp, by omega⟩
    have := @treeD_bd xs f (reqT xs (drawP xs a).2 l (drawP xs a).1).2 (if (reqT xs (drawP xs a).2 l (drawP xs a).1).1.code = 0 then (reqT xs (drawP xs a).2 l (drawP xs a).1).1.nodes else l) (h0.to (by omega) (by omega)) (by omega) (by
      split
      · rename_i h
        exact kr h
      · exact hk)
    unfold treeD
    exact ⟨this.1, by omega, by omega⟩
theorem rightT_bd {xs : List Int} {a : Int} (h : okX xs a) (ha : a ≤ 900000) : keptT (rightT xs a).1 ∧ a + 2 ≤ (rightT xs a).2 ∧ (rightT xs a).2 ≤ a + 101 := by
  have h3 := h.2.2.1
  have k1 : okX xs (a + 1) := h.to (by omega) (by omega)
  have b := nextF_bd k1 12
  have b1 := b.2.1 (by decide)
  have := @treeD_bd xs (nextF xs (a + 1) 12).toNat (a + 2) [⟨top, nextF xs a 9, 0, 0, 0⟩] (h.to (by omega) (by omega)) (by omega) ⟨by simp only [List.length_singleton]; omega, fun z hz => by
    rw [List.mem_singleton.1 hz]
    exact ⟨(by decide : 0 < top.size), (by decide : top.size ≤ 1000), Int.le_refl _, Int.le_refl _⟩, ⟨_, List.mem_singleton.2 rfl, rfl⟩⟩
  unfold rightT
  exact ⟨this.1, by omega, by omega⟩
theorem ble_bent {l : List Znode} {i : Nat} {v : V} {z : Znode} (hi : i < l.length) (hv : v = encZnode 1 z) : BLe (.arr 5 l.length (setg (gL (encZnode 1) l) i v) tagS) (.arr 5 l.length (gL (encZnode 1) (l.set i z)) tagS) :=
  ble_setc hi (ELe.of_eq (by rw [setg_eq, if_pos rfl]; exact hv)) fun j e => by rw [setg_eq, if_neg e]
theorem pk1' : List.map (fun i => intA (V.int .i64 (([-1, 10000] : List Int).getD i 0))) (List.range 2) = [-1, 10000] := rfl
theorem pk2' : List.map (fun i => intA (V.int .i64 (([-1, 999, 1000] : List Int).getD i 0))) (List.range 3) = [-1, 999, 1000] := rfl
theorem pk3' : List.map (fun i => intA (V.int .i64 (([3, 10] : List Int).getD i 0))) (List.range 2) = [3, 10] := rfl
theorem pk4' : List.map (fun i => intA (V.int .i64 (([100, 101] : List Int).getD i 0))) (List.range 2) = [100, 101] := rfl

/-! ### spec.l2Bent -/
def pr33 (xs : List Int) (at_ : Int)  : Prop := okX xs at_ ∧ at_ ≤ 800000
noncomputable def ro33 (xs : List Int) (at_ : Int)  : List Znode := (bentT xs at_).1
noncomputable def rs33 (xs : List Int) (at_ : Int)  : V := .osl 1 (ro33 xs at_ ).length
noncomputable def rb33 (xs : List Int) (at_ : Int)  : List Blk := [(.arr 5 (ro33 xs at_ ).length (gL (encZnode 1) (ro33 xs at_ )) tagS)]
noncomputable def ra33 (xs : List Int) (at_ : Int)  : Int := (bentT xs at_).2
noncomputable def D33 : Nat → Option (Bool × FSpec) := lk [(27, (true, sp27)), (35, (true, sp35)), (36, (true, sp36)), (25, (true, sp25))]
theorem da33 : SoundAll Tryz.prog D33 := soundAll_cons so27 (soundAll_cons so35 (soundAll_cons so36 (soundAll_cons so25 (soundAll_nil))))
noncomputable def cx33 (xs : List Int) (at_ : Int)  : Cx := ⟨tt, D33, Tryz.f33.ntmps, [0, 2, 3, 4, 12, 13, 21, 30, 39, 48, 57], [], [], fun _ => none, [], noM, []⟩
noncomputable def k33_0 (xs : List Int) : List Int := (decL decY (encL encY 1 (decL decY (encL encY 1 xs))))
noncomputable def k33_1 (xs : List Int) (at_ : Int) : Nat := (List.length (ro25 (decL decY (encL encY 1 xs)) at_))
noncomputable def k33_2 (xs : List Int) (at_ : Int) : Int := (nextF (k33_0 xs) (ra25 (decL decY (encL encY 1 xs)) at_) (↑(k33_1 xs at_) : Int))
noncomputable def k33_3 (xs : List Int) (at_ : Int) : Int := (ra27 (k33_0 xs) (ra25 (decL decY (encL encY 1 xs)) at_) (↑(k33_1 xs at_) : Int))
noncomputable def k33_4 (xs : List Int) : List Int := (decL decY (encL encY 1 (decL decY (encL encY 1 (k33_0 xs)))))
noncomputable def k33_5 (xs : List Int) (at_ : Int) : Int := (ra27 (decL decY (encL encY 1 (k33_0 xs))) (k33_3 xs at_) (14 : Int))
noncomputable def k33_6 (xs : List Int) (at_ : Int) : Blk := (Blk.arr 5 (List.length (ro33 xs at_)) (gL (encZnode 1) (ro33 xs at_)) 100)
noncomputable def k33_7 (xs : List Int) : Prop := (VLe (encL encY 1 (decL decY (encL encY 1 (k33_0 xs)))) (encL encY 1 (k33_4 xs)))
noncomputable def k33_8 (xs : List Int) (at_ : Int) : Prop := (VLe (V.osl 1 (k33_1 xs at_)) (V.osl 1 (List.length (ro33 xs at_))))
noncomputable def k33_9 (xs : List Int) (at_ : Int) : Blk := (Blk.box [encL encY 1 xs, vi (ra33 xs at_)])
theorem bd33 (xs : List Int) (at_ : Int)  (hpre : pr33 xs at_ ) : bodyO (cx33 xs at_ ) Tryz.f33 [(0, 5)] [.oref 0 0 0] [(.box [encL encY 1 xs, .int .i64 at_])] (fun rr bs => VLe rr (rs33 xs at_ ) ∧ BinLe bs [(.box [encL encY 1 xs, .int .i64 (ra33 xs at_ )]), (.arr 5 (ro33 xs at_ ).length (gL (encZnode 1) (ro33 xs at_ )) tagS)]) := by
  have key : ((((0 = 0) ∧ ((0 = 0) ∧ (0 = 0))) ∧ ((VLe (encL encY 1 xs) (encL encY 1 (decL decY (encL encY 1 xs)))) ∧ (pr25 (decL decY (encL encY 1 xs)) at_))) ∧ ((((0 = 0) ∧ ((0 = 0) ∧ (0 = 0))) ∧ ((VLe (encL encY 1 (decL decY (encL encY 1 xs))) (encL encY 1 (k33_0 xs))) ∧ (pr27 (k33_0 xs) (ra25 (decL decY (encL encY 1 xs)) at_) (↑(k33_1 xs at_) : Int)))) ∧ ((((0 = 0) ∧ ((0 = 0) ∧ (0 = 0))) ∧ ((VLe (encL encY 1 (k33_0 xs)) (encL encY 1 (decL decY (encL encY 1 (k33_0 xs))))) ∧ (pr27 (decL decY (encL encY 1 (k33_0 xs))) (k33_3 xs at_) (14 : Int)))) ∧ ((((nextF (decL decY (encL encY 1 (k33_0 xs))) (k33_3 xs at_) (14 : Int) == (0 : Int)) = true) → ((((0 = 0) ∧ ((0 = 0) ∧ (0 = 0))) ∧ ((k33_7 xs) ∧ (pr36 (k33_4 xs) (k33_5 xs at_)))) ∧ ((((0 : Int) ≤ nextF (k33_0 xs) (ra25 (decL decY (encL encY 1 xs)) at_) (↑(k33_1 xs at_) : Int)) ∧ (nextF (k33_0 xs) (ra25 (decL decY (encL encY 1 xs)) at_) (↑(k33_1 xs at_) : Int) < (↑(k33_1 xs at_) : Int))) ∧ ((Int.toNat (k33_2 xs at_) < List.length (ro25 (decL decY (encL encY 1 xs)) at_)) ∧ ((k33_8 xs at_) ∧ ((BLe (Blk.box [encL encY 1 (k33_4 xs), vi (ra36 (k33_4 xs) (k33_5 xs at_))]) (k33_9 xs at_)) ∧ ((BLe (Blk.arr 5 (k33_1 xs at_) (setg (gL (encZnode 1) (ro25 (decL decY (encL encY 1 xs)) at_)) (Int.toNat (k33_2 xs at_)) (V.agg [V.str (Prod.fst (bentP (k33_4 xs) (k33_5 xs at_))), vi (Znode.data (List.getD (ro25 (decL decY (encL encY 1 xs)) at_) (Int.toNat (k33_2 xs at_)) default)), vi (Znode.version (List.getD (ro25 (decL decY (encL encY 1 xs)) at_) (Int.toNat (k33_2 xs at_)) default)), vi (Znode.owner (List.getD (ro25 (decL decY (encL encY 1 xs)) at_) (Int.toNat (k33_2 xs at_)) default)), vi (Znode.next (List.getD (ro25 (decL decY (encL encY 1 xs)) at_) (Int.toNat (k33_2 xs at_)) default))])) 100) (k33_6 xs at_)) ∧ (True)))))))) ∧ (((nextF (decL decY (encL encY 1 (k33_0 xs))) (k33_3 xs at_) (14 : Int) == (0 : Int)) = false) → ((((nextF (decL decY (encL encY 1 (k33_0 xs))) (k33_3 xs at_) (14 : Int) == (1 : Int)) = true) → ((((0 = 0) ∧ ((0 = 0) ∧ (0 = 0))) ∧ ((k33_7 xs) ∧ (((1 = 1) ∧ ((1 = 1) ∧ ((100 = 100) ∧ ((2 = 2) ∧ (∀ i : Nat, ((i < 2) → (ELe (vi (List.getD [(-1 : Int), (10000 : Int)] i (0 : Int))) (vi (intA (vi (List.getD [(-1 : Int), (10000 : Int)] i (0 : Int)))))))))))) ∧ (pr35 (k33_4 xs) (k33_5 xs at_) (List.map (fun (i : Nat) ↦ intA (vi (List.getD [(-1 : Int), (10000 : Int)] i (0 : Int)))) (List.range 2)))))) ∧ ((2 = 2) ∧ ((((0 : Int) ≤ nextF (k33_0 xs) (ra25 (decL decY (encL encY 1 xs)) at_) (↑(k33_1 xs at_) : Int)) ∧ (nextF (k33_0 xs) (ra25 (decL decY (encL encY 1 xs)) at_) (↑(k33_1 xs at_) : Int) < (↑(k33_1 xs at_) : Int))) ∧ ((Int.toNat (k33_2 xs at_) < List.length (ro25 (decL decY (encL encY 1 xs)) at_)) ∧ ((k33_8 xs at_) ∧ ((BLe (Blk.box [encL encY 1 (k33_4 xs), vi (ra35 (k33_4 xs) (k33_5 xs at_) (List.map (fun (i : Nat) ↦ intA (vi (List.getD [(-1 : Int), (10000 : Int)] i (0 : Int)))) (List.range 2)))]) (k33_9 xs at_)) ∧ ((BLe (Blk.arr 5 (k33_1 xs at_) (setg (gL (encZnode 1) (ro25 (decL decY (encL encY 1 xs)) at_)) (Int.toNat (k33_2 xs at_)) (V.agg [V.str (Znode.path (List.getD (ro25 (decL decY (encL encY 1 xs)) at_) (Int.toNat (k33_2 xs at_)) default)), vi (pickF (k33_4 xs) (k33_5 xs at_) (List.map (fun (i : Nat) ↦ intA (vi (List.getD [(-1 : Int), (10000 : Int)] i (0 : Int)))) (List.range 2))), vi (Znode.version (List.getD (ro25 (decL decY (encL encY 1 xs)) at_) (Int.toNat (k33_2 xs at_)) default)), vi (Znode.owner (List.getD (ro25 (decL decY (encL encY 1 xs)) at_) (Int.toNat (k33_2 xs at_)) default)), vi (Znode.next (List.getD (ro25 (decL decY (encL encY 1 xs)) at_) (Int.toNat (k33_2 xs at_)) default))])) 100) (k33_6 xs at_)) ∧ (True))))))))) ∧ (((nextF (decL decY (encL encY 1 (k33_0 xs))) (k33_3 xs at_) (14 : Int) == (1 : Int)) = false) → ((((nextF (decL decY (encL encY 1 (k33_0 xs))) (k33_3 xs at_) (14 : Int) == (2 : Int)) = true) → ((((0 = 0) ∧ ((0 = 0) ∧ (0 = 0))) ∧ ((k33_7 xs) ∧ (((1 = 1) ∧ ((1 = 1) ∧ ((100 = 100) ∧ ((3 = 3) ∧ (∀ i : Nat, ((i < 3) → (ELe (vi (List.getD [(-1 : Int), (999 : Int), (1000 : Int)] i (0 : Int))) (vi (intA (vi (List.getD [(-1 : Int), (999 : Int), (1000 : Int)] i (0 : Int)))))))))))) ∧ (pr35 (k33_4 xs) (k33_5 xs at_) (List.map (fun (i : Nat) ↦ intA (vi (List.getD [(-1 : Int), (999 : Int), (1000 : Int)] i (0 : Int)))) (List.range 3)))))) ∧ ((3 = 3) ∧ ((((0 : Int) ≤ nextF (k33_0 xs) (ra25 (decL decY (encL encY 1 xs)) at_) (↑(k33_1 xs at_) : Int)) ∧ (nextF (k33_0 xs) (ra25 (decL decY (encL encY 1 xs)) at_) (↑(k33_1 xs at_) : Int) < (↑(k33_1 xs at_) : Int))) ∧ ((Int.toNat (k33_2 xs at_) < List.length (ro25 (decL decY (encL encY 1 xs)) at_)) ∧ ((k33_8 xs at_) ∧ ((BLe (Blk.box [encL encY 1 (k33_4 xs), vi (ra35 (k33_4 xs) (k33_5 xs at_) (List.map (fun (i : Nat) ↦ intA (vi (List.getD [(-1 : Int), (999 : Int), (1000 : Int)] i (0 : Int)))) (List.range 3)))]) (k33_9 xs at_)) ∧ ((BLe (Blk.arr 5 (k33_1 xs at_) (setg (gL (encZnode 1) (ro25 (decL decY (encL encY 1 xs)) at_)) (Int.toNat (k33_2 xs at_)) (V.agg [V.str (Znode.path (List.getD (ro25 (decL decY (encL encY 1 xs)) at_) (Int.toNat (k33_2 xs at_)) default)), vi (Znode.data (List.getD (ro25 (decL decY (encL encY 1 xs)) at_) (Int.toNat (k33_2 xs at_)) default)), vi (pickF (k33_4 xs) (k33_5 xs at_) (List.map (fun (i : Nat) ↦ intA (vi (List.getD [(-1 : Int), (999 : Int), (1000 : Int)] i (0 : Int)))) (List.range 3))), vi (Znode.owner (List.getD (ro25 (decL decY (encL encY 1 xs)) at_) (Int.toNat (k33_2 xs at_)) default)), vi (Znode.next (List.getD (ro25 (decL decY (encL encY 1 xs)) at_) (Int.toNat (k33_2 xs at_)) default))])) 100) (k33_6 xs at_)) ∧ (True))))))))) ∧ (((nextF (decL decY (encL encY 1 (k33_0 xs))) (k33_3 xs at_) (14 : Int) == (2 : Int)) = false) → ((((nextF (decL decY (encL encY 1 (k33_0 xs))) (k33_3 xs at_) (14 : Int) == (3 : Int)) = true) → ((((0 = 0) ∧ ((0 = 0) ∧ (0 = 0))) ∧ ((k33_7 xs) ∧ (((1 = 1) ∧ ((1 = 1) ∧ ((100 = 100) ∧ ((2 = 2) ∧ (∀ i : Nat, ((i < 2) → (ELe (vi (List.getD [(3 : Int), (10 : Int)] i (0 : Int))) (vi (intA (vi (List.getD [(3 : Int), (10 : Int)] i (0 : Int)))))))))))) ∧ (pr35 (k33_4 xs) (k33_5 xs at_) (List.map (fun (i : Nat) ↦ intA (vi (List.getD [(3 : Int), (10 : Int)] i (0 : Int)))) (List.range 2)))))) ∧ ((2 = 2) ∧ ((((0 : Int) ≤ nextF (k33_0 xs) (ra25 (decL decY (encL encY 1 xs)) at_) (↑(k33_1 xs at_) : Int)) ∧ (nextF (k33_0 xs) (ra25 (decL decY (encL encY 1 xs)) at_) (↑(k33_1 xs at_) : Int) < (↑(k33_1 xs at_) : Int))) ∧ ((Int.toNat (k33_2 xs at_) < List.length (ro25 (decL decY (encL encY 1 xs)) at_)) ∧ ((k33_8 xs at_) ∧ ((BLe (Blk.box [encL encY 1 (k33_4 xs), vi (ra35 (k33_4 xs) (k33_5 xs at_) (List.map (fun (i : Nat) ↦ intA (vi (List.getD [(3 : Int), (10 : Int)] i (0 : Int)))) (List.range 2)))]) (k33_9 xs at_)) ∧ ((BLe (Blk.arr 5 (k33_1 xs at_) (setg (gL (encZnode 1) (ro25 (decL decY (encL encY 1 xs)) at_)) (Int.toNat (k33_2 xs at_)) (V.agg [V.str (Znode.path (List.getD (ro25 (decL decY (encL encY 1 xs)) at_) (Int.toNat (k33_2 xs at_)) default)), vi (Znode.data (List.getD (ro25 (decL decY (encL encY 1 xs)) at_) (Int.toNat (k33_2 xs at_)) default)), vi (Znode.version (List.getD (ro25 (decL decY (encL encY 1 xs)) at_) (Int.toNat (k33_2 xs at_)) default)), vi (pickF (k33_4 xs) (k33_5 xs at_) (List.map (fun (i : Nat) ↦ intA (vi (List.getD [(3 : Int), (10 : Int)] i (0 : Int)))) (List.range 2))), vi (Znode.next (List.getD (ro25 (decL decY (encL encY 1 xs)) at_) (Int.toNat (k33_2 xs at_)) default))])) 100) (k33_6 xs at_)) ∧ (True))))))))) ∧ (((nextF (decL decY (encL encY 1 (k33_0 xs))) (k33_3 xs at_) (14 : Int) == (3 : Int)) = false) → ((((nextF (decL decY (encL encY 1 (k33_0 xs))) (k33_3 xs at_) (14 : Int) == (4 : Int)) = true) → ((((0 = 0) ∧ ((0 = 0) ∧ (0 = 0))) ∧ ((k33_7 xs) ∧ (((1 = 1) ∧ ((1 = 1) ∧ ((100 = 100) ∧ ((2 = 2) ∧ (∀ i : Nat, ((i < 2) → (ELe (vi (List.getD [(100 : Int), (101 : Int)] i (0 : Int))) (vi (intA (vi (List.getD [(100 : Int), (101 : Int)] i (0 : Int)))))))))))) ∧ (pr35 (k33_4 xs) (k33_5 xs at_) (List.map (fun (i : Nat) ↦ intA (vi (List.getD [(100 : Int), (101 : Int)] i (0 : Int)))) (List.range 2)))))) ∧ ((2 = 2) ∧ ((((0 : Int) ≤ nextF (k33_0 xs) (ra25 (decL decY (encL encY 1 xs)) at_) (↑(k33_1 xs at_) : Int)) ∧ (nextF (k33_0 xs) (ra25 (decL decY (encL encY 1 xs)) at_) (↑(k33_1 xs at_) : Int) < (↑(k33_1 xs at_) : Int))) ∧ ((Int.toNat (k33_2 xs at_) < List.length (ro25 (decL decY (encL encY 1 xs)) at_)) ∧ ((k33_8 xs at_) ∧ ((BLe (Blk.box [encL encY 1 (k33_4 xs), vi (ra35 (k33_4 xs) (k33_5 xs at_) (List.map (fun (i : Nat) ↦ intA (vi (List.getD [(100 : Int), (101 : Int)] i (0 : Int)))) (List.range 2)))]) (k33_9 xs at_)) ∧ ((BLe (Blk.arr 5 (k33_1 xs at_) (setg (gL (encZnode 1) (ro25 (decL decY (encL encY 1 xs)) at_)) (Int.toNat (k33_2 xs at_)) (V.agg [V.str (Znode.path (List.getD (ro25 (decL decY (encL encY 1 xs)) at_) (Int.toNat (k33_2 xs at_)) default)), vi (Znode.data (List.getD (ro25 (decL decY (encL encY 1 xs)) at_) (Int.toNat (k33_2 xs at_)) default)), vi (Znode.version (List.getD (ro25 (decL decY (encL encY 1 xs)) at_) (Int.toNat (k33_2 xs at_)) default)), vi (Znode.owner (List.getD (ro25 (decL decY (encL encY 1 xs)) at_) (Int.toNat (k33_2 xs at_)) default)), vi (pickF (k33_4 xs) (k33_5 xs at_) (List.map (fun (i : Nat) ↦ intA (vi (List.getD [(100 : Int), (101 : Int)] i (0 : Int)))) (List.range 2)))])) 100) (k33_6 xs at_)) ∧ (True))))))))) ∧ (((nextF (decL decY (encL encY 1 (k33_0 xs))) (k33_3 xs at_) (14 : Int) == (4 : Int)) = false) → ((((nextF (decL decY (encL encY 1 (k33_0 xs))) (k33_3 xs at_) (14 : Int) == (5 : Int)) = true) → ((((0 : Int) ≤ (21 : Int)) ∧ (((21 : Int) ≤ (21 : Int)) ∧ ((21 : Int) ≤ (↑1073741824 : Int)))) ∧ ((VLe (V.osl 1 21) (V.osl 1 (List.length (ro33 xs at_)))) ∧ ((BLe (Blk.box [encL encY 1 (decL decY (encL encY 1 (k33_0 xs))), vi (k33_5 xs at_)]) (k33_9 xs at_)) ∧ ((BLe (Blk.arr 5 21 (fun (x : Nat) ↦ V.agg [V.str (ByteArray.mk #[]), vi (0 : Int), vi (0 : Int), vi (0 : Int), vi (0 : Int)]) 100) (k33_6 xs at_)) ∧ (True)))))) ∧ (((nextF (decL decY (encL encY 1 (k33_0 xs))) (k33_3 xs at_) (14 : Int) == (5 : Int)) = false) → ((k33_8 xs at_) ∧ ((BLe (Blk.box [encL encY 1 (decL decY (encL encY 1 (k33_0 xs))), vi (k33_5 xs at_)]) (k33_9 xs at_)) ∧ ((BLe (Blk.arr 5 (k33_1 xs at_) (gL (encZnode 1) (ro25 (decL decY (encL encY 1 xs)) at_)) 100) (k33_6 xs at_)) ∧ (True))))))))))))))))))) := by
    delta k33_9; delta k33_8; delta k33_7; delta k33_6; delta k33_5; delta k33_4; delta k33_3; delta k33_2; delta k33_1; delta k33_0; delta vi
    obtain ⟨h0, h1⟩ := hpre
    have h3 := h0.2.2.1
    have r := rightT_bd h0 (by omega)
    have hpos := r.1.2.2.pos
    have hlen := r.1.1
    simp only [decL_bytes, decL_Znode, pk1', pk2', pk3', pk4', ra27, ra35, ra36, ra25, ro25, ra33, ro33, Int.add_assoc, Int.reduceAdd]
    have e : bentT xs at_ = bentT xs at_ := rfl
    conv at e => rhs; unfold bentT
    rw [e]
    simp only
    clear e
    generalize (rightT xs at_).1 = l at *
    generalize (rightT xs at_).2 = b at *
    have o0 : okX xs b := h0.to (by omega) (by omega)
    have o1 : okX xs (b + 1) := h0.to (by omega) (by omega)
    have o2 : okX xs (b + 2) := h0.to (by omega) (by omega)
    have n0 := nextF_bd o0 l.length
    have n1 := n0.2.1 (by omega)
    have hi : (nextF xs b l.length).toNat < l.length := by omega
    refine ⟨srcO ⟨h0, by omega⟩, srcO o0, srcO o1, fun h => ?_, fun h => ⟨fun h2 => ?_, fun h2 => ⟨fun h4 => ?_, fun h4 => ⟨fun h5 => ?_, fun h5 => ⟨fun h6 => ?_, fun h6 => ⟨fun h7 => ?_, fun h7 => ?_⟩⟩⟩⟩⟩⟩
    · rw [if_pos (eq_of_beq h)]
      simp only [List.length_set]
      exact ⟨srcO ⟨o2, by omega⟩, ⟨n0.1, n1⟩, hi, VLe.refl _, BLe.refl _, ble_bent hi rfl, trivial⟩
    · rw [if_neg (by simpa using h), if_pos (eq_of_beq h2)]
      simp only [List.length_set]
      exact ⟨pickO ⟨o2, by decide, by decide⟩, trivial, ⟨n0.1, n1⟩, hi, VLe.refl _, BLe.refl _, ble_bent hi rfl, trivial⟩
    · rw [if_neg (by simpa using h), if_neg (by simpa using h2), if_pos (eq_of_beq h4)]
      simp only [List.length_set]
      exact ⟨pickO ⟨o2, by decide, by decide⟩, trivial, ⟨n0.1, n1⟩, hi, VLe.refl _, BLe.refl _, ble_bent hi rfl, trivial⟩
    · rw [if_neg (by simpa using h), if_neg (by simpa using h2), if_neg (by simpa using h4), if_pos (eq_of_beq h5)]
      simp only [List.length_set]
      exact ⟨pickO ⟨o2, by decide, by decide⟩, trivial, ⟨n0.1, n1⟩, hi, VLe.refl _, BLe.refl _, ble_bent hi rfl, trivial⟩
    · rw [if_neg (by simpa using h), if_neg (by simpa using h2), if_neg (by simpa using h4), if_neg (by simpa using h5), if_pos (eq_of_beq h6)]
      simp only [List.length_set]
      exact ⟨pickO ⟨o2, by decide, by decide⟩, trivial, ⟨n0.1, n1⟩, hi, VLe.refl _, BLe.refl _, ble_bent hi rfl, trivial⟩
    · rw [if_neg (by simpa using h), if_neg (by simpa using h2), if_neg (by simpa using h4), if_neg (by simpa using h5), if_neg (by simpa using h6), if_pos (eq_of_beq h7)]
      simp only [List.length_replicate]
      refine ⟨⟨by decide, by decide, by decide⟩, VLe.refl _, BLe.refl _, ble_arr (fun i hi => ?_) (Or.inl rfl), trivial⟩
      have : gL (encZnode 1) (List.replicate 21 (⟨nilB, 0, 0, 0, 0⟩ : Znode)) i = .agg [.str ⟨#[]⟩, .int .i64 0, .int .i64 0, .int .i64 0, .int .i64 0] := by
        unfold gL
        rw [List.getD_eq_getElem?_getD, List.getElem?_replicate, if_pos hi]
        rfl
      rw [this]
      exact ELe.refl _
    · rw [if_neg (by simpa using h), if_neg (by simpa using h2), if_neg (by simpa using h4), if_neg (by simpa using h5), if_neg (by simpa using h6), if_neg (by simpa using h7)]
      exact ⟨VLe.refl _, BLe.refl _, BLe.refl _, trivial⟩
  exact Eq.mp (by kernel_rfl) key
noncomputable def sp33 : FSpec := fun args bin => match args, bin with
  | [.oref i0 j0 o0], [.box [v0, .int .i64 p0]] => some ((i0 = 0 ∧ j0 = 0 ∧ o0 = 0) ∧ VLe v0 (encL encY 1 (decL decY v0)) ∧ pr33 (decL decY v0) p0, rs33 (decL decY v0) p0, [.box [encL encY 1 (decL decY v0), .int .i64 (ra33 (decL decY v0) p0)]] ++ rb33 (decL decY v0) p0)
  | _, _ => none
theorem so33 : Sound Tryz.prog 33 sp33 := by
  refine sound_of_bodyO hmix (tpl := [(0, 5)]) Tryz.func33 rfl (by kernel_rfl) fun args bin ob r bout hDe hob => ?_
  unfold sp33 at hDe
  split at hDe
  · rename_i i0 j0 o0 v0 p0
    cases hDe
    obtain ⟨⟨rfl, rfl, rfl⟩, h0, hpre⟩ := hob
    have hb := bd33 (decL decY v0) p0 hpre
    exact ⟨Nat.le_of_ble_eq_true (by kernel_rfl), cx33 (decL decY v0) p0, Eq.mp (by kernel_rfl) htt, Eq.mp (by kernel_rfl) da33, Eq.mp (by kernel_rfl) (noM_sound (P := Tryz.prog)), by kernel_rfl, [.oref 0 0 0], [(.box [encL encY 1 (decL decY v0), .int .i64 p0])], args_of_vles (l' := [.oref 0 0 0]) ⟨VLe.refl _, trivial⟩, ⟨ble_box ⟨h0, VLe.refl _, trivial⟩, trivial⟩, Eq.mp (by kernel_rfl) hb⟩
  · cases hDe

end Go.Av
