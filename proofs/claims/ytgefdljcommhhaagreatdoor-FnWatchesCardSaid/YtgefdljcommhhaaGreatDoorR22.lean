/- The trees that a source draws. -/
import Derived.Test.YtgefdljcommhhaaGreatDoorR21
import Derived.Test.YtgefdljcommhhaaGreatDoorP5
namespace Go.Av
open Go.Proofs
set_option maxRecDepth 100000
set_option maxHeartbeats 20000000
set_option linter.unusedVariables false
set_option linter.unusedSimpArgs false

theorem pkT : List.map (fun i => intA (V.int .i64 (([0, 0, 1, 2] : List Int).getD i 0))) (List.range 4) = [0, 0, 1, 2] := rfl
theorem pathD_pos (xs : List Int) : ∀ (f : Nat) (a : Int) (p : ByteArray), 0 < p.size → 0 < (pathD xs f a p).1.size
  | 0, _, _, h => h
  | f + 1, a, p, h => pathD_pos xs f (a + 1) _ (by
    unfold joinF
    split
    · rw [ByteArray.size_append]; show 0 < 1 + _; omega
    · rw [ByteArray.size_append, ByteArray.size_append]; omega)
theorem drawP_pos (xs : List Int) (a : Int) : 0 < (drawP xs a).1.size := pathD_pos xs _ _ _ (by decide)
theorem reqT_kept {xs : List Int} {a : Int} {l : List Znode} {p : ByteArray} (hk : keptT l) (hp : 0 < p.size ∧ p.size ≤ 1000) : (reqT xs a l p).1.code = 0 → keptT (reqT xs a l p).1.nodes := by
  unfold reqT
  split
  · exact fun h => setZF_kept rfl h hk
  split
  · exact fun h => delZF_kept rfl h hk
  · exact fun h => newZF_kept rfl h hk hp
theorem reqT_bd (xs : List Int) (a : Int) (l : List Znode) (p : ByteArray) : a + 4 ≤ (reqT xs a l p).2 ∧ (reqT xs a l p).2 ≤ a + 5 := by
  unfold reqT
  split
  · simp only; omega
  split
  · simp only; omega
  · simp only; omega
theorem nextT {xs : List Int} {at_ : Int} {f : Nat} {a : Int} {l : List Znode} {r : ZResult} {b : Int} (hg : treeD xs (f + 1) a l = rightT xs at_) (hr : reqT xs (drawP xs a).2 l (drawP xs a).1 = (r, b)) :
    (r.code = 0 → treeD xs f b r.nodes = rightT xs at_) ∧ (¬ r.code = 0 → treeD xs f b l = rightT xs at_) := by
  have hs : treeD xs (f + 1) a l = treeD xs f (reqT xs (drawP xs a).2 l (drawP xs a).1).2 (if (reqT xs (drawP xs a).2 l (drawP xs a).1).1.code = 0 then (reqT xs (drawP xs a).2 l (drawP xs a).1).1.nodes else l) := rfl
  rw [hs, hr] at hg
  exact ⟨fun h => by rw [← hg]; simp only; rw [if_pos h], fun h => by rw [← hg]; simp only; rw [if_neg h]⟩
def goT (xs : List Int) (at_ : Int) (q : Nat × Int × List Znode) : Prop := treeD xs q.1 q.2.1 q.2.2 = rightT xs at_ ∧ at_ + 2 ≤ q.2.1 ∧ q.2.1 + 9 * q.1 ≤ at_ + 101 ∧ q.1 ≤ 11 ∧ q.2.2.length ≤ 20 ∧ longT q.2.2 ∧ hasTop q.2.2

/-! ### spec.l2Right -/
def pr25 (xs : List Int) (at_ : Int)  : Prop := okX xs at_ ∧ at_ ≤ 900000
noncomputable def ro25 (xs : List Int) (at_ : Int)  : List Znode := (rightT xs at_).1
noncomputable def rs25 (xs : List Int) (at_ : Int)  : V := .osl 1 (ro25 xs at_ ).length
noncomputable def rb25 (xs : List Int) (at_ : Int)  : List Blk := [(.arr 5 (ro25 xs at_ ).length (gL (encZnode 1) (ro25 xs at_ )) tagS)]
noncomputable def ra25 (xs : List Int) (at_ : Int)  : Int := (rightT xs at_).2
noncomputable def in25_3 (xs : List Int) (at_ : Int)  : LoopInv :=
  ⟨Nat × Int × List Znode, fun q => ⟨[(0, .oref 0 0 0), (3, .osl (canonT 3) q.2.2.length), (4, .int .i64 q.1)], [(canonT 3, .arr 5 q.2.2.length (gL (encZnode 1) q.2.2) tagS), (0, .box [encL encY 0 xs, .int .i64 q.2.1])]⟩, fun q => goT xs at_ q, fun q => q.1⟩
noncomputable def iv25 (xs : List Int) (at_ : Int)  : Nat → Option LoopInv := fun k0 => match k0 with
  | 3 => some (in25_3 xs at_ )
  | _ => none
noncomputable def D25 : Nat → Option (Bool × FSpec) := lk [(27, (true, sp27)), (35, (true, sp35)), (32, (true, sp32)), (28, (true, sp28)), (54, (false, sp54)), (29, (false, sp29)), (31, (false, sp31)), (30, (false, sp30))]
theorem da25 : SoundAll Tryz.prog D25 := soundAll_cons so27 (soundAll_cons so35 (soundAll_cons so32 (soundAll_cons so28 (soundAll_cons so54 (soundAll_cons so29 (soundAll_cons so31 (soundAll_cons so30 (soundAll_nil))))))))
noncomputable def cx25 (xs : List Int) (at_ : Int)  : Cx := ⟨tt, D25, Tryz.f25.ntmps, [0, 2, 3, 4, 5, 6, 14, 30, 31, 38, 45], [(3, ⟨[(0, none), (3, some 5), (4, none)], [(0, [])]⟩)], [], iv25 xs at_ , [], noM, []⟩
noncomputable def k25_0 (xs : List Int) (x : Nat × Int × List Znode) : Int := (ra35 (decL decY (encL encY 1 (decL decY (encL encY 1 (decL decY (encL encY 1 xs)))))) (ra27 (decL decY (encL encY 1 (decL decY (encL encY 1 xs)))) (ra28 (decL decY (encL encY 1 xs)) x.2.1) (99 : Int)) (List.map (fun (i : Nat) ↦ intA (vi (List.getD [(0 : Int), (0 : Int), (1 : Int), (2 : Int)] i (0 : Int)))) (List.range 4)))
noncomputable def k25_1 (xs : List Int) : List Int := (decL decY (encL encY 1 (decL decY (encL encY 1 (decL decY (encL encY 1 (decL decY (encL encY 1 xs))))))))
noncomputable def k25_2 (xs : List Int) (x : Nat × Int × List Znode) : Int := (pickF (decL decY (encL encY 1 (decL decY (encL encY 1 (decL decY (encL encY 1 xs)))))) (ra27 (decL decY (encL encY 1 (decL decY (encL encY 1 xs)))) (ra28 (decL decY (encL encY 1 xs)) x.2.1) (99 : Int)) (List.map (fun (i : Nat) ↦ intA (vi (List.getD [(0 : Int), (0 : Int), (1 : Int), (2 : Int)] i (0 : Int)))) (List.range 4)))
noncomputable def k25_3 (xs : List Int) (x : Nat × Int × List Znode) : Int := (ra27 (decL decY (encL encY 1 (k25_1 xs))) (ra32 (k25_1 xs) (k25_0 xs x) (5 : Int)) (6 : Int))
noncomputable def k25_4 (xs : List Int) (y : Nat × Int × List Znode) : AS := (AS.mk [(0, V.oref 0 0 0), (3, V.osl 32000256 (List.length y.2.2)), (4, vi (↑y.1 : Int))] [(32000256, Blk.arr 5 (List.length y.2.2) (gL (encZnode 1) y.2.2) 100), (0, Blk.box [encL encY 0 xs, vi y.2.1])])
noncomputable def k25_5 (xs : List Int) : List Int := (decL decY (encL encY 1 (decL decY (encL encY 1 xs))))
noncomputable def k25_6 (xs : List Int) : List Int := (decL decY (encL encY 1 (decL decY (encL encY 1 (k25_1 xs)))))
noncomputable def k25_7 (xs : List Int) (x : Nat × Int × List Znode) : Int := (nextF (k25_5 xs) (ra28 (decL decY (encL encY 1 xs)) x.2.1) (99 : Int))
noncomputable def k25_8 (xs : List Int) (x : Nat × Int × List Znode) : Bool := (decide (nextF (k25_1 xs) (k25_0 xs x) (5 : Int) = (0 : Int)))
noncomputable def k25_9 (xs : List Int) (x : Nat × Int × List Znode) : AS := (AS.mk [(0, V.oref 0 0 0), (3, V.osl 32000256 (List.length x.2.2)), (4, vi ((↑x.1 : Int) - (1 : Int)))] [(32000256, Blk.arr 5 (List.length x.2.2) (gL (encZnode 1) x.2.2) 100), (0, Blk.box [encL encY 0 (decL decY (encL encY 1 (k25_1 xs))), vi (k25_3 xs x)])])
noncomputable def k25_10 (x : Nat × Int × List Znode) : Prop := (inK IntKind.i64 ((↑x.1 : Int) - (1 : Int)))
noncomputable def k25_11 (x : Nat × Int × List Znode) : Prop := (VLe (encL (encZnode 1) 1 x.2.2) (encL (encZnode 1) 1 (decL decZnode (encL (encZnode 1) 1 x.2.2))))
noncomputable def k25_12 (xs : List Int) (x : Nat × Int × List Znode) : Nat := (List.length (ZResult.nodes (ro31 (decL decZnode (encL (encZnode 1) 1 x.2.2)) (Prod.fst (drawP (decL decY (encL encY 1 xs)) x.2.1)) (nextF (k25_6 xs) (k25_3 xs x) (99 : Int)) (-1 : Int))))
noncomputable def k25_13 (xs : List Int) (x : Nat × Int × List Znode) : Nat := (List.length (ZResult.nodes (ro29 (decL decZnode (encL (encZnode 1) 1 x.2.2)) (Prod.fst (drawP (decL decY (encL encY 1 xs)) x.2.1)) (k25_7 xs x) (k25_2 xs x) (k25_8 xs x))))
theorem bd25 (xs : List Int) (at_ : Int)  (hpre : pr25 xs at_ ) : bodyO (cx25 xs at_ ) Tryz.f25 [(0, 5)] [.oref 0 0 0] [(.box [encL encY 1 xs, .int .i64 at_])] (fun rr bs => VLe rr (rs25 xs at_ ) ∧ BinLe bs [(.box [encL encY 1 xs, .int .i64 (ra25 xs at_ )]), (.arr 5 (ro25 xs at_ ).length (gL (encZnode 1) (ro25 xs at_ )) tagS)]) := by
  have key : ((((0 = 0) ∧ ((0 = 0) ∧ (0 = 0))) ∧ ((VLe (encL encY 1 xs) (encL encY 1 (decL decY (encL encY 1 xs)))) ∧ (pr27 (decL decY (encL encY 1 xs)) at_ (9 : Int)))) ∧ ((pr54 (nextF (decL decY (encL encY 1 xs)) at_ (9 : Int))) ∧ ((((0 = 0) ∧ ((0 = 0) ∧ (0 = 0))) ∧ ((VLe (encL encY 1 (decL decY (encL encY 1 xs))) (encL encY 1 (k25_5 xs))) ∧ (pr27 (k25_5 xs) (ra27 (decL decY (encL encY 1 xs)) at_ (9 : Int)) (12 : Int)))) ∧ ((∃ x : Nat × Int × List Znode, ((SLe (AS.mk [(0, V.oref 0 0 0), (3, V.osl 32000256 1), (4, vi (nextF (k25_5 xs) (ra27 (decL decY (encL encY 1 xs)) at_ (9 : Int)) (12 : Int)))] [(32000256, Blk.arr 5 1 (gL (encZnode 1) (ZResult.nodes (ro54 (nextF (decL decY (encL encY 1 xs)) at_ (9 : Int))))) 100), (0, Blk.box [encL encY 0 (k25_5 xs), vi (ra27 (k25_5 xs) (ra27 (decL decY (encL encY 1 xs)) at_ (9 : Int)) (12 : Int))])]) (AS.mk [(0, V.oref 0 0 0), (3, V.osl 32000256 (List.length x.2.2)), (4, vi (↑x.1 : Int))] [(32000256, Blk.arr 5 (List.length x.2.2) (gL (encZnode 1) x.2.2) 100), (0, Blk.box [encL encY 0 xs, vi x.2.1])])) ∧ (goT xs at_ x))) ∧ (∀ x : Nat × Int × List Znode, ((goT xs at_ x) → (((decide ((↑x.1 : Int) > (0 : Int)) = true) → ((((0 = 0) ∧ ((0 = 0) ∧ (0 = 0))) ∧ ((VLe (encL encY 1 xs) (encL encY 1 (decL decY (encL encY 1 xs)))) ∧ (pr28 (decL decY (encL encY 1 xs)) x.2.1))) ∧ ((((0 = 0) ∧ ((0 = 0) ∧ (0 = 0))) ∧ ((VLe (encL encY 1 (decL decY (encL encY 1 xs))) (encL encY 1 (k25_5 xs))) ∧ (pr27 (k25_5 xs) (ra28 (decL decY (encL encY 1 xs)) x.2.1) (99 : Int)))) ∧ ((((0 = 0) ∧ ((0 = 0) ∧ (0 = 0))) ∧ ((VLe (encL encY 1 (k25_5 xs)) (encL encY 1 (decL decY (encL encY 1 (k25_5 xs))))) ∧ (((1 = 1) ∧ ((1 = 1) ∧ ((100 = 100) ∧ ((4 = 4) ∧ (∀ i : Nat, ((i < 4) → (ELe (vi (List.getD [(0 : Int), (0 : Int), (1 : Int), (2 : Int)] i (0 : Int))) (vi (intA (vi (List.getD [(0 : Int), (0 : Int), (1 : Int), (2 : Int)] i (0 : Int)))))))))))) ∧ (pr35 (decL decY (encL encY 1 (k25_5 xs))) (ra27 (k25_5 xs) (ra28 (decL decY (encL encY 1 xs)) x.2.1) (99 : Int)) (List.map (fun (i : Nat) ↦ intA (vi (List.getD [(0 : Int), (0 : Int), (1 : Int), (2 : Int)] i (0 : Int)))) (List.range 4)))))) ∧ ((4 = 4) ∧ ((((0 = 0) ∧ ((0 = 0) ∧ (0 = 0))) ∧ ((VLe (encL encY 1 (decL decY (encL encY 1 (k25_5 xs)))) (encL encY 1 (k25_1 xs))) ∧ (pr32 (k25_1 xs) (k25_0 xs x) (5 : Int)))) ∧ (((k25_11 x) ∧ (pr29 (decL decZnode (encL (encZnode 1) 1 x.2.2)) (Prod.fst (drawP (decL decY (encL encY 1 xs)) x.2.1)) (k25_7 xs x) (k25_2 xs x) (k25_8 xs x))) ∧ ((((0 = 0) ∧ ((0 = 0) ∧ (0 = 0))) ∧ ((VLe (encL encY 1 (k25_1 xs)) (encL encY 1 (decL decY (encL encY 1 (k25_1 xs))))) ∧ (pr27 (decL decY (encL encY 1 (k25_1 xs))) (ra32 (k25_1 xs) (k25_0 xs x) (5 : Int)) (6 : Int)))) ∧ ((((nextF (decL decY (encL encY 1 (k25_1 xs))) (ra32 (k25_1 xs) (k25_0 xs x) (5 : Int)) (6 : Int) == (0 : Int)) = true) → ((((0 = 0) ∧ ((0 = 0) ∧ (0 = 0))) ∧ ((VLe (encL encY 1 (decL decY (encL encY 1 (k25_1 xs)))) (encL encY 1 (k25_6 xs))) ∧ (pr27 (k25_6 xs) (k25_3 xs x) (99 : Int)))) ∧ (((k25_11 x) ∧ (pr31 (decL decZnode (encL (encZnode 1) 1 x.2.2)) (Prod.fst (drawP (decL decY (encL encY 1 xs)) x.2.1)) (nextF (k25_6 xs) (k25_3 xs x) (99 : Int)) (-1 : Int))) ∧ ((((ZResult.code (ro31 (decL decZnode (encL (encZnode 1) 1 x.2.2)) (Prod.fst (drawP (decL decY (encL encY 1 xs)) x.2.1)) (nextF (k25_6 xs) (k25_3 xs x) (99 : Int)) (-1 : Int)) == (0 : Int)) = true) → ((k25_10 x) ∧ (∃ y : Nat × Int × List Znode, ((SLe (AS.mk [(0, V.oref 0 0 0), (3, V.osl 32000256 (k25_12 xs x)), (4, vi ((↑x.1 : Int) - (1 : Int)))] [(32000256, Blk.arr 5 (k25_12 xs x) (gL (encZnode 1) (ZResult.nodes (ro31 (decL decZnode (encL (encZnode 1) 1 x.2.2)) (Prod.fst (drawP (decL decY (encL encY 1 xs)) x.2.1)) (nextF (k25_6 xs) (k25_3 xs x) (99 : Int)) (-1 : Int)))) 100), (0, Blk.box [encL encY 0 (k25_6 xs), vi (ra27 (k25_6 xs) (k25_3 xs x) (99 : Int))])]) (k25_4 xs y)) ∧ ((goT xs at_ y) ∧ (Prod.fst y < Prod.fst x)))))) ∧ (((ZResult.code (ro31 (decL decZnode (encL (encZnode 1) 1 x.2.2)) (Prod.fst (drawP (decL decY (encL encY 1 xs)) x.2.1)) (nextF (k25_6 xs) (k25_3 xs x) (99 : Int)) (-1 : Int)) == (0 : Int)) = false) → ((k25_10 x) ∧ (∃ y : Nat × Int × List Znode, ((SLe (AS.mk [(0, V.oref 0 0 0), (3, V.osl 32000256 (List.length x.2.2)), (4, vi ((↑x.1 : Int) - (1 : Int)))] [(32000256, Blk.arr 5 (List.length x.2.2) (gL (encZnode 1) x.2.2) 100), (0, Blk.box [encL encY 0 (k25_6 xs), vi (ra27 (k25_6 xs) (k25_3 xs x) (99 : Int))])]) (k25_4 xs y)) ∧ ((goT xs at_ y) ∧ (Prod.fst y < Prod.fst x)))))))))) ∧ (((nextF (decL decY (encL encY 1 (k25_1 xs))) (ra32 (k25_1 xs) (k25_0 xs x) (5 : Int)) (6 : Int) == (0 : Int)) = false) → ((((nextF (decL decY (encL encY 1 (k25_1 xs))) (ra32 (k25_1 xs) (k25_0 xs x) (5 : Int)) (6 : Int) == (1 : Int)) = true) → (((k25_11 x) ∧ (pr30 (decL decZnode (encL (encZnode 1) 1 x.2.2)) (Prod.fst (drawP (decL decY (encL encY 1 xs)) x.2.1)) (-1 : Int))) ∧ ((((ZResult.code (ro30 (decL decZnode (encL (encZnode 1) 1 x.2.2)) (Prod.fst (drawP (decL decY (encL encY 1 xs)) x.2.1)) (-1 : Int)) == (0 : Int)) = true) → ((k25_10 x) ∧ (∃ y : Nat × Int × List Znode, ((SLe (AS.mk [(0, V.oref 0 0 0), (3, V.osl 32000256 (List.length (ZResult.nodes (ro30 (decL decZnode (encL (encZnode 1) 1 x.2.2)) (Prod.fst (drawP (decL decY (encL encY 1 xs)) x.2.1)) (-1 : Int))))), (4, vi ((↑x.1 : Int) - (1 : Int)))] [(32000256, Blk.arr 5 (List.length (ZResult.nodes (ro30 (decL decZnode (encL (encZnode 1) 1 x.2.2)) (Prod.fst (drawP (decL decY (encL encY 1 xs)) x.2.1)) (-1 : Int)))) (gL (encZnode 1) (ZResult.nodes (ro30 (decL decZnode (encL (encZnode 1) 1 x.2.2)) (Prod.fst (drawP (decL decY (encL encY 1 xs)) x.2.1)) (-1 : Int)))) 100), (0, Blk.box [encL encY 0 (decL decY (encL encY 1 (k25_1 xs))), vi (k25_3 xs x)])]) (k25_4 xs y)) ∧ ((goT xs at_ y) ∧ (Prod.fst y < Prod.fst x)))))) ∧ (((ZResult.code (ro30 (decL decZnode (encL (encZnode 1) 1 x.2.2)) (Prod.fst (drawP (decL decY (encL encY 1 xs)) x.2.1)) (-1 : Int)) == (0 : Int)) = false) → ((k25_10 x) ∧ (∃ y : Nat × Int × List Znode, ((SLe (k25_9 xs x) (k25_4 xs y)) ∧ ((goT xs at_ y) ∧ (Prod.fst y < Prod.fst x))))))))) ∧ (((nextF (decL decY (encL encY 1 (k25_1 xs))) (ra32 (k25_1 xs) (k25_0 xs x) (5 : Int)) (6 : Int) == (1 : Int)) = false) → ((((ZResult.code (ro29 (decL decZnode (encL (encZnode 1) 1 x.2.2)) (Prod.fst (drawP (decL decY (encL encY 1 xs)) x.2.1)) (k25_7 xs x) (k25_2 xs x) (k25_8 xs x)) == (0 : Int)) = true) → ((k25_10 x) ∧ (∃ y : Nat × Int × List Znode, ((SLe (AS.mk [(0, V.oref 0 0 0), (3, V.osl 32000256 (k25_13 xs x)), (4, vi ((↑x.1 : Int) - (1 : Int)))] [(32000256, Blk.arr 5 (k25_13 xs x) (gL (encZnode 1) (ZResult.nodes (ro29 (decL decZnode (encL (encZnode 1) 1 x.2.2)) (Prod.fst (drawP (decL decY (encL encY 1 xs)) x.2.1)) (k25_7 xs x) (k25_2 xs x) (k25_8 xs x)))) 100), (0, Blk.box [encL encY 0 (decL decY (encL encY 1 (k25_1 xs))), vi (k25_3 xs x)])]) (k25_4 xs y)) ∧ ((goT xs at_ y) ∧ (Prod.fst y < Prod.fst x)))))) ∧ (((ZResult.code (ro29 (decL decZnode (encL (encZnode 1) 1 x.2.2)) (Prod.fst (drawP (decL decY (encL encY 1 xs)) x.2.1)) (k25_7 xs x) (k25_2 xs x) (k25_8 xs x)) == (0 : Int)) = false) → ((k25_10 x) ∧ (∃ y : Nat × Int × List Znode, ((SLe (k25_9 xs x) (k25_4 xs y)) ∧ ((goT xs at_ y) ∧ (Prod.fst y < Prod.fst x))))))))))))))))))) ∧ ((decide ((↑x.1 : Int) > (0 : Int)) = false) → ((VLe (V.osl 1 (List.length x.2.2)) (V.osl 1 (List.length (ro25 xs at_)))) ∧ ((BLe (Blk.box [encL encY 1 xs, vi x.2.1]) (Blk.box [encL encY 1 xs, vi (ra25 xs at_)])) ∧ ((BLe (Blk.arr 5 (List.length x.2.2) (gL (encZnode 1) x.2.2) 100) (Blk.arr 5 (List.length (ro25 xs at_)) (gL (encZnode 1) (ro25 xs at_)) 100)) ∧ (True)))))))))))) := by
    delta k25_13; delta k25_12; delta k25_11; delta k25_10; delta k25_9; delta k25_8; delta k25_7; delta k25_6; delta k25_5; delta k25_4; delta k25_3; delta k25_2; delta k25_1; delta k25_0; delta vi
    obtain ⟨h0, h1⟩ := hpre
    have h3 := h0.2.2.1
    have b0 := nextF_bd h0 9
    have b01 := b0.2.1 (by decide)
    have k1 : okX xs (at_ + 1) := h0.to (by omega) (by omega)
    have b1 := nextF_bd k1 12
    have b11 := b1.2.1 (by decide)
    have v1 : nextF xs (at_ + 1) 12 = (((nextF xs (at_ + 1) 12).toNat : Nat) : Int) := by omega
    simp only [decL_bytes, decL_Znode, pkT, ra27, ra35, ra32, ra28, ro54, ro29, ro31, ro30, Int.add_assoc, Int.reduceAdd]
    refine ⟨srcO h0, ⟨b0.1, by omega⟩, srcO k1, ⟨((nextF xs (at_ + 1) 12).toNat, at_ + 2, [⟨top, nextF xs at_ 9, 0, 0, 0⟩]), sle_of ⟨rfl, VLe.refl _, rfl, VLe.refl _, rfl, vle_int v1, trivial⟩ ⟨rfl, BLe.refl _, rfl, BLe.refl _, trivial⟩, rfl, by simp only; omega, by simp only; omega, by simp only; omega, by simp only [List.length_singleton]; omega, fun z hz => ?_, ⟨_, List.mem_singleton.2 rfl, rfl⟩⟩, ?_⟩
    · rw [List.mem_singleton.1 hz]
      exact ⟨(by decide : 0 < top.size), (by decide : top.size ≤ 1000), Int.le_refl _, Int.le_refl _⟩
    rintro ⟨f, a, l⟩ ⟨he, ha1, ha2, hf11, hl, hb, ht⟩
    simp only at he ha1 ha2 hf11 hl hb ht ⊢
    refine ⟨fun h => ?_, fun h => ?_⟩
    · cases f with
      | zero => have := of_decide_eq_true h; omega
      | succ f =>
        have h4 : okX xs a := h0.to (by omega) (by omega)
        have d := drawP_bd h4
        have dp := drawP_pos xs a
        have kr := reqT_kept (xs := xs) (a := (drawP xs a).2) (l := l) (p := (drawP xs a).1) ⟨hl, hb, ht⟩ ⟨dp, by omega⟩
        have br := reqT_bd xs (drawP xs a).2 l (drawP xs a).1
        have nx := @nextT xs at_ f a l
        have v2 : ((f + 1 : Nat) : Int) - 1 = ((f : Nat) : Int) := by omega
        have go : ∀ r b, reqT xs (drawP xs a).2 l (drawP xs a).1 = (r, b) → (r.code = 0 → goT xs at_ (f, b, r.nodes)) ∧ (¬ r.code = 0 → goT xs at_ (f, b, l)) := by
          intro r b hr
          have n := nx he hr
          rw [hr] at kr br
          simp only at kr br
          exact ⟨fun hc => ⟨n.1 hc, by simp only; omega, by simp only; omega, by simp only; omega, (kr hc).1, (kr hc).2.1, (kr hc).2.2⟩, fun hc => ⟨n.2 hc, by simp only; omega, by simp only; omega, by simp only; omega, hl, hb, ht⟩⟩
        generalize (drawP xs a).1 = p at *
        generalize (drawP xs a).2 = c at *
        have o0 : okX xs c := h0.to (by omega) (by omega)
        have o1 : okX xs (c + 1) := h0.to (by omega) (by omega)
        have o2 : okX xs (c + 2) := h0.to (by omega) (by omega)
        have o3 : okX xs (c + 3) := h0.to (by omega) (by omega)
        have o4 : okX xs (c + 4) := h0.to (by omega) (by omega)
        refine ⟨srcO ⟨h4, by omega⟩, srcO o0, pickO ⟨o1, by decide, by decide⟩, trivial, srcO o2, ⟨VLe.refl _, by omega, hb, dp, by omega⟩, srcO o3, fun h5 => ?_, fun h5 => ⟨fun h6 => ?_, fun h6 => ?_⟩⟩
        · have hr : reqT xs c l p = (setZF l p (nextF xs (c + 4) 99) (-1), c + 5) := by
            unfold reqT
            rw [if_pos (eq_of_beq h5)]
          have g := go _ _ hr
          refine ⟨srcO o4, ⟨VLe.refl _, by omega, hb⟩, fun h7 => ?_, fun h7 => ?_⟩
          · exact ⟨inK64 (by omega), (f, c + 5, (setZF l p (nextF xs (c + 4) 99) (-1)).nodes), sle_of ⟨rfl, VLe.refl _, rfl, VLe.refl _, rfl, vle_int v2, trivial⟩ ⟨rfl, BLe.refl _, rfl, BLe.refl _, trivial⟩, g.1 (eq_of_beq h7), by simp only; omega⟩
          · exact ⟨inK64 (by omega), (f, c + 5, l), sle_of ⟨rfl, VLe.refl _, rfl, VLe.refl _, rfl, vle_int v2, trivial⟩ ⟨rfl, BLe.refl _, rfl, BLe.refl _, trivial⟩, g.2 (by simpa using h7), by simp only; omega⟩
        · have hr : reqT xs c l p = (delZF l p (-1), c + 4) := by
            unfold reqT
            rw [if_neg (by simpa using h5), if_pos (eq_of_beq h6)]
          have g := go _ _ hr
          refine ⟨⟨VLe.refl _, by omega, hb⟩, fun h7 => ?_, fun h7 => ?_⟩
          · exact ⟨inK64 (by omega), (f, c + 4, (delZF l p (-1)).nodes), sle_of ⟨rfl, VLe.refl _, rfl, VLe.refl _, rfl, vle_int v2, trivial⟩ ⟨rfl, BLe.refl _, rfl, BLe.refl _, trivial⟩, g.1 (eq_of_beq h7), by simp only; omega⟩
          · exact ⟨inK64 (by omega), (f, c + 4, l), sle_of ⟨rfl, VLe.refl _, rfl, VLe.refl _, rfl, vle_int v2, trivial⟩ ⟨rfl, BLe.refl _, rfl, BLe.refl _, trivial⟩, g.2 (by simpa using h7), by simp only; omega⟩
        · have hr : reqT xs c l p = (newZF l p (nextF xs c 99) (pickF xs (c + 1) [0, 0, 1, 2]) (decide (nextF xs (c + 2) 5 = 0)), c + 4) := by
            unfold reqT
            rw [if_neg (by simpa using h5), if_neg (by simpa using h6)]
          have g := go _ _ hr
          refine ⟨fun h7 => ?_, fun h7 => ?_⟩
          · exact ⟨inK64 (by omega), (f, c + 4, (newZF l p (nextF xs c 99) (pickF xs (c + 1) [0, 0, 1, 2]) (decide (nextF xs (c + 2) 5 = 0))).nodes), sle_of ⟨rfl, VLe.refl _, rfl, VLe.refl _, rfl, vle_int v2, trivial⟩ ⟨rfl, BLe.refl _, rfl, BLe.refl _, trivial⟩, g.1 (eq_of_beq h7), by simp only; omega⟩
          · exact ⟨inK64 (by omega), (f, c + 4, l), sle_of ⟨rfl, VLe.refl _, rfl, VLe.refl _, rfl, vle_int v2, trivial⟩ ⟨rfl, BLe.refl _, rfl, BLe.refl _, trivial⟩, g.2 (by simpa using h7), by simp only; omega⟩
    · have hf : f = 0 := by have := of_decide_eq_false h; omega
      subst hf
      have e1 : (l, a) = rightT xs at_ := he
      have e2 : ra25 xs at_ = a := by
        show (rightT xs at_).2 = a
        rw [← e1]
      have e3 : ro25 xs at_ = l := by
        show (rightT xs at_).1 = l
        rw [← e1]
      rw [e2, e3]
      exact ⟨VLe.refl _, BLe.refl _, BLe.refl _, trivial⟩
  exact Eq.mp (by kernel_rfl) key
noncomputable def sp25 : FSpec := fun args bin => match args, bin with
  | [.oref i0 j0 o0], [.box [v0, .int .i64 p0]] => some ((i0 = 0 ∧ j0 = 0 ∧ o0 = 0) ∧ VLe v0 (encL encY 1 (decL decY v0)) ∧ pr25 (decL decY v0) p0, rs25 (decL decY v0) p0, [.box [encL encY 1 (decL decY v0), .int .i64 (ra25 (decL decY v0) p0)]] ++ rb25 (decL decY v0) p0)
  | _, _ => none
theorem so25 : Sound Tryz.prog 25 sp25 := by
  refine sound_of_bodyO hmix (tpl := [(0, 5)]) Tryz.func25 rfl (by kernel_rfl) fun args bin ob r bout hDe hob => ?_
  unfold sp25 at hDe
  split at hDe
  · rename_i i0 j0 o0 v0 p0
    cases hDe
    obtain ⟨⟨rfl, rfl, rfl⟩, h0, hpre⟩ := hob
    have hb := bd25 (decL decY v0) p0 hpre
    exact ⟨Nat.le_of_ble_eq_true (by kernel_rfl), cx25 (decL decY v0) p0, Eq.mp (by kernel_rfl) htt, Eq.mp (by kernel_rfl) da25, Eq.mp (by kernel_rfl) (noM_sound (P := Tryz.prog)), by kernel_rfl, [.oref 0 0 0], [(.box [encL encY 1 (decL decY v0), .int .i64 p0])], args_of_vles (l' := [.oref 0 0 0]) ⟨VLe.refl _, trivial⟩, ⟨ble_box ⟨h0, VLe.refl _, trivial⟩, trivial⟩, Eq.mp (by kernel_rfl) hb⟩
  · cases hDe

end Go.Av
