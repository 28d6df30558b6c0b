/- A tree and what came of it, as a source draws them. -/
import Derived.Test.YtgefdljcommhhaaGreatDoorR23
namespace Go.Av
open Go.Proofs
set_option maxRecDepth 100000
set_option maxHeartbeats 20000000
set_option linter.unusedVariables false
set_option linter.unusedSimpArgs false

noncomputable def req2 (xs : List Int) (a : Int) (l : List Znode) (p : ByteArray) : ZResult × Int :=
  if nextF xs (a + 1) 3 = 0 then (delZF l p (-1), a + 2)
  else if nextF xs (a + 1) 3 = 1 then (setZF l p (nextF xs (a + 2) 9) (-1), a + 3)
  else (newZF l p (nextF xs a 9) 0 false, a + 2)
noncomputable def twoD (xs : List Int) : Nat → Int → List Znode → List Znode × Int
  | 0, a, l => (l, a)
  | f + 1, a, l => twoD xs f (req2 xs (drawP xs a).2 l (drawP xs a).1).2 (if (req2 xs (drawP xs a).2 l (drawP xs a).1).1.code = 0 then (req2 xs (drawP xs a).2 l (drawP xs a).1).1.nodes else l)
noncomputable def nextB (xs : List Int) (a : Int) : List Znode × Int := twoD xs (1 + nextF xs (rightT xs a).2 3).toNat ((rightT xs a).2 + 1) (rightT xs a).1
noncomputable def twoT (xs : List Int) (a : Int) : (List Znode × List Znode) × Int :=
  if nextF xs (nextB xs a).2 10 = 0 then (((bentT xs ((nextB xs a).2 + 1)).1, (nextB xs a).1), (bentT xs ((nextB xs a).2 + 1)).2)
  else (((rightT xs a).1, (nextB xs a).1), (nextB xs a).2 + 1)
theorem req2_kept {xs : List Int} {a : Int} {l : List Znode} {p : ByteArray} (hk : keptT l) (hp : 0 < p.size ∧ p.size ≤ 1000) : (req2 xs a l p).1.code = 0 → keptT (req2 xs a l p).1.nodes := by
  unfold req2
  split
  · exact fun h => delZF_kept rfl h hk
  split
  · exact fun h => setZF_kept rfl h hk
  · exact fun h => newZF_kept rfl h hk hp
theorem req2_bd (xs : List Int) (a : Int) (l : List Znode) (p : ByteArray) : a + 2 ≤ (req2 xs a l p).2 ∧ (req2 xs a l p).2 ≤ a + 3 := by
  unfold req2
  split
  · simp only; omega
  split
  · simp only; omega
  · simp only; omega
theorem next2 {xs : List Int} {R : List Znode × Int} {f : Nat} {a : Int} {l : List Znode} {r : ZResult} {b : Int} (hg : twoD xs (f + 1) a l = R) (hr : req2 xs (drawP xs a).2 l (drawP xs a).1 = (r, b)) :
    (r.code = 0 → twoD xs f b r.nodes = R) ∧ (¬ r.code = 0 → twoD xs f b l = R) := by
  have hs : twoD xs (f + 1) a l = twoD xs f (req2 xs (drawP xs a).2 l (drawP xs a).1).2 (if (req2 xs (drawP xs a).2 l (drawP xs a).1).1.code = 0 then (req2 xs (drawP xs a).2 l (drawP xs a).1).1.nodes else l) := rfl
  rw [hs, hr] at hg
  exact ⟨fun h => by rw [← hg]; simp only; rw [if_pos h], fun h => by rw [← hg]; simp only; rw [if_neg h]⟩
def go2 (xs : List Int) (at_ : Int) (q : Nat × Int × List Znode) : Prop := twoD xs q.1 q.2.1 q.2.2 = nextB xs at_ ∧ at_ + 3 ≤ q.2.1 ∧ q.2.1 + 7 * q.1 ≤ at_ + 130 ∧ q.1 ≤ 3 ∧ keptT q.2.2

/-! ### spec.l7Two -/
def pr12 (xs : List Int) (at_ : Int)  : Prop := okX xs at_ ∧ at_ ≤ 700000
noncomputable def ro12 (xs : List Int) (at_ : Int)  : List Znode × List Znode := (twoT xs at_).1
noncomputable def rs12 (xs : List Int) (at_ : Int)  : V := .tup [.osl 1 ((ro12 xs at_ ).1).length, .osl 2 ((ro12 xs at_ ).2).length]
noncomputable def rb12 (xs : List Int) (at_ : Int)  : List Blk := [(.arr 5 ((ro12 xs at_ ).1).length (gL (encZnode 1) ((ro12 xs at_ ).1)) tagS), (.arr 5 ((ro12 xs at_ ).2).length (gL (encZnode 1) ((ro12 xs at_ ).2)) tagS)]
noncomputable def ra12 (xs : List Int) (at_ : Int)  : Int := (twoT xs at_).2
noncomputable def in12_4 (xs : List Int) (at_ : Int)  : LoopInv :=
  ⟨Nat × Int × List Znode, fun q => ⟨[(0, .oref 0 0 0), (4, .osl (canonT 4) (rightT xs at_).1.length), (5, .osl (canonT 5) q.2.2.length), (6, .int .i64 q.1)], [(canonT 4, .arr 5 (rightT xs at_).1.length (gL (encZnode 1) (rightT xs at_).1) tagS), (canonT 5, .arr 5 q.2.2.length (gL (encZnode 1) q.2.2) tagS), (0, .box [encL encY 0 xs, .int .i64 q.2.1])]⟩, fun q => go2 xs at_ q, fun q => q.1⟩
noncomputable def iv12 (xs : List Int) (at_ : Int)  : Nat → Option LoopInv := fun k0 => match k0 with
  | 4 => some (in12_4 xs at_ )
  | _ => none
noncomputable def D12 : Nat → Option (Bool × FSpec) := lk [(27, (true, sp27)), (32, (true, sp32)), (28, (true, sp28)), (25, (true, sp25)), (33, (true, sp33)), (26, (false, sp26)), (29, (false, sp29)), (31, (false, sp31)), (30, (false, sp30))]
theorem da12 : SoundAll Tryz.prog D12 := soundAll_cons so27 (soundAll_cons so32 (soundAll_cons so28 (soundAll_cons so25 (soundAll_cons so33 (soundAll_cons so26 (soundAll_cons so29 (soundAll_cons so31 (soundAll_cons so30 (soundAll_nil)))))))))
noncomputable def cx12 (xs : List Int) (at_ : Int)  : Cx := ⟨tt, D12, Tryz.f12.ntmps, [0, 2, 3, 4, 5, 6, 7, 8, 17, 28, 29, 34, 43, 47], [(4, ⟨[(0, none), (4, some 5), (5, some 5), (6, none)], [(0, [])]⟩)], [], iv12 xs at_ , [], noM, []⟩
noncomputable def k12_0 (xs : List Int) : List Int := (decL decY (encL encY 1 (decL decY (encL encY 1 xs))))
noncomputable def k12_1 (xs : List Int) (at_ : Int) (y : Nat × Int × List Znode) : AS := (AS.mk [(0, V.oref 0 0 0), (4, V.osl 32000320 (List.length (Prod.fst (rightT xs at_)))), (5, V.osl 32000384 (List.length y.2.2)), (6, vi (↑y.1 : Int))] [(32000320, Blk.arr 5 (List.length (Prod.fst (rightT xs at_))) (gL (encZnode 1) (Prod.fst (rightT xs at_))) 100), (32000384, Blk.arr 5 (List.length y.2.2) (gL (encZnode 1) y.2.2) 100), (0, Blk.box [encL encY 0 xs, vi y.2.1])])
noncomputable def k12_2 (xs : List Int) (x : Nat × Int × List Znode) : Int := (ra27 (decL decY (encL encY 1 (k12_0 xs))) (ra27 (k12_0 xs) (ra28 (decL decY (encL encY 1 xs)) x.2.1) (9 : Int)) (3 : Int))
noncomputable def k12_3 (xs : List Int) : List Int := (decL decY (encL encY 1 (decL decY (encL encY 1 (k12_0 xs)))))
noncomputable def k12_4 (xs : List Int) (at_ : Int) : Nat × Blk := (32000320, Blk.arr 5 (List.length (Prod.fst (rightT xs at_))) (gL (encZnode 1) (Prod.fst (rightT xs at_))) 100)
noncomputable def k12_5 (xs : List Int) (x : Nat × Int × List Znode) : Int := (ra28 (decL decY (encL encY 1 xs)) x.2.1)
noncomputable def k12_6 (xs : List Int) (at_ : Int) (x : Nat × Int × List Znode) : AS := (AS.mk [(0, V.oref 0 0 0), (4, V.osl 32000320 (List.length (Prod.fst (rightT xs at_)))), (5, V.osl 32000384 (List.length x.2.2)), (6, vi ((↑x.1 : Int) - (1 : Int)))] [(k12_4 xs at_), (32000384, Blk.arr 5 (List.length x.2.2) (gL (encZnode 1) x.2.2) 100), (0, Blk.box [encL encY 0 (decL decY (encL encY 1 (k12_0 xs))), vi (k12_2 xs x)])])
noncomputable def k12_7 (xs : List Int) (at_ : Int) : V := (encL (encZnode 1) 1 (ro25 (decL decY (encL encY 1 xs)) at_))
noncomputable def k12_8 (x : Nat × Int × List Znode) : Prop := (inK IntKind.i64 ((↑x.1 : Int) - (1 : Int)))
noncomputable def k12_9 (xs : List Int) (x : Nat × Int × List Znode) : Int := (ra32 (decL decY (encL encY 1 xs)) x.2.1 (10 : Int))
noncomputable def k12_10 (xs : List Int) : V := (encL encY 1 (decL decY (encL encY 1 xs)))
noncomputable def k12_11 (xs : List Int) (at_ : Int) : Nat × V := (4, V.osl 32000320 (List.length (Prod.fst (rightT xs at_))))
noncomputable def k12_12 (x : Nat × Int × List Znode) : Prop := (VLe (encL (encZnode 1) 1 x.2.2) (encL (encZnode 1) 1 (decL decZnode (encL (encZnode 1) 1 x.2.2))))
noncomputable def k12_13 (xs : List Int) (x : Nat × Int × List Znode) : Nat := (List.length (ZResult.nodes (ro29 (decL decZnode (encL (encZnode 1) 1 x.2.2)) (Prod.fst (drawP (decL decY (encL encY 1 xs)) x.2.1)) (nextF (k12_0 xs) (k12_5 xs x) (9 : Int)) (0 : Int) false)))
noncomputable def k12_14 (xs : List Int) (x : Nat × Int × List Znode) : Nat := (List.length (ZResult.nodes (ro31 (decL decZnode (encL (encZnode 1) 1 x.2.2)) (Prod.fst (drawP (decL decY (encL encY 1 xs)) x.2.1)) (nextF (k12_3 xs) (k12_2 xs x) (9 : Int)) (-1 : Int))))
theorem bd12 (xs : List Int) (at_ : Int)  (hpre : pr12 xs at_ ) : bodyO (cx12 xs at_ ) Tryz.f12 [(0, 5), (1, 5)] [.oref 0 0 0] [(.box [encL encY 1 xs, .int .i64 at_])] (fun rr bs => VLe rr (rs12 xs at_ ) ∧ BinLe bs [(.box [encL encY 1 xs, .int .i64 (ra12 xs at_ )]), (.arr 5 ((ro12 xs at_ ).1).length (gL (encZnode 1) ((ro12 xs at_ ).1)) tagS), (.arr 5 ((ro12 xs at_ ).2).length (gL (encZnode 1) ((ro12 xs at_ ).2)) tagS)]) := by
  have key : ((((0 = 0) ∧ ((0 = 0) ∧ (0 = 0))) ∧ ((VLe (encL encY 1 xs) (k12_10 xs)) ∧ (pr25 (decL decY (encL encY 1 xs)) at_))) ∧ (((VLe (k12_7 xs at_) (encL (encZnode 1) 1 (decL decZnode (k12_7 xs at_)))) ∧ (pr26 (decL decZnode (k12_7 xs at_)))) ∧ ((((0 = 0) ∧ ((0 = 0) ∧ (0 = 0))) ∧ ((VLe (k12_10 xs) (encL encY 1 (k12_0 xs))) ∧ (pr27 (k12_0 xs) (ra25 (decL decY (encL encY 1 xs)) at_) (3 : Int)))) ∧ ((inK IntKind.i64 ((1 : Int) + nextF (k12_0 xs) (ra25 (decL decY (encL encY 1 xs)) at_) (3 : Int))) ∧ ((∃ x : Nat × Int × List Znode, ((SLe (AS.mk [(0, V.oref 0 0 0), (4, V.osl 32000320 (List.length (ro25 (decL decY (encL encY 1 xs)) at_))), (5, V.osl 32000384 (List.length (ro26 (decL decZnode (k12_7 xs at_))))), (6, vi ((1 : Int) + nextF (k12_0 xs) (ra25 (decL decY (encL encY 1 xs)) at_) (3 : Int)))] [(32000320, Blk.arr 5 (List.length (ro25 (decL decY (encL encY 1 xs)) at_)) (gL (encZnode 1) (ro25 (decL decY (encL encY 1 xs)) at_)) 100), (32000384, Blk.arr 5 (List.length (ro26 (decL decZnode (k12_7 xs at_)))) (gL (encZnode 1) (ro26 (decL decZnode (k12_7 xs at_)))) 100), (0, Blk.box [encL encY 0 (k12_0 xs), vi (ra27 (k12_0 xs) (ra25 (decL decY (encL encY 1 xs)) at_) (3 : Int))])]) (AS.mk [(0, V.oref 0 0 0), (k12_11 xs at_), (5, V.osl 32000384 (List.length x.2.2)), (6, vi (↑x.1 : Int))] [(k12_4 xs at_), (32000384, Blk.arr 5 (List.length x.2.2) (gL (encZnode 1) x.2.2) 100), (0, Blk.box [encL encY 0 xs, vi x.2.1])])) ∧ (go2 xs at_ x))) ∧ (∀ x : Nat × Int × List Znode, ((go2 xs at_ x) → (((decide ((↑x.1 : Int) > (0 : Int)) = true) → ((((0 = 0) ∧ ((0 = 0) ∧ (0 = 0))) ∧ ((VLe (encL encY 1 xs) (k12_10 xs)) ∧ (pr28 (decL decY (encL encY 1 xs)) x.2.1))) ∧ ((((0 = 0) ∧ ((0 = 0) ∧ (0 = 0))) ∧ ((VLe (k12_10 xs) (encL encY 1 (k12_0 xs))) ∧ (pr27 (k12_0 xs) (k12_5 xs x) (9 : Int)))) ∧ (((k12_12 x) ∧ (pr29 (decL decZnode (encL (encZnode 1) 1 x.2.2)) (Prod.fst (drawP (decL decY (encL encY 1 xs)) x.2.1)) (nextF (k12_0 xs) (k12_5 xs x) (9 : Int)) (0 : Int) false)) ∧ ((((0 = 0) ∧ ((0 = 0) ∧ (0 = 0))) ∧ ((VLe (encL encY 1 (k12_0 xs)) (encL encY 1 (decL decY (encL encY 1 (k12_0 xs))))) ∧ (pr27 (decL decY (encL encY 1 (k12_0 xs))) (ra27 (k12_0 xs) (k12_5 xs x) (9 : Int)) (3 : Int)))) ∧ ((((nextF (decL decY (encL encY 1 (k12_0 xs))) (ra27 (k12_0 xs) (k12_5 xs x) (9 : Int)) (3 : Int) == (0 : Int)) = true) → (((k12_12 x) ∧ (pr30 (decL decZnode (encL (encZnode 1) 1 x.2.2)) (Prod.fst (drawP (decL decY (encL encY 1 xs)) x.2.1)) (-1 : Int))) ∧ ((((ZResult.code (ro30 (decL decZnode (encL (encZnode 1) 1 x.2.2)) (Prod.fst (drawP (decL decY (encL encY 1 xs)) x.2.1)) (-1 : Int)) == (0 : Int)) = true) → ((k12_8 x) ∧ (∃ y : Nat × Int × List Znode, ((SLe (AS.mk [(0, V.oref 0 0 0), (k12_11 xs at_), (5, V.osl 32000384 (List.length (ZResult.nodes (ro30 (decL decZnode (encL (encZnode 1) 1 x.2.2)) (Prod.fst (drawP (decL decY (encL encY 1 xs)) x.2.1)) (-1 : Int))))), (6, vi ((↑x.1 : Int) - (1 : Int)))] [(k12_4 xs at_), (32000384, Blk.arr 5 (List.length (ZResult.nodes (ro30 (decL decZnode (encL (encZnode 1) 1 x.2.2)) (Prod.fst (drawP (decL decY (encL encY 1 xs)) x.2.1)) (-1 : Int)))) (gL (encZnode 1) (ZResult.nodes (ro30 (decL decZnode (encL (encZnode 1) 1 x.2.2)) (Prod.fst (drawP (decL decY (encL encY 1 xs)) x.2.1)) (-1 : Int)))) 100), (0, Blk.box [encL encY 0 (decL decY (encL encY 1 (k12_0 xs))), vi (k12_2 xs x)])]) (k12_1 xs at_ y)) ∧ ((go2 xs at_ y) ∧ (Prod.fst y < Prod.fst x)))))) ∧ (((ZResult.code (ro30 (decL decZnode (encL (encZnode 1) 1 x.2.2)) (Prod.fst (drawP (decL decY (encL encY 1 xs)) x.2.1)) (-1 : Int)) == (0 : Int)) = false) → ((k12_8 x) ∧ (∃ y : Nat × Int × List Znode, ((SLe (k12_6 xs at_ x) (k12_1 xs at_ y)) ∧ ((go2 xs at_ y) ∧ (Prod.fst y < Prod.fst x))))))))) ∧ (((nextF (decL decY (encL encY 1 (k12_0 xs))) (ra27 (k12_0 xs) (k12_5 xs x) (9 : Int)) (3 : Int) == (0 : Int)) = false) → ((((nextF (decL decY (encL encY 1 (k12_0 xs))) (ra27 (k12_0 xs) (k12_5 xs x) (9 : Int)) (3 : Int) == (1 : Int)) = true) → ((((0 = 0) ∧ ((0 = 0) ∧ (0 = 0))) ∧ ((VLe (encL encY 1 (decL decY (encL encY 1 (k12_0 xs)))) (encL encY 1 (k12_3 xs))) ∧ (pr27 (k12_3 xs) (k12_2 xs x) (9 : Int)))) ∧ (((k12_12 x) ∧ (pr31 (decL decZnode (encL (encZnode 1) 1 x.2.2)) (Prod.fst (drawP (decL decY (encL encY 1 xs)) x.2.1)) (nextF (k12_3 xs) (k12_2 xs x) (9 : Int)) (-1 : Int))) ∧ ((((ZResult.code (ro31 (decL decZnode (encL (encZnode 1) 1 x.2.2)) (Prod.fst (drawP (decL decY (encL encY 1 xs)) x.2.1)) (nextF (k12_3 xs) (k12_2 xs x) (9 : Int)) (-1 : Int)) == (0 : Int)) = true) → ((k12_8 x) ∧ (∃ y : Nat × Int × List Znode, ((SLe (AS.mk [(0, V.oref 0 0 0), (k12_11 xs at_), (5, V.osl 32000384 (k12_14 xs x)), (6, vi ((↑x.1 : Int) - (1 : Int)))] [(k12_4 xs at_), (32000384, Blk.arr 5 (k12_14 xs x) (gL (encZnode 1) (ZResult.nodes (ro31 (decL decZnode (encL (encZnode 1) 1 x.2.2)) (Prod.fst (drawP (decL decY (encL encY 1 xs)) x.2.1)) (nextF (k12_3 xs) (k12_2 xs x) (9 : Int)) (-1 : Int)))) 100), (0, Blk.box [encL encY 0 (k12_3 xs), vi (ra27 (k12_3 xs) (k12_2 xs x) (9 : Int))])]) (k12_1 xs at_ y)) ∧ ((go2 xs at_ y) ∧ (Prod.fst y < Prod.fst x)))))) ∧ (((ZResult.code (ro31 (decL decZnode (encL (encZnode 1) 1 x.2.2)) (Prod.fst (drawP (decL decY (encL encY 1 xs)) x.2.1)) (nextF (k12_3 xs) (k12_2 xs x) (9 : Int)) (-1 : Int)) == (0 : Int)) = false) → ((k12_8 x) ∧ (∃ y : Nat × Int × List Znode, ((SLe (AS.mk [(0, V.oref 0 0 0), (k12_11 xs at_), (5, V.osl 32000384 (List.length x.2.2)), (6, vi ((↑x.1 : Int) - (1 : Int)))] [(k12_4 xs at_), (32000384, Blk.arr 5 (List.length x.2.2) (gL (encZnode 1) x.2.2) 100), (0, Blk.box [encL encY 0 (k12_3 xs), vi (ra27 (k12_3 xs) (k12_2 xs x) (9 : Int))])]) (k12_1 xs at_ y)) ∧ ((go2 xs at_ y) ∧ (Prod.fst y < Prod.fst x)))))))))) ∧ (((nextF (decL decY (encL encY 1 (k12_0 xs))) (ra27 (k12_0 xs) (k12_5 xs x) (9 : Int)) (3 : Int) == (1 : Int)) = false) → ((((ZResult.code (ro29 (decL decZnode (encL (encZnode 1) 1 x.2.2)) (Prod.fst (drawP (decL decY (encL encY 1 xs)) x.2.1)) (nextF (k12_0 xs) (k12_5 xs x) (9 : Int)) (0 : Int) false) == (0 : Int)) = true) → ((k12_8 x) ∧ (∃ y : Nat × Int × List Znode, ((SLe (AS.mk [(0, V.oref 0 0 0), (k12_11 xs at_), (5, V.osl 32000384 (k12_13 xs x)), (6, vi ((↑x.1 : Int) - (1 : Int)))] [(k12_4 xs at_), (32000384, Blk.arr 5 (k12_13 xs x) (gL (encZnode 1) (ZResult.nodes (ro29 (decL decZnode (encL (encZnode 1) 1 x.2.2)) (Prod.fst (drawP (decL decY (encL encY 1 xs)) x.2.1)) (nextF (k12_0 xs) (k12_5 xs x) (9 : Int)) (0 : Int) false))) 100), (0, Blk.box [encL encY 0 (decL decY (encL encY 1 (k12_0 xs))), vi (k12_2 xs x)])]) (k12_1 xs at_ y)) ∧ ((go2 xs at_ y) ∧ (Prod.fst y < Prod.fst x)))))) ∧ (((ZResult.code (ro29 (decL decZnode (encL (encZnode 1) 1 x.2.2)) (Prod.fst (drawP (decL decY (encL encY 1 xs)) x.2.1)) (nextF (k12_0 xs) (k12_5 xs x) (9 : Int)) (0 : Int) false) == (0 : Int)) = false) → ((k12_8 x) ∧ (∃ y : Nat × Int × List Znode, ((SLe (k12_6 xs at_ x) (k12_1 xs at_ y)) ∧ ((go2 xs at_ y) ∧ (Prod.fst y < Prod.fst x)))))))))))))))) ∧ ((decide ((↑x.1 : Int) > (0 : Int)) = false) → ((((0 = 0) ∧ ((0 = 0) ∧ (0 = 0))) ∧ ((VLe (encL encY 1 xs) (k12_10 xs)) ∧ (pr32 (decL decY (encL encY 1 xs)) x.2.1 (10 : Int)))) ∧ (((decide (nextF (decL decY (encL encY 1 xs)) x.2.1 (10 : Int) = (0 : Int)) = true) → ((((0 = 0) ∧ ((0 = 0) ∧ (0 = 0))) ∧ ((VLe (k12_10 xs) (encL encY 1 (k12_0 xs))) ∧ (pr33 (k12_0 xs) (k12_9 xs x)))) ∧ ((VLe (V.tup [V.osl 1 (List.length (ro33 (k12_0 xs) (k12_9 xs x))), V.osl 2 (List.length x.2.2)]) (V.tup [V.osl 1 (List.length (Prod.fst (ro12 xs at_))), V.osl 2 (List.length (Prod.snd (ro12 xs at_)))])) ∧ ((BLe (Blk.box [encL encY 1 (k12_0 xs), vi (ra33 (k12_0 xs) (k12_9 xs x))]) (Blk.box [encL encY 1 xs, vi (ra12 xs at_)])) ∧ ((BLe (Blk.arr 5 (List.length (ro33 (k12_0 xs) (k12_9 xs x))) (gL (encZnode 1) (ro33 (k12_0 xs) (k12_9 xs x))) 100) (Blk.arr 5 (List.length (Prod.fst (ro12 xs at_))) (gL (encZnode 1) (Prod.fst (ro12 xs at_))) 100)) ∧ ((BLe (Blk.arr 5 (List.length x.2.2) (gL (encZnode 1) x.2.2) 100) (Blk.arr 5 (List.length (Prod.snd (ro12 xs at_))) (gL (encZnode 1) (Prod.snd (ro12 xs at_))) 100)) ∧ (True))))))) ∧ ((decide (nextF (decL decY (encL encY 1 xs)) x.2.1 (10 : Int) = (0 : Int)) = false) → ((VLe (V.tup [V.osl 1 (List.length (Prod.fst (rightT xs at_))), V.osl 2 (List.length x.2.2)]) (V.tup [V.osl 1 (List.length (Prod.fst (ro12 xs at_))), V.osl 2 (List.length (Prod.snd (ro12 xs at_)))])) ∧ ((BLe (Blk.box [encL encY 1 (decL decY (encL encY 1 xs)), vi (k12_9 xs x)]) (Blk.box [encL encY 1 xs, vi (ra12 xs at_)])) ∧ ((BLe (Blk.arr 5 (List.length (Prod.fst (rightT xs at_))) (gL (encZnode 1) (Prod.fst (rightT xs at_))) 100) (Blk.arr 5 (List.length (Prod.fst (ro12 xs at_))) (gL (encZnode 1) (Prod.fst (ro12 xs at_))) 100)) ∧ ((BLe (Blk.arr 5 (List.length x.2.2) (gL (encZnode 1) x.2.2) 100) (Blk.arr 5 (List.length (Prod.snd (ro12 xs at_))) (gL (encZnode 1) (Prod.snd (ro12 xs at_))) 100)) ∧ (True))))))))))))))))) := by
    delta k12_14; delta k12_13; delta k12_12; delta k12_11; delta k12_10; delta k12_9; delta k12_8; delta k12_7; delta k12_6; delta k12_5; delta k12_4; delta k12_3; delta k12_2; delta k12_1; delta k12_0; delta vi
    obtain ⟨h0, h1⟩ := hpre
    have h3 := h0.2.2.1
    have rb := rightT_bd h0 (by omega)
    have k1 : okX xs (rightT xs at_).2 := h0.to (by omega) (by omega)
    have b1 := nextF_bd k1 3
    have b11 := b1.2.1 (by decide)
    have v1 : 1 + nextF xs (rightT xs at_).2 3 = (((1 + nextF xs (rightT xs at_).2 3).toNat : Nat) : Int) := by omega
    have hrl := rb.1.1
    simp only [decL_bytes, decL_Znode, ra27, ra32, ra28, ra25, ro25, ra33, ro33, ro26, ro29, ro31, ro30, ra12, ro12, Int.add_assoc, Int.reduceAdd]
    refine ⟨srcO ⟨h0, by omega⟩, ⟨VLe.refl _, by show _ ≤ 1000; omega⟩, srcO k1, inK64 (by omega), ⟨((1 + nextF xs (rightT xs at_).2 3).toNat, (rightT xs at_).2 + 1, (rightT xs at_).1), sle_of ⟨rfl, VLe.refl _, rfl, VLe.refl _, rfl, VLe.refl _, rfl, vle_int v1, trivial⟩ ⟨rfl, BLe.refl _, rfl, BLe.refl _, rfl, BLe.refl _, trivial⟩, rfl, by simp only; omega, by simp only; omega, by simp only; omega, rb.1⟩, ?_⟩
    rintro ⟨f, a, l⟩ ⟨he, ha1, ha2, hf3, hk⟩
    simp only at he ha1 ha2 hf3 hk ⊢
    refine ⟨fun h => ?_, fun h => ?_⟩
    · cases f with
      | zero => have := of_decide_eq_true h; omega
      | succ f =>
        have h4 : okX xs a := h0.to (by omega) (by omega)
        have d := drawP_bd h4
        have dp := drawP_pos xs a
        have hl := hk.1
        have hb := hk.2.1
        have kr := req2_kept (xs := xs) (a := (drawP xs a).2) (p := (drawP xs a).1) hk ⟨dp, by omega⟩
        have br := req2_bd xs (drawP xs a).2 l (drawP xs a).1
        have nx := @next2 xs (nextB xs at_) f a l
        have v2 : ((f + 1 : Nat) : Int) - 1 = ((f : Nat) : Int) := by omega
        have go : ∀ r b, req2 xs (drawP xs a).2 l (drawP xs a).1 = (r, b) → (r.code = 0 → go2 xs at_ (f, b, r.nodes)) ∧ (¬ r.code = 0 → go2 xs at_ (f, b, l)) := by
          intro r b hr
          have n := nx he hr
          rw [hr] at kr br
          simp only at kr br
          exact ⟨fun hc => ⟨n.1 hc, by simp only; omega, by simp only; omega, by simp only; omega, kr hc⟩, fun hc => ⟨n.2 hc, by simp only; omega, by simp only; omega, by simp only; omega, hk⟩⟩
        generalize (drawP xs a).1 = p at *
        generalize (drawP xs a).2 = c at *
        have o0 : okX xs c := h0.to (by omega) (by omega)
        have o1 : okX xs (c + 1) := h0.to (by omega) (by omega)
        have o2 : okX xs (c + 2) := h0.to (by omega) (by omega)
        refine ⟨srcO ⟨h4, by omega⟩, srcO o0, ⟨VLe.refl _, by omega, hb, dp, by omega⟩, srcO o1, fun h5 => ?_, fun h5 => ⟨fun h6 => ?_, fun h6 => ?_⟩⟩
        · have hr : req2 xs c l p = (delZF l p (-1), c + 2) := by
            unfold req2
            rw [if_pos (eq_of_beq h5)]
          have g := go _ _ hr
          refine ⟨⟨VLe.refl _, by omega, hb⟩, fun h7 => ?_, fun h7 => ?_⟩
          · exact ⟨inK64 (by omega), (f, c + 2, (delZF l p (-1)).nodes), sle_of ⟨rfl, VLe.refl _, rfl, VLe.refl _, rfl, VLe.refl _, rfl, vle_int v2, trivial⟩ ⟨rfl, BLe.refl _, rfl, BLe.refl _, rfl, BLe.refl _, trivial⟩, g.1 (eq_of_beq h7), by simp only; omega⟩
          · exact ⟨inK64 (by omega), (f, c + 2, l), sle_of ⟨rfl, VLe.refl _, rfl, VLe.refl _, rfl, VLe.refl _, rfl, vle_int v2, trivial⟩ ⟨rfl, BLe.refl _, rfl, BLe.refl _, rfl, BLe.refl _, trivial⟩, g.2 (by simpa using h7), by simp only; omega⟩
        · have hr : req2 xs c l p = (setZF l p (nextF xs (c + 2) 9) (-1), c + 3) := by
            unfold req2
            rw [if_neg (by simpa using h5), if_pos (eq_of_beq h6)]
          have g := go _ _ hr
          refine ⟨srcO o2, ⟨VLe.refl _, by omega, hb⟩, fun h7 => ?_, fun h7 => ?_⟩
          · exact ⟨inK64 (by omega), (f, c + 3, (setZF l p (nextF xs (c + 2) 9) (-1)).nodes), sle_of ⟨rfl, VLe.refl _, rfl, VLe.refl _, rfl, VLe.refl _, rfl, vle_int v2, trivial⟩ ⟨rfl, BLe.refl _, rfl, BLe.refl _, rfl, BLe.refl _, trivial⟩, g.1 (eq_of_beq h7), by simp only; omega⟩
          · exact ⟨inK64 (by omega), (f, c + 3, l), sle_of ⟨rfl, VLe.refl _, rfl, VLe.refl _, rfl, VLe.refl _, rfl, vle_int v2, trivial⟩ ⟨rfl, BLe.refl _, rfl, BLe.refl _, rfl, BLe.refl _, trivial⟩, g.2 (by simpa using h7), by simp only; omega⟩
        · have hr : req2 xs c l p = (newZF l p (nextF xs c 9) 0 false, c + 2) := by
            unfold req2
            rw [if_neg (by simpa using h5), if_neg (by simpa using h6)]
          have g := go _ _ hr
          refine ⟨fun h7 => ?_, fun h7 => ?_⟩
          · exact ⟨inK64 (by omega), (f, c + 2, (newZF l p (nextF xs c 9) 0 false).nodes), sle_of ⟨rfl, VLe.refl _, rfl, VLe.refl _, rfl, VLe.refl _, rfl, vle_int v2, trivial⟩ ⟨rfl, BLe.refl _, rfl, BLe.refl _, rfl, BLe.refl _, trivial⟩, g.1 (eq_of_beq h7), by simp only; omega⟩
          · exact ⟨inK64 (by omega), (f, c + 2, l), sle_of ⟨rfl, VLe.refl _, rfl, VLe.refl _, rfl, VLe.refl _, rfl, vle_int v2, trivial⟩ ⟨rfl, BLe.refl _, rfl, BLe.refl _, rfl, BLe.refl _, trivial⟩, g.2 (by simpa using h7), by simp only; omega⟩
    · have hf : f = 0 := by have := of_decide_eq_false h; omega
      subst hf
      have e1 : (l, a) = nextB xs at_ := he
      have h4 : okX xs a := h0.to (by omega) (by omega)
      have h5 : okX xs (a + 1) := h0.to (by omega) (by omega)
      refine ⟨srcO h4, fun h6 => ⟨srcO ⟨h5, by omega⟩, ?_⟩, fun h6 => ?_⟩
      · have e : twoT xs at_ = (((bentT xs (a + 1)).1, l), (bentT xs (a + 1)).2) := by
          unfold twoT
          rw [← e1]
          exact if_pos (of_decide_eq_true h6)
        rw [e]
        exact ⟨VLe.refl _, BLe.refl _, BLe.refl _, BLe.refl _, trivial⟩
      · have e : twoT xs at_ = (((rightT xs at_).1, l), a + 1) := by
          unfold twoT
          rw [← e1]
          exact if_neg (of_decide_eq_false h6)
        rw [e]
        exact ⟨VLe.refl _, BLe.refl _, BLe.refl _, BLe.refl _, trivial⟩
  exact Eq.mp (by kernel_rfl) key
noncomputable def sp12 : FSpec := fun args bin => match args, bin with
  | [.oref i0 j0 o0], [.box [v0, .int .i64 p0]] => some ((i0 = 0 ∧ j0 = 0 ∧ o0 = 0) ∧ VLe v0 (encL encY 1 (decL decY v0)) ∧ pr12 (decL decY v0) p0, rs12 (decL decY v0) p0, [.box [encL encY 1 (decL decY v0), .int .i64 (ra12 (decL decY v0) p0)]] ++ rb12 (decL decY v0) p0)
  | _, _ => none
theorem so12 : Sound Tryz.prog 12 sp12 := by
  refine sound_of_bodyO hmix (tpl := [(0, 5), (1, 5)]) Tryz.func12 rfl (by kernel_rfl) fun args bin ob r bout hDe hob => ?_
  unfold sp12 at hDe
  split at hDe
  · rename_i i0 j0 o0 v0 p0
    cases hDe
    obtain ⟨⟨rfl, rfl, rfl⟩, h0, hpre⟩ := hob
    have hb := bd12 (decL decY v0) p0 hpre
    exact ⟨Nat.le_of_ble_eq_true (by kernel_rfl), cx12 (decL decY v0) p0, Eq.mp (by kernel_rfl) htt, Eq.mp (by kernel_rfl) da12, Eq.mp (by kernel_rfl) (noM_sound (P := Tryz.prog)), by kernel_rfl, [.oref 0 0 0], [(.box [encL encY 1 (decL decY v0), .int .i64 p0])], args_of_vles (l' := [.oref 0 0 0]) ⟨VLe.refl _, trivial⟩, ⟨ble_box ⟨h0, VLe.refl _, trivial⟩, trivial⟩, Eq.mp (by kernel_rfl) hb⟩
  · cases hDe

end Go.Av
