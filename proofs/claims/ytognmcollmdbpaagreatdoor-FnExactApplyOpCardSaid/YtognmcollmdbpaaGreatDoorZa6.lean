/- The proof's texts, joined, without what the row does not reach: part 6. -/
import Derived.Test.YtognmcollmdbpaaGreatDoorZa5
namespace Go.Av
open Go.Proofs
set_option maxRecDepth 100000
set_option maxHeartbeats 4000000
set_option linter.unusedVariables false
set_option linter.unusedSimpArgs false
noncomputable def q9n (k : Int) : q03 := ⟨mtF k, k + 1, k + 2, k + 3, k + 4⟩
noncomputable def zMk (k : Int) (n : Nat) : List q03 := (List.range n).map fun i : Nat => q9n (k + 5 * i)
@[simp] theorem qGk (k : Int) (n : Nat) : (zMk k n).length = n := by simp [zMk]
theorem qGt (k : Int) (n i : Nat) (h : i < n) : (zMk k n).getD i default = q9n (k + 5 * i) := by simp [zMk, h]
noncomputable def qBk (xs : List q03) (k : Int) : Int := if xs = zMk k xs.length then k + 5 * xs.length else -1
theorem qPb (k : Int) (n t : Nat) : q0M q04 (.sl n (gL (q00 1) (zMk k n)) t) = zMk k n := by
 have h := q1P (q11 1) t (zMk k n)
 unfold q0H at h
 rwa [qGk] at h
theorem qSV (k : Int) (n t : Nat) : VLe (.sl n (gL (q00 1) (zMk k n)) t) (q0H (q00 1) t (zMk k n)) := by
 unfold q0H
 rw [qGk]
 exact VLe.refl _
noncomputable def qSX (y0 : List q03) (k : Int) : q0O :=
 ⟨Nat × List q03, fun p => ⟨[(0, .osl 0 y0.length), (1, .int .i64 (k + 5 * p.1)), (5, .int .i64 p.1)], [(0, .arr 5 y0.length (gL (q00 1) p.2) q0i)]⟩, fun p => p.1 ≤ y0.length ∧ p.2.length = y0.length ∧ ∀ j, j < p.1 → p.2.getD j default = q9n (k + 5 * j), fun p => y0.length - p.1⟩
noncomputable def x31 (y0 : List q03) (k : Int) : Nat → Option q0O := fun k0 => match k0 with
 | 2 => some (qSX y0 k)
 | _ => none
noncomputable def x6U : Nat → Option (Fl × q0G) := lk [(79, (.ro, qTk))]
theorem x4j : q0D Tryz.prog x6U := q01 qXw (q07)
noncomputable def qUD (y0 : List q03) (k : Int) : Cx := ⟨tt, x6U, Tryz.f100.ntmps, [0, 1, 4, 5, 9], [(2, ⟨[(0, none), (1, none), (5, none)], [(0, [])]⟩)], [], x31 y0 k, [], noM, []⟩
def qLt (n0 : Nat) (k : Int) : Prop := 1 ≤ k ∧ k + 5 * n0 ≤ 4611686018427387904
noncomputable def q0E (x : Nat × List q03) : Nat := (Int.toNat (↑x.1 : Int))
def qBw (y0 : List q03) (x : Nat × List q03) : Prop := (((0 : Int) ≤ (↑x.1 : Int)) ∧ ((↑x.1 : Int) < (↑(List.length y0) : Int)))
def qLV (y0 : List q03) (k : Int) (x : Nat × List q03) : Prop := ((Prod.fst x ≤ List.length y0) ∧ ((List.length x.2 = List.length y0) ∧ (∀ j : Nat, ((j < Prod.fst x) → (List.getD x.2 j default = q9n (k + (5 : Int) * (↑j : Int)))))))
def qBs (y0 : List q03) (x : Nat × List q03) : Prop := (Int.toNat (↑x.1 : Int) < List.length y0)
theorem x2X (y0 : List q03) (k : Int) (hpre : qLt y0.length k) : q3H (qUD y0 k) Tryz.f100 [] [.osl 0 y0.length, .int .i64 k] [.arr 5 y0.length (gL (q00 1) y0) q0i] (fun rr bs => VLe rr (.int .i64 (k + 5 * (y0.length : Int))) ∧ q1d bs [.arr 5 y0.length (gL (q00 1) (zMk k y0.length)) q0i]) := by
 have key : ((∃ x : Nat × List q03, ((SLe (AS.mk [(0, V.osl 0 (List.length y0)), (1, vi k), (5, vi 0)] [(0, Blk.arr 5 (List.length y0) (gL (q00 1) y0) 100)]) (AS.mk [(0, V.osl 0 (List.length y0)), (1, vi (k + (5 : Int) * (↑x.1 : Int))), (5, vi (↑x.1 : Int))] [(0, Blk.arr 5 (List.length y0) (gL (q00 1) x.2) 100)])) ∧ (qLV y0 k x))) ∧ (∀ x : Nat × List q03, ((qLV y0 k x) → (((decide ((↑x.1 : Int) < (↑(List.length y0) : Int)) = true) → ((qTb (k + (5 : Int) * (↑x.1 : Int))) ∧ ((qBw y0 x) ∧ ((qBs y0 x) ∧ ((inK IntKind.i64 (k + (5 : Int) * (↑x.1 : Int) + (1 : Int))) ∧ ((qBw y0 x) ∧ ((qBs y0 x) ∧ ((inK IntKind.i64 (k + (5 : Int) * (↑x.1 : Int) + (1 : Int) + (1 : Int))) ∧ ((qBw y0 x) ∧ ((qBs y0 x) ∧ ((inK IntKind.i64 (k + (5 : Int) * (↑x.1 : Int) + (1 : Int) + (1 : Int) + (1 : Int))) ∧ ((qBw y0 x) ∧ ((qBs y0 x) ∧ ((inK IntKind.i64 (k + (5 : Int) * (↑x.1 : Int) + (1 : Int) + (1 : Int) + (1 : Int) + (1 : Int))) ∧ ((qBw y0 x) ∧ ((qBs y0 x) ∧ ((inK IntKind.i64 (k + (5 : Int) * (↑x.1 : Int) + (1 : Int) + (1 : Int) + (1 : Int) + (1 : Int) + (1 : Int))) ∧ ((inK IntKind.i64 ((↑x.1 : Int) + (1 : Int))) ∧ (∃ y : Nat × List q03, ((SLe (AS.mk [(0, V.osl 0 (List.length y0)), (1, vi (k + (5 : Int) * (↑x.1 : Int) + (1 : Int) + (1 : Int) + (1 : Int) + (1 : Int) + (1 : Int))), (5, vi ((↑x.1 : Int) + (1 : Int)))] [(0, Blk.arr 5 (List.length y0) (q5d (q5d (q5d (q5d (q5d (gL (q00 1) x.2) (q0E x) (V.agg [V.str (mtF (k + (5 : Int) * (↑x.1 : Int))), vi (q03.data (List.getD x.2 (q0E x) default)), vi (q03.version (List.getD x.2 (q0E x) default)), vi (q03.owner (List.getD x.2 (q0E x) default)), vi (q03.next (List.getD x.2 (q0E x) default))])) (q0E x) (V.agg [V.str (bif Nat.beq (q0E x) (q0E x) then mtF (k + (5 : Int) * (↑x.1 : Int)) else q03.path (List.getD x.2 (q0E x) default)), vi (k + (5 : Int) * (↑x.1 : Int) + (1 : Int)), vi (bif Nat.beq (q0E x) (q0E x) then q03.version (List.getD x.2 (q0E x) default) else q03.version (List.getD x.2 (q0E x) default)), vi (bif Nat.beq (q0E x) (q0E x) then q03.owner (List.getD x.2 (q0E x) default) else q03.owner (List.getD x.2 (q0E x) default)), vi (bif Nat.beq (q0E x) (q0E x) then q03.next (List.getD x.2 (q0E x) default) else q03.next (List.getD x.2 (q0E x) default))])) (q0E x) (V.agg [V.str (bif Nat.beq (q0E x) (q0E x) then bif Nat.beq (q0E x) (q0E x) then mtF (k + (5 : Int) * (↑x.1 : Int)) else q03.path (List.getD x.2 (q0E x) default) else bif Nat.beq (q0E x) (q0E x) then mtF (k + (5 : Int) * (↑x.1 : Int)) else q03.path (List.getD x.2 (q0E x) default)), vi (bif Nat.beq (q0E x) (q0E x) then k + (5 : Int) * (↑x.1 : Int) + (1 : Int) else bif Nat.beq (q0E x) (q0E x) then q03.data (List.getD x.2 (q0E x) default) else q03.data (List.getD x.2 (q0E x) default)), vi (k + (5 : Int) * (↑x.1 : Int) + (1 : Int) + (1 : Int)), vi (bif Nat.beq (q0E x) (q0E x) then bif Nat.beq (q0E x) (q0E x) then q03.owner (List.getD x.2 (q0E x) default) else q03.owner (List.getD x.2 (q0E x) default) else bif Nat.beq (q0E x) (q0E x) then q03.owner (List.getD x.2 (q0E x) default) else q03.owner (List.getD x.2 (q0E x) default)), vi (bif Nat.beq (q0E x) (q0E x) then bif Nat.beq (q0E x) (q0E x) then q03.next (List.getD x.2 (q0E x) default) else q03.next (List.getD x.2 (q0E x) default) else bif Nat.beq (q0E x) (q0E x) then q03.next (List.getD x.2 (q0E x) default) else q03.next (List.getD x.2 (q0E x) default))])) (q0E x) (V.agg [V.str (bif Nat.beq (q0E x) (q0E x) then bif Nat.beq (q0E x) (q0E x) then bif Nat.beq (q0E x) (q0E x) then mtF (k + (5 : Int) * (↑x.1 : Int)) else q03.path (List.getD x.2 (q0E x) default) else bif Nat.beq (q0E x) (q0E x) then mtF (k + (5 : Int) * (↑x.1 : Int)) else q03.path (List.getD x.2 (q0E x) default) else bif Nat.beq (q0E x) (q0E x) then bif Nat.beq (q0E x) (q0E x) then mtF (k + (5 : Int) * (↑x.1 : Int)) else q03.path (List.getD x.2 (q0E x) default) else bif Nat.beq (q0E x) (q0E x) then mtF (k + (5 : Int) * (↑x.1 : Int)) else q03.path (List.getD x.2 (q0E x) default)), vi (bif Nat.beq (q0E x) (q0E x) then bif Nat.beq (q0E x) (q0E x) then k + (5 : Int) * (↑x.1 : Int) + (1 : Int) else bif Nat.beq (q0E x) (q0E x) then q03.data (List.getD x.2 (q0E x) default) else q03.data (List.getD x.2 (q0E x) default) else bif Nat.beq (q0E x) (q0E x) then k + (5 : Int) * (↑x.1 : Int) + (1 : Int) else bif Nat.beq (q0E x) (q0E x) then q03.data (List.getD x.2 (q0E x) default) else q03.data (List.getD x.2 (q0E x) default)), vi (bif Nat.beq (q0E x) (q0E x) then k + (5 : Int) * (↑x.1 : Int) + (1 : Int) + (1 : Int) else bif Nat.beq (q0E x) (q0E x) then bif Nat.beq (q0E x) (q0E x) then q03.version (List.getD x.2 (q0E x) default) else q03.version (List.getD x.2 (q0E x) default) else bif Nat.beq (q0E x) (q0E x) then q03.version (List.getD x.2 (q0E x) default) else q03.version (List.getD x.2 (q0E x) default)), vi (k + (5 : Int) * (↑x.1 : Int) + (1 : Int) + (1 : Int) + (1 : Int)), vi (bif Nat.beq (q0E x) (q0E x) then bif Nat.beq (q0E x) (q0E x) then bif Nat.beq (q0E x) (q0E x) then q03.next (List.getD x.2 (q0E x) default) else q03.next (List.getD x.2 (q0E x) default) else bif Nat.beq (q0E x) (q0E x) then q03.next (List.getD x.2 (q0E x) default) else q03.next (List.getD x.2 (q0E x) default) else bif Nat.beq (q0E x) (q0E x) then bif Nat.beq (q0E x) (q0E x) then q03.next (List.getD x.2 (q0E x) default) else q03.next (List.getD x.2 (q0E x) default) else bif Nat.beq (q0E x) (q0E x) then q03.next (List.getD x.2 (q0E x) default) else q03.next (List.getD x.2 (q0E x) default))])) (q0E x) (V.agg [V.str (bif Nat.beq (q0E x) (q0E x) then bif Nat.beq (q0E x) (q0E x) then bif Nat.beq (q0E x) (q0E x) then bif Nat.beq (q0E x) (q0E x) then mtF (k + (5 : Int) * (↑x.1 : Int)) else q03.path (List.getD x.2 (q0E x) default) else bif Nat.beq (q0E x) (q0E x) then mtF (k + (5 : Int) * (↑x.1 : Int)) else q03.path (List.getD x.2 (q0E x) default) else bif Nat.beq (q0E x) (q0E x) then bif Nat.beq (q0E x) (q0E x) then mtF (k + (5 : Int) * (↑x.1 : Int)) else q03.path (List.getD x.2 (q0E x) default) else bif Nat.beq (q0E x) (q0E x) then mtF (k + (5 : Int) * (↑x.1 : Int)) else q03.path (List.getD x.2 (q0E x) default) else bif Nat.beq (q0E x) (q0E x) then bif Nat.beq (q0E x) (q0E x) then bif Nat.beq (q0E x) (q0E x) then mtF (k + (5 : Int) * (↑x.1 : Int)) else q03.path (List.getD x.2 (q0E x) default) else bif Nat.beq (q0E x) (q0E x) then mtF (k + (5 : Int) * (↑x.1 : Int)) else q03.path (List.getD x.2 (q0E x) default) else bif Nat.beq (q0E x) (q0E x) then bif Nat.beq (q0E x) (q0E x) then mtF (k + (5 : Int) * (↑x.1 : Int)) else q03.path (List.getD x.2 (q0E x) default) else bif Nat.beq (q0E x) (q0E x) then mtF (k + (5 : Int) * (↑x.1 : Int)) else q03.path (List.getD x.2 (q0E x) default)), vi (bif Nat.beq (q0E x) (q0E x) then bif Nat.beq (q0E x) (q0E x) then bif Nat.beq (q0E x) (q0E x) then k + (5 : Int) * (↑x.1 : Int) + (1 : Int) else bif Nat.beq (q0E x) (q0E x) then q03.data (List.getD x.2 (q0E x) default) else q03.data (List.getD x.2 (q0E x) default) else bif Nat.beq (q0E x) (q0E x) then k + (5 : Int) * (↑x.1 : Int) + (1 : Int) else bif Nat.beq (q0E x) (q0E x) then q03.data (List.getD x.2 (q0E x) default) else q03.data (List.getD x.2 (q0E x) default) else bif Nat.beq (q0E x) (q0E x) then bif Nat.beq (q0E x) (q0E x) then k + (5 : Int) * (↑x.1 : Int) + (1 : Int) else bif Nat.beq (q0E x) (q0E x) then q03.data (List.getD x.2 (q0E x) default) else q03.data (List.getD x.2 (q0E x) default) else bif Nat.beq (q0E x) (q0E x) then k + (5 : Int) * (↑x.1 : Int) + (1 : Int) else bif Nat.beq (q0E x) (q0E x) then q03.data (List.getD x.2 (q0E x) default) else q03.data (List.getD x.2 (q0E x) default)), vi (bif Nat.beq (q0E x) (q0E x) then bif Nat.beq (q0E x) (q0E x) then k + (5 : Int) * (↑x.1 : Int) + (1 : Int) + (1 : Int) else bif Nat.beq (q0E x) (q0E x) then bif Nat.beq (q0E x) (q0E x) then q03.version (List.getD x.2 (q0E x) default) else q03.version (List.getD x.2 (q0E x) default) else bif Nat.beq (q0E x) (q0E x) then q03.version (List.getD x.2 (q0E x) default) else q03.version (List.getD x.2 (q0E x) default) else bif Nat.beq (q0E x) (q0E x) then k + (5 : Int) * (↑x.1 : Int) + (1 : Int) + (1 : Int) else bif Nat.beq (q0E x) (q0E x) then bif Nat.beq (q0E x) (q0E x) then q03.version (List.getD x.2 (q0E x) default) else q03.version (List.getD x.2 (q0E x) default) else bif Nat.beq (q0E x) (q0E x) then q03.version (List.getD x.2 (q0E x) default) else q03.version (List.getD x.2 (q0E x) default)), vi (bif Nat.beq (q0E x) (q0E x) then k + (5 : Int) * (↑x.1 : Int) + (1 : Int) + (1 : Int) + (1 : Int) else bif Nat.beq (q0E x) (q0E x) then bif Nat.beq (q0E x) (q0E x) then bif Nat.beq (q0E x) (q0E x) then q03.owner (List.getD x.2 (q0E x) default) else q03.owner (List.getD x.2 (q0E x) default) else bif Nat.beq (q0E x) (q0E x) then q03.owner (List.getD x.2 (q0E x) default) else q03.owner (List.getD x.2 (q0E x) default) else bif Nat.beq (q0E x) (q0E x) then bif Nat.beq (q0E x) (q0E x) then q03.owner (List.getD x.2 (q0E x) default) else q03.owner (List.getD x.2 (q0E x) default) else bif Nat.beq (q0E x) (q0E x) then q03.owner (List.getD x.2 (q0E x) default) else q03.owner (List.getD x.2 (q0E x) default)), vi (k + (5 : Int) * (↑x.1 : Int) + (1 : Int) + (1 : Int) + (1 : Int) + (1 : Int))])) 100)]) (AS.mk [(0, V.osl 0 (List.length y0)), (1, vi (k + (5 : Int) * (↑y.1 : Int))), (5, vi (↑y.1 : Int))] [(0, Blk.arr 5 (List.length y0) (gL (q00 1) y.2) 100)])) ∧ (((Prod.fst y ≤ List.length y0) ∧ ((List.length y.2 = List.length y0) ∧ (∀ j : Nat, ((j < Prod.fst y) → (List.getD y.2 j default = q9n (k + (5 : Int) * (↑j : Int))))))) ∧ (List.length y0 - Prod.fst y < List.length y0 - Prod.fst x)))))))))))))))))))))) ∧ ((decide ((↑x.1 : Int) < (↑(List.length y0) : Int)) = false) → ((VLe (vi (k + (5 : Int) * (↑x.1 : Int))) (vi (k + (5 : Int) * (↑(List.length y0) : Int)))) ∧ ((BLe (Blk.arr 5 (List.length y0) (gL (q00 1) x.2) 100) (Blk.arr 5 (List.length y0) (gL (q00 1) (zMk k (List.length y0))) 100)) ∧ (True)))))))) := by
  delta qBs; delta qLV; delta qBw; delta q0E; delta vi
  unfold qLt at hpre
  refine ⟨⟨(0, y0), SLe.refl' (by simp), by omega, rfl, fun j hj => absurd hj (Nat.not_lt_zero j)⟩, ?_⟩
  rintro ⟨i, ys⟩ ⟨hi, hl, hj⟩
  simp only at hi hl hj ⊢
  refine ⟨fun h => ?_, fun h => ?_⟩
  ·have hlt : i < y0.length := by simpa using h
   simp only [Int.toNat_natCast]
   repeat (first | (refine And.intro ⟨by omega, by omega⟩ ?_) | (refine And.intro (q0U (by omega)) ?_) | (refine And.intro (by omega) ?_))
   refine ⟨(i + 1, ys.set i (q9n (k + 5 * i))), ?_, ⟨by simp only; omega, by simpa using hl, fun j h3 => q7I (f := fun j => q9n (k + 5 * (j : Int))) (by omega) hj rfl h3⟩, by simp only; omega⟩
   refine q1X ⟨rfl, VLe.refl _, rfl, q0J (by simp only; omega), rfl, q0J (by simp), trivial⟩ ⟨rfl, ?_, trivial⟩
   exact q7n (by omega) (ELe.of_eq (by simp [q2G, V.cells, q9n, q00, Int.add_assoc])) fun j e => by simp [q2G, e]
  ·have hge : i = y0.length := by simp at h; omega
   subst hge
   refine ⟨q0J rfl, q1B (fun j hj' => ELe.of_eq ?_) (Or.inl rfl), trivial⟩
   simp only [gL]
   rw [hj j hj', qGt _ _ _ hj']
 exact Eq.mp (by kernel_rfl) key
noncomputable def qRd : q0G := fun args bin => match args, bin with
 | [.osl i0 m0, .int .i64 k], [.arr s0 p0 g0 t0] => some ((i0 = 0 ∧ s0 = 5 ∧ t0 = q0i ∧ p0 = m0 ∧ ∃ y : List q03, y.length = m0 ∧ ∀ i, i < m0 → ELe (g0 i) (gL (q00 1) y i)) ∧ qLt m0 k, .int .i64 (k + 5 * (m0 : Int)), [.arr 5 m0 (gL (q00 1) (zMk k m0)) q0i])
 | _, _ => none
theorem x4V : q0T Tryz.prog 100 qRd := by
 refine q0V q1C (tpl := []) Tryz.func100 rfl (by kernel_rfl) fun args bin ob r bout hDe hob => ?_
 unfold qRd at hDe
 split at hDe
 ·rename_i i0 m0 k s0 p0 g0 t0
  cases hDe
  obtain ⟨⟨rfl, rfl, rfl, rfl, y0, rfl, h0⟩, hpre⟩ := hob
  exact ⟨Nat.le_of_ble_eq_true (by kernel_rfl), qUD y0 k, Eq.mp (by kernel_rfl) htt, Eq.mp (by kernel_rfl) x4j, Eq.mp (by kernel_rfl) (q2K (P := Tryz.prog)), by kernel_rfl, _, [.arr 5 y0.length (gL (q00 1) y0) q0i], q4E.refl _, ⟨q1B h0 (Or.inl rfl), trivial⟩, Eq.mp (by kernel_rfl) (x2X y0 k hpre)⟩
 ·cases hDe
def qOj (xs : List q03) (k : Int) : Prop := 1 ≤ k ∧ k + 5 * xs.length ≤ 4611686018427387904
noncomputable def qWN (xs : List q03) (k : Int) : V := .int .i64 (qBk xs k)
noncomputable def qR8 : q0G := fun args bin => match args, bin with
 | [a0, .int .i64 a1], [] => some (VLe a0 (q0H (q00 1) 1 (((q0M q04) a0))) ∧ qOj ((q0M q04) a0) a1, qWN ((q0M q04) a0) a1, [])
 | _, _ => none
noncomputable def qQR (xs : List q03) (k : Int) : q0O :=
 ⟨Nat, fun i => ⟨[(0, q0H (q00 1) 1 xs), (1, .int .i64 (k + 5 * i)), (5, .int .i64 i)], []⟩, fun i => i ≤ xs.length ∧ ∀ j, j < i → xs.getD j default = q9n (k + 5 * j), fun i => xs.length - i⟩
noncomputable def x2F (xs : List q03) (k : Int) : Nat → Option q0O := fun rg_ => match rg_ with
 | 2 => some (qQR xs k)
 | _ => none
noncomputable def x8E : Nat → Option (Fl × q0G) := lk [(79, (.ro, qTk))]
theorem x1Q : q0D Tryz.prog x8E := q01 qXw (q07)
noncomputable def x3Z (xs : List q03) (k : Int) : Cx := ⟨tt, x8E, Tryz.f138.ntmps, [0, 1, 4, 5, 9, 19, 28, 37, 46, 55], [(2, ⟨[(0, none), (1, none), (5, none)], []⟩)], [], x2F xs k, [], noM, []⟩
def qCu (xs : List q03) (x : Nat) : Prop := (((0 : Int) ≤ (↑x : Int)) ∧ ((↑x : Int) < (↑(List.length xs) : Int)))
noncomputable def q6C (x : Nat) : Nat := (Int.toNat (↑x : Int))
theorem x1Z (xs : List q03) (k : Int) (hpre : qOj xs k) : q0f (x3Z xs k) Tryz.f138 0 [q0H (q00 1) 1 (xs), .int .i64 (k)] (fun rr => VLe rr (qWN xs k)) := by
 have key : ((∃ x : Nat, ((SLe (AS.mk [(0, q0H (q00 1) 1 xs), (1, vi k), (5, vi 0)] []) (AS.mk [(0, q0H (q00 1) 1 xs), (1, vi (k + (5 : Int) * (↑x : Int))), (5, vi (↑x : Int))] [])) ∧ ((x ≤ List.length xs) ∧ (∀ j : Nat, ((j < x) → (List.getD xs j default = q9n (k + (5 : Int) * (↑j : Int)))))))) ∧ (∀ x : Nat, (((x ≤ List.length xs) ∧ (∀ j : Nat, ((j < x) → (List.getD xs j default = q9n (k + (5 : Int) * (↑j : Int)))))) → (((decide ((↑x : Int) < (↑(List.length xs) : Int)) = true) → ((qCu xs x) ∧ ((qTb (k + (5 : Int) * (↑x : Int))) ∧ ((((!q1R (q03.path (List.getD xs (q6C x) default)) (mtF (k + (5 : Int) * (↑x : Int)))) = true) → (VLe (vi (-1)) (vi (qBk xs k)))) ∧ (((!q1R (q03.path (List.getD xs (q6C x) default)) (mtF (k + (5 : Int) * (↑x : Int)))) = false) → ((inK IntKind.i64 (k + (5 : Int) * (↑x : Int) + (1 : Int))) ∧ ((qCu xs x) ∧ ((((q03.data (List.getD xs (q6C x) default) != k + (5 : Int) * (↑x : Int) + (1 : Int)) = true) → (VLe (vi (-1)) (vi (qBk xs k)))) ∧ (((q03.data (List.getD xs (q6C x) default) != k + (5 : Int) * (↑x : Int) + (1 : Int)) = false) → ((inK IntKind.i64 (k + (5 : Int) * (↑x : Int) + (1 : Int) + (1 : Int))) ∧ ((qCu xs x) ∧ ((((q03.version (List.getD xs (q6C x) default) != k + (5 : Int) * (↑x : Int) + (1 : Int) + (1 : Int)) = true) → (VLe (vi (-1)) (vi (qBk xs k)))) ∧ (((q03.version (List.getD xs (q6C x) default) != k + (5 : Int) * (↑x : Int) + (1 : Int) + (1 : Int)) = false) → ((inK IntKind.i64 (k + (5 : Int) * (↑x : Int) + (1 : Int) + (1 : Int) + (1 : Int))) ∧ ((qCu xs x) ∧ ((((q03.owner (List.getD xs (q6C x) default) != k + (5 : Int) * (↑x : Int) + (1 : Int) + (1 : Int) + (1 : Int)) = true) → (VLe (vi (-1)) (vi (qBk xs k)))) ∧ (((q03.owner (List.getD xs (q6C x) default) != k + (5 : Int) * (↑x : Int) + (1 : Int) + (1 : Int) + (1 : Int)) = false) → ((inK IntKind.i64 (k + (5 : Int) * (↑x : Int) + (1 : Int) + (1 : Int) + (1 : Int) + (1 : Int))) ∧ ((qCu xs x) ∧ ((((q03.next (List.getD xs (q6C x) default) != k + (5 : Int) * (↑x : Int) + (1 : Int) + (1 : Int) + (1 : Int) + (1 : Int)) = true) → (VLe (vi (-1)) (vi (qBk xs k)))) ∧ (((q03.next (List.getD xs (q6C x) default) != k + (5 : Int) * (↑x : Int) + (1 : Int) + (1 : Int) + (1 : Int) + (1 : Int)) = false) → ((inK IntKind.i64 (k + (5 : Int) * (↑x : Int) + (1 : Int) + (1 : Int) + (1 : Int) + (1 : Int) + (1 : Int))) ∧ ((inK IntKind.i64 ((↑x : Int) + (1 : Int))) ∧ (∃ y : Nat, ((SLe (AS.mk [(0, q0H (q00 1) 1 xs), (1, vi (k + (5 : Int) * (↑x : Int) + (1 : Int) + (1 : Int) + (1 : Int) + (1 : Int) + (1 : Int))), (5, vi ((↑x : Int) + (1 : Int)))] []) (AS.mk [(0, q0H (q00 1) 1 xs), (1, vi (k + (5 : Int) * (↑y : Int))), (5, vi (↑y : Int))] [])) ∧ (((y ≤ List.length xs) ∧ (∀ j : Nat, ((j < y) → (List.getD xs j default = q9n (k + (5 : Int) * (↑j : Int)))))) ∧ (List.length xs - y < List.length xs - x))))))))))))))))))))))))))) ∧ ((decide ((↑x : Int) < (↑(List.length xs) : Int)) = false) → (VLe (vi (k + (5 : Int) * (↑x : Int))) (vi (qBk xs k)))))))) := by
  delta q6C; delta qCu; delta vi
  unfold qOj at hpre
  refine ⟨⟨0, SLe.refl' (by simp), by omega, fun j hj => absurd hj (Nat.not_lt_zero j)⟩, ?_⟩
  rintro i ⟨hi, hj⟩
  refine ⟨fun h => ?_, fun h => ?_⟩
  ·have hlt : i < xs.length := by simpa using h
   have no : xs.getD i default ≠ q9n (k + 5 * i) → VLe (.int .i64 (-1)) (.int .i64 (qBk xs k)) := fun hn => by
    refine q0J ?_
    have : xs ≠ zMk k xs.length := fun e => hn (by rw [e]; exact qGt _ _ _ hlt)
    unfold qBk
    rw [if_neg this]
   simp only [Int.toNat_natCast, q16]
   refine ⟨by omega, ⟨by omega, by omega⟩, fun g0 => ?_, fun g0 => ⟨q0U (by omega), by omega, fun g1 => ?_, fun g1 => ⟨q0U (by omega), by omega, fun g2 => ?_, fun g2 => ⟨q0U (by omega), by omega, fun g3 => ?_, fun g3 => ⟨q0U (by omega), by omega, fun g4 => ?_, fun g4 => ⟨q0U (by omega), q0U (by omega), i + 1, q1X ⟨rfl, VLe.refl _, rfl, q0J (by omega), rfl, q0J (by omega), trivial⟩ trivial, ⟨by omega, fun j h5 => ?_⟩, by omega⟩⟩⟩⟩⟩⟩
   ·exact no fun e => by rw [e] at g0; first | (simp [q9n, Int.add_assoc] at g0; done) | (simp [q9n] at g0; omega)
   ·exact no fun e => by rw [e] at g1; first | (simp [q9n, Int.add_assoc] at g1; done) | (simp [q9n] at g1; omega)
   ·exact no fun e => by rw [e] at g2; first | (simp [q9n, Int.add_assoc] at g2; done) | (simp [q9n] at g2; omega)
   ·exact no fun e => by rw [e] at g3; first | (simp [q9n, Int.add_assoc] at g3; done) | (simp [q9n] at g3; omega)
   ·exact no fun e => by rw [e] at g4; first | (simp [q9n, Int.add_assoc] at g4; done) | (simp [q9n] at g4; omega)
   ·rcases Nat.lt_or_ge j i with h6 | h6
    ·exact hj j h6
    ·have : j = i := by omega
     subst this
     have a0 : (xs.getD j default).path = mtF (k + 5 * (j : Int)) := by first | (simpa [Int.add_assoc] using g0) | (simpa using g0)
     have a1 : (xs.getD j default).data = k + 5 * (j : Int) + 1 := by first | (simpa [Int.add_assoc] using g1; done) | (have := g1; simp at this; omega)
     have a2 : (xs.getD j default).version = k + 5 * (j : Int) + 2 := by first | (simpa [Int.add_assoc] using g2; done) | (have := g2; simp at this; omega)
     have a3 : (xs.getD j default).owner = k + 5 * (j : Int) + 3 := by first | (simpa [Int.add_assoc] using g3; done) | (have := g3; simp at this; omega)
     have a4 : (xs.getD j default).next = k + 5 * (j : Int) + 4 := by first | (simpa [Int.add_assoc] using g4; done) | (have := g4; simp at this; omega)
     unfold q9n
     simp only [qHX]
     exact ⟨a0, a1, a2, a3, a4⟩
  ·refine q0J ?_
   have hge : i = xs.length := by simp at h; omega
   subst hge
   have : xs = zMk k xs.length := q8b (by simp) fun j hj' => by rw [hj j hj', qGt _ _ _ hj']
   unfold qBk
   rw [if_pos this]
 exact Eq.mp (by kernel_rfl) key
theorem x1y : q0T Tryz.prog 138 qR8 := by
 refine q09 q1C (pol := 0) Tryz.func138 rfl (by kernel_rfl) fun args bin ob r bout hDe hob => ?_
 unfold qR8 at hDe
 split at hDe
 ·rename_i a0 a1
  cases hDe
  exact okB (x1Z ((q0M q04) a0) a1 (hob.2)) x1Q (args_of_vles ⟨hob.1, VLe.refl _, trivial⟩)
 ·cases hDe
noncomputable def q67 (k : Int) : q06 := ⟨k, k + 1⟩
noncomputable def q77 (k : Int) (n : Nat) : List q06 := (List.range n).map fun i : Nat => q67 (k + 2 * i)
@[simp] theorem qDL (k : Int) (n : Nat) : (q77 k n).length = n := by simp [q77]
theorem qDk (k : Int) (n i : Nat) (h : i < n) : (q77 k n).getD i default = q67 (k + 2 * i) := by simp [q77, h]
noncomputable def q7R (xs : List q06) (k : Int) : Int := if xs = q77 k xs.length then k + 2 * xs.length else -1
theorem qMd (k : Int) (n t : Nat) : q0M q08 (.sl n (gL (q02 1) (q77 k n)) t) = q77 k n := by
 have h := q1P (q1h 1) t (q77 k n)
 unfold q0H at h
 rwa [qDL] at h
theorem qPM (k : Int) (n t : Nat) : VLe (.sl n (gL (q02 1) (q77 k n)) t) (q0H (q02 1) t (q77 k n)) := by
 unfold q0H
 rw [qDL]
 exact VLe.refl _
noncomputable def qRH (y0 : List q06) (k : Int) : q0O :=
 ⟨Nat × List q06, fun p => ⟨[(0, .osl 0 y0.length), (1, .int .i64 (k + 2 * p.1)), (5, .int .i64 p.1)], [(0, .arr 2 y0.length (gL (q02 1) p.2) q0i)]⟩, fun p => p.1 ≤ y0.length ∧ p.2.length = y0.length ∧ ∀ j, j < p.1 → p.2.getD j default = q67 (k + 2 * j), fun p => y0.length - p.1⟩
noncomputable def x16 (y0 : List q06) (k : Int) : Nat → Option q0O := fun k0 => match k0 with
 | 2 => some (qRH y0 k)
 | _ => none
noncomputable def x7r : Nat → Option (Fl × q0G) := lk []
theorem x33 : q0D Tryz.prog x7r := q07
noncomputable def qTu (y0 : List q06) (k : Int) : Cx := ⟨tt, x7r, Tryz.f101.ntmps, [0, 1, 4, 5, 9], [(2, ⟨[(0, none), (1, none), (5, none)], [(0, [])]⟩)], [], x16 y0 k, [], noM, []⟩
def qLT (n0 : Nat) (k : Int) : Prop := 1 ≤ k ∧ k + 2 * n0 ≤ 4611686018427387904
def qKy (y0 : List q06) (k : Int) (x : Nat × List q06) : Prop := ((Prod.fst x ≤ List.length y0) ∧ ((List.length x.2 = List.length y0) ∧ (∀ j : Nat, ((j < Prod.fst x) → (List.getD x.2 j default = q67 (k + (2 : Int) * (↑j : Int)))))))
theorem x4v (y0 : List q06) (k : Int) (hpre : qLT y0.length k) : q3H (qTu y0 k) Tryz.f101 [] [.osl 0 y0.length, .int .i64 k] [.arr 2 y0.length (gL (q02 1) y0) q0i] (fun rr bs => VLe rr (.int .i64 (k + 2 * (y0.length : Int))) ∧ q1d bs [.arr 2 y0.length (gL (q02 1) (q77 k y0.length)) q0i]) := by
 have key : ((∃ x : Nat × List q06, ((SLe (AS.mk [(0, V.osl 0 (List.length y0)), (1, vi k), (5, vi 0)] [(0, Blk.arr 2 (List.length y0) (gL (q02 1) y0) 100)]) (AS.mk [(0, V.osl 0 (List.length y0)), (1, vi (k + (2 : Int) * (↑x.1 : Int))), (5, vi (↑x.1 : Int))] [(0, Blk.arr 2 (List.length y0) (gL (q02 1) x.2) 100)])) ∧ (qKy y0 k x))) ∧ (∀ x : Nat × List q06, ((qKy y0 k x) → (((decide ((↑x.1 : Int) < (↑(List.length y0) : Int)) = true) → ((((0 : Int) ≤ (↑x.1 : Int)) ∧ ((↑x.1 : Int) < (↑(List.length y0) : Int))) ∧ ((Int.toNat (↑x.1 : Int) < List.length y0) ∧ ((inK IntKind.i64 (k + (2 : Int) * (↑x.1 : Int) + (1 : Int))) ∧ ((((0 : Int) ≤ (↑x.1 : Int)) ∧ ((↑x.1 : Int) < (↑(List.length y0) : Int))) ∧ ((Int.toNat (↑x.1 : Int) < List.length y0) ∧ ((inK IntKind.i64 (k + (2 : Int) * (↑x.1 : Int) + (1 : Int) + (1 : Int))) ∧ ((inK IntKind.i64 ((↑x.1 : Int) + (1 : Int))) ∧ (∃ y : Nat × List q06, ((SLe (AS.mk [(0, V.osl 0 (List.length y0)), (1, vi (k + (2 : Int) * (↑x.1 : Int) + (1 : Int) + (1 : Int))), (5, vi ((↑x.1 : Int) + (1 : Int)))] [(0, Blk.arr 2 (List.length y0) (q5d (q5d (gL (q02 1) x.2) (Int.toNat (↑x.1 : Int)) (V.agg [vi (k + (2 : Int) * (↑x.1 : Int)), vi (q06.upto (List.getD x.2 (Int.toNat (↑x.1 : Int)) default))])) (Int.toNat (↑x.1 : Int)) (V.agg [vi (bif Nat.beq (Int.toNat (↑x.1 : Int)) (Int.toNat (↑x.1 : Int)) then k + (2 : Int) * (↑x.1 : Int) else q06.id (List.getD x.2 (Int.toNat (↑x.1 : Int)) default)), vi (k + (2 : Int) * (↑x.1 : Int) + (1 : Int))])) 100)]) (AS.mk [(0, V.osl 0 (List.length y0)), (1, vi (k + (2 : Int) * (↑y.1 : Int))), (5, vi (↑y.1 : Int))] [(0, Blk.arr 2 (List.length y0) (gL (q02 1) y.2) 100)])) ∧ (((Prod.fst y ≤ List.length y0) ∧ ((List.length y.2 = List.length y0) ∧ (∀ j : Nat, ((j < Prod.fst y) → (List.getD y.2 j default = q67 (k + (2 : Int) * (↑j : Int))))))) ∧ (List.length y0 - Prod.fst y < List.length y0 - Prod.fst x)))))))))))) ∧ ((decide ((↑x.1 : Int) < (↑(List.length y0) : Int)) = false) → ((VLe (vi (k + (2 : Int) * (↑x.1 : Int))) (vi (k + (2 : Int) * (↑(List.length y0) : Int)))) ∧ ((BLe (Blk.arr 2 (List.length y0) (gL (q02 1) x.2) 100) (Blk.arr 2 (List.length y0) (gL (q02 1) (q77 k (List.length y0))) 100)) ∧ (True)))))))) := by
  delta qKy; delta vi
  unfold qLT at hpre
  refine ⟨⟨(0, y0), SLe.refl' (by simp), by omega, rfl, fun j hj => absurd hj (Nat.not_lt_zero j)⟩, ?_⟩
  rintro ⟨i, ys⟩ ⟨hi, hl, hj⟩
  simp only at hi hl hj ⊢
  refine ⟨fun h => ?_, fun h => ?_⟩
  ·have hlt : i < y0.length := by simpa using h
   simp only [Int.toNat_natCast]
   repeat (first | (refine And.intro ⟨by omega, by omega⟩ ?_) | (refine And.intro (q0U (by omega)) ?_) | (refine And.intro (by omega) ?_))
   refine ⟨(i + 1, ys.set i (q67 (k + 2 * i))), ?_, ⟨by simp only; omega, by simpa using hl, fun j h3 => q7I (f := fun j => q67 (k + 2 * (j : Int))) (by omega) hj rfl h3⟩, by simp only; omega⟩
   refine q1X ⟨rfl, VLe.refl _, rfl, q0J (by simp only; omega), rfl, q0J (by simp), trivial⟩ ⟨rfl, ?_, trivial⟩
   exact q7n (by omega) (ELe.of_eq (by simp [q2G, V.cells, q67, q02, Int.add_assoc])) fun j e => by simp [q2G, e]
  ·have hge : i = y0.length := by simp at h; omega
   subst hge
   refine ⟨q0J rfl, q1B (fun j hj' => ELe.of_eq ?_) (Or.inl rfl), trivial⟩
   simp only [gL]
   rw [hj j hj', qDk _ _ _ hj']
 exact Eq.mp (by kernel_rfl) key
noncomputable def qTR : q0G := fun args bin => match args, bin with
 | [.osl i0 m0, .int .i64 k], [.arr s0 p0 g0 t0] => some ((i0 = 0 ∧ s0 = 2 ∧ t0 = q0i ∧ p0 = m0 ∧ ∃ y : List q06, y.length = m0 ∧ ∀ i, i < m0 → ELe (g0 i) (gL (q02 1) y i)) ∧ qLT m0 k, .int .i64 (k + 2 * (m0 : Int)), [.arr 2 m0 (gL (q02 1) (q77 k m0)) q0i])
 | _, _ => none
theorem x5u : q0T Tryz.prog 101 qTR := by
 refine q0V q1C (tpl := []) Tryz.func101 rfl (by kernel_rfl) fun args bin ob r bout hDe hob => ?_
 unfold qTR at hDe
 split at hDe
 ·rename_i i0 m0 k s0 p0 g0 t0
  cases hDe
  obtain ⟨⟨rfl, rfl, rfl, rfl, y0, rfl, h0⟩, hpre⟩ := hob
  exact ⟨Nat.le_of_ble_eq_true (by kernel_rfl), qTu y0 k, Eq.mp (by kernel_rfl) htt, Eq.mp (by kernel_rfl) x33, Eq.mp (by kernel_rfl) (q2K (P := Tryz.prog)), by kernel_rfl, _, [.arr 2 y0.length (gL (q02 1) y0) q0i], q4E.refl _, ⟨q1B h0 (Or.inl rfl), trivial⟩, Eq.mp (by kernel_rfl) (x4v y0 k hpre)⟩
 ·cases hDe
def qOk (xs : List q06) (k : Int) : Prop := 1 ≤ k ∧ k + 2 * xs.length ≤ 4611686018427387904
noncomputable def qUa (xs : List q06) (k : Int) : V := .int .i64 (q7R xs k)
noncomputable def qST : q0G := fun args bin => match args, bin with
 | [a0, .int .i64 a1], [] => some (VLe a0 (q0H (q02 1) 1 (((q0M q08) a0))) ∧ qOk ((q0M q08) a0) a1, qUa ((q0M q08) a0) a1, [])
 | _, _ => none
noncomputable def qSp (xs : List q06) (k : Int) : q0O :=
 ⟨Nat, fun i => ⟨[(0, q0H (q02 1) 1 xs), (1, .int .i64 (k + 2 * i)), (5, .int .i64 i)], []⟩, fun i => i ≤ xs.length ∧ ∀ j, j < i → xs.getD j default = q67 (k + 2 * j), fun i => xs.length - i⟩
noncomputable def qZw (xs : List q06) (k : Int) : Nat → Option q0O := fun rg_ => match rg_ with
 | 2 => some (qSp xs k)
 | _ => none
noncomputable def x7I : Nat → Option (Fl × q0G) := lk []
theorem qYU : q0D Tryz.prog x7I := q07
noncomputable def x22 (xs : List q06) (k : Int) : Cx := ⟨tt, x7I, Tryz.f139.ntmps, [0, 1, 4, 5, 9, 18, 27], [(2, ⟨[(0, none), (1, none), (5, none)], []⟩)], [], qZw xs k, [], noM, []⟩
theorem x0A (xs : List q06) (k : Int) (hpre : qOk xs k) : q0f (x22 xs k) Tryz.f139 0 [q0H (q02 1) 1 (xs), .int .i64 (k)] (fun rr => VLe rr (qUa xs k)) := by
 have key : ((∃ x : Nat, ((SLe (AS.mk [(0, q0H (q02 1) 1 xs), (1, vi k), (5, vi 0)] []) (AS.mk [(0, q0H (q02 1) 1 xs), (1, vi (k + (2 : Int) * (↑x : Int))), (5, vi (↑x : Int))] [])) ∧ ((x ≤ List.length xs) ∧ (∀ j : Nat, ((j < x) → (List.getD xs j default = q67 (k + (2 : Int) * (↑j : Int)))))))) ∧ (∀ x : Nat, (((x ≤ List.length xs) ∧ (∀ j : Nat, ((j < x) → (List.getD xs j default = q67 (k + (2 : Int) * (↑j : Int)))))) → (((decide ((↑x : Int) < (↑(List.length xs) : Int)) = true) → ((((0 : Int) ≤ (↑x : Int)) ∧ ((↑x : Int) < (↑(List.length xs) : Int))) ∧ ((((q06.id (List.getD xs (Int.toNat (↑x : Int)) default) != k + (2 : Int) * (↑x : Int)) = true) → (VLe (vi (-1)) (vi (q7R xs k)))) ∧ (((q06.id (List.getD xs (Int.toNat (↑x : Int)) default) != k + (2 : Int) * (↑x : Int)) = false) → ((inK IntKind.i64 (k + (2 : Int) * (↑x : Int) + (1 : Int))) ∧ ((((0 : Int) ≤ (↑x : Int)) ∧ ((↑x : Int) < (↑(List.length xs) : Int))) ∧ ((((q06.upto (List.getD xs (Int.toNat (↑x : Int)) default) != k + (2 : Int) * (↑x : Int) + (1 : Int)) = true) → (VLe (vi (-1)) (vi (q7R xs k)))) ∧ (((q06.upto (List.getD xs (Int.toNat (↑x : Int)) default) != k + (2 : Int) * (↑x : Int) + (1 : Int)) = false) → ((inK IntKind.i64 (k + (2 : Int) * (↑x : Int) + (1 : Int) + (1 : Int))) ∧ ((inK IntKind.i64 ((↑x : Int) + (1 : Int))) ∧ (∃ y : Nat, ((SLe (AS.mk [(0, q0H (q02 1) 1 xs), (1, vi (k + (2 : Int) * (↑x : Int) + (1 : Int) + (1 : Int))), (5, vi ((↑x : Int) + (1 : Int)))] []) (AS.mk [(0, q0H (q02 1) 1 xs), (1, vi (k + (2 : Int) * (↑y : Int))), (5, vi (↑y : Int))] [])) ∧ (((y ≤ List.length xs) ∧ (∀ j : Nat, ((j < y) → (List.getD xs j default = q67 (k + (2 : Int) * (↑j : Int)))))) ∧ (List.length xs - y < List.length xs - x)))))))))))))) ∧ ((decide ((↑x : Int) < (↑(List.length xs) : Int)) = false) → (VLe (vi (k + (2 : Int) * (↑x : Int))) (vi (q7R xs k)))))))) := by
  delta vi
  unfold qOk at hpre
  refine ⟨⟨0, SLe.refl' (by simp), by omega, fun j hj => absurd hj (Nat.not_lt_zero j)⟩, ?_⟩
  rintro i ⟨hi, hj⟩
  refine ⟨fun h => ?_, fun h => ?_⟩
  ·have hlt : i < xs.length := by simpa using h
   have no : xs.getD i default ≠ q67 (k + 2 * i) → VLe (.int .i64 (-1)) (.int .i64 (q7R xs k)) := fun hn => by
    refine q0J ?_
    have : xs ≠ q77 k xs.length := fun e => hn (by rw [e]; exact qDk _ _ _ hlt)
    unfold q7R
    rw [if_neg this]
   simp only [Int.toNat_natCast, q16]
   refine ⟨by omega, fun g0 => ?_, fun g0 => ⟨q0U (by omega), by omega, fun g1 => ?_, fun g1 => ⟨q0U (by omega), q0U (by omega), i + 1, q1X ⟨rfl, VLe.refl _, rfl, q0J (by omega), rfl, q0J (by omega), trivial⟩ trivial, ⟨by omega, fun j h5 => ?_⟩, by omega⟩⟩⟩
   ·exact no fun e => by rw [e] at g0; first | (simp [q67, Int.add_assoc] at g0; done) | (simp [q67] at g0; omega)
   ·exact no fun e => by rw [e] at g1; first | (simp [q67, Int.add_assoc] at g1; done) | (simp [q67] at g1; omega)
   ·rcases Nat.lt_or_ge j i with h6 | h6
    ·exact hj j h6
    ·have : j = i := by omega
     subst this
     have a0 : (xs.getD j default).id = k + 2 * (j : Int) := by first | (simpa [Int.add_assoc] using g0; done) | (have := g0; simp at this; omega)
     have a1 : (xs.getD j default).upto = k + 2 * (j : Int) + 1 := by first | (simpa [Int.add_assoc] using g1; done) | (have := g1; simp at this; omega)
     unfold q67
     simp only [qBr]
     exact ⟨a0, a1⟩
  ·refine q0J ?_
   have hge : i = xs.length := by simp at h; omega
   subst hge
   have : xs = q77 k xs.length := q8b (by simp) fun j hj' => by rw [hj j hj', qDk _ _ _ hj']
   unfold q7R
   rw [if_pos this]
 exact Eq.mp (by kernel_rfl) key
theorem x5b : q0T Tryz.prog 139 qST := by
 refine q09 q1C (pol := 0) Tryz.func139 rfl (by kernel_rfl) fun args bin ob r bout hDe hob => ?_
 unfold qST at hDe
 split at hDe
 ·rename_i a0 a1
  cases hDe
  exact okB (x0A ((q0M q08) a0) a1 (hob.2)) qYU (args_of_vles ⟨hob.1, VLe.refl _, trivial⟩)
 ·cases hDe
noncomputable def q4N (k : Int) : q0L := ⟨k, k + 1, ⟨k + 2, k + 3, mtF (k + 4)⟩⟩
noncomputable def q7D (k : Int) (n : Nat) : List q0L := (List.range n).map fun i : Nat => q4N (k + 5 * i)
@[simp] theorem qDQ (k : Int) (n : Nat) : (q7D k n).length = n := by simp [q7D]
theorem qDN (k : Int) (n i : Nat) (h : i < n) : (q7D k n).getD i default = q4N (k + 5 * i) := by simp [q7D, h]
noncomputable def q7X (xs : List q0L) (k : Int) : Int := if xs = q7D k xs.length then k + 5 * xs.length else -1
theorem qNc (k : Int) (n t : Nat) : q0M q0K (.sl n (gL (q0A 1) (q7D k n)) t) = q7D k n := by
 have h := q1P (q1y 1) t (q7D k n)
 unfold q0H at h
 rwa [qDQ] at h
theorem qPQ (k : Int) (n t : Nat) : VLe (.sl n (gL (q0A 1) (q7D k n)) t) (q0H (q0A 1) t (q7D k n)) := by
 unfold q0H
 rw [qDQ]
 exact VLe.refl _
noncomputable def qRv (y0 : List q0L) (k : Int) : q0O :=
 ⟨Nat × List q0L, fun p => ⟨[(0, .osl 0 y0.length), (1, .int .i64 (k + 5 * p.1)), (5, .int .i64 p.1)], [(0, .arr 5 y0.length (gL (q0A 1) p.2) q0i)]⟩, fun p => p.1 ≤ y0.length ∧ p.2.length = y0.length ∧ ∀ j, j < p.1 → p.2.getD j default = q4N (k + 5 * j), fun p => y0.length - p.1⟩
noncomputable def qZK (y0 : List q0L) (k : Int) : Nat → Option q0O := fun k0 => match k0 with
 | 2 => some (qRv y0 k)
 | _ => none
noncomputable def x8A : Nat → Option (Fl × q0G) := lk [(79, (.ro, qTk))]
theorem x1j : q0D Tryz.prog x8A := q01 qXw (q07)
noncomputable def qTw (y0 : List q0L) (k : Int) : Cx := ⟨tt, x8A, Tryz.f102.ntmps, [0, 1, 4, 5, 9], [(2, ⟨[(0, none), (1, none), (5, none)], [(0, [])]⟩)], [], qZK y0 k, [], noM, []⟩
def qM1 (n0 : Nat) (k : Int) : Prop := 1 ≤ k ∧ k + 5 * n0 ≤ 4611686018427387904
noncomputable def q0I (x : Nat × List q0L) : Nat := (Int.toNat (↑x.1 : Int))
noncomputable def q1K (x : Nat × List q0L) : q0W := (q0L.reply (List.getD x.2 (q0I x) default))
def qC5 (y0 : List q0L) (x : Nat × List q0L) : Prop := (((0 : Int) ≤ (↑x.1 : Int)) ∧ ((↑x.1 : Int) < (↑(List.length y0) : Int)))
def qM9 (y0 : List q0L) (k : Int) (x : Nat × List q0L) : Prop := ((Prod.fst x ≤ List.length y0) ∧ ((List.length x.2 = List.length y0) ∧ (∀ j : Nat, ((j < Prod.fst x) → (List.getD x.2 j default = q4N (k + (5 : Int) * (↑j : Int)))))))
def qCO (y0 : List q0L) (x : Nat × List q0L) : Prop := (Int.toNat (↑x.1 : Int) < List.length y0)
theorem x3j (y0 : List q0L) (k : Int) (hpre : qM1 y0.length k) : q3H (qTw y0 k) Tryz.f102 [] [.osl 0 y0.length, .int .i64 k] [.arr 5 y0.length (gL (q0A 1) y0) q0i] (fun rr bs => VLe rr (.int .i64 (k + 5 * (y0.length : Int))) ∧ q1d bs [.arr 5 y0.length (gL (q0A 1) (q7D k y0.length)) q0i]) := by
 have key : ((∃ x : Nat × List q0L, ((SLe (AS.mk [(0, V.osl 0 (List.length y0)), (1, vi k), (5, vi 0)] [(0, Blk.arr 5 (List.length y0) (gL (q0A 1) y0) 100)]) (AS.mk [(0, V.osl 0 (List.length y0)), (1, vi (k + (5 : Int) * (↑x.1 : Int))), (5, vi (↑x.1 : Int))] [(0, Blk.arr 5 (List.length y0) (gL (q0A 1) x.2) 100)])) ∧ (qM9 y0 k x))) ∧ (∀ x : Nat × List q0L, ((qM9 y0 k x) → (((decide ((↑x.1 : Int) < (↑(List.length y0) : Int)) = true) → ((qC5 y0 x) ∧ ((qCO y0 x) ∧ ((inK IntKind.i64 (k + (5 : Int) * (↑x.1 : Int) + (1 : Int))) ∧ ((qC5 y0 x) ∧ ((qCO y0 x) ∧ ((inK IntKind.i64 (k + (5 : Int) * (↑x.1 : Int) + (1 : Int) + (1 : Int))) ∧ ((qC5 y0 x) ∧ ((qCO y0 x) ∧ ((inK IntKind.i64 (k + (5 : Int) * (↑x.1 : Int) + (1 : Int) + (1 : Int) + (1 : Int))) ∧ ((qC5 y0 x) ∧ ((qCO y0 x) ∧ ((inK IntKind.i64 (k + (5 : Int) * (↑x.1 : Int) + (1 : Int) + (1 : Int) + (1 : Int) + (1 : Int))) ∧ ((qTb (k + (5 : Int) * (↑x.1 : Int) + (1 : Int) + (1 : Int) + (1 : Int) + (1 : Int))) ∧ ((qC5 y0 x) ∧ ((qCO y0 x) ∧ ((inK IntKind.i64 (k + (5 : Int) * (↑x.1 : Int) + (1 : Int) + (1 : Int) + (1 : Int) + (1 : Int) + (1 : Int))) ∧ ((inK IntKind.i64 ((↑x.1 : Int) + (1 : Int))) ∧ (∃ y : Nat × List q0L, ((SLe (AS.mk [(0, V.osl 0 (List.length y0)), (1, vi (k + (5 : Int) * (↑x.1 : Int) + (1 : Int) + (1 : Int) + (1 : Int) + (1 : Int) + (1 : Int))), (5, vi ((↑x.1 : Int) + (1 : Int)))] [(0, Blk.arr 5 (List.length y0) (q5d (q5d (q5d (q5d (q5d (gL (q0A 1) x.2) (q0I x) (V.agg [vi (k + (5 : Int) * (↑x.1 : Int)), vi (q0L.number (List.getD x.2 (q0I x) default)), vi (q0W.code (q1K x)), vi (q0W.value (q1K x)), V.str (q0W.path (q1K x))])) (q0I x) (V.agg [vi (bif Nat.beq (q0I x) (q0I x) then k + (5 : Int) * (↑x.1 : Int) else q0L.client (List.getD x.2 (q0I x) default)), vi (k + (5 : Int) * (↑x.1 : Int) + (1 : Int)), vi (bif Nat.beq (q0I x) (q0I x) then q0W.code (q1K x) else q0W.code (q1K x)), vi (bif Nat.beq (q0I x) (q0I x) then q0W.value (q1K x) else q0W.value (q1K x)), V.str (bif Nat.beq (q0I x) (q0I x) then q0W.path (q1K x) else q0W.path (q1K x))])) (q0I x) (V.agg [vi (bif Nat.beq (q0I x) (q0I x) then bif Nat.beq (q0I x) (q0I x) then k + (5 : Int) * (↑x.1 : Int) else q0L.client (List.getD x.2 (q0I x) default) else bif Nat.beq (q0I x) (q0I x) then k + (5 : Int) * (↑x.1 : Int) else q0L.client (List.getD x.2 (q0I x) default)), vi (bif Nat.beq (q0I x) (q0I x) then k + (5 : Int) * (↑x.1 : Int) + (1 : Int) else bif Nat.beq (q0I x) (q0I x) then q0L.number (List.getD x.2 (q0I x) default) else q0L.number (List.getD x.2 (q0I x) default)), vi (k + (5 : Int) * (↑x.1 : Int) + (1 : Int) + (1 : Int)), vi (bif Nat.beq (q0I x) (q0I x) then bif Nat.beq (q0I x) (q0I x) then q0W.value (q1K x) else q0W.value (q1K x) else bif Nat.beq (q0I x) (q0I x) then q0W.value (q1K x) else q0W.value (q1K x)), V.str (bif Nat.beq (q0I x) (q0I x) then bif Nat.beq (q0I x) (q0I x) then q0W.path (q1K x) else q0W.path (q1K x) else bif Nat.beq (q0I x) (q0I x) then q0W.path (q1K x) else q0W.path (q1K x))])) (q0I x) (V.agg [vi (bif Nat.beq (q0I x) (q0I x) then bif Nat.beq (q0I x) (q0I x) then bif Nat.beq (q0I x) (q0I x) then k + (5 : Int) * (↑x.1 : Int) else q0L.client (List.getD x.2 (q0I x) default) else bif Nat.beq (q0I x) (q0I x) then k + (5 : Int) * (↑x.1 : Int) else q0L.client (List.getD x.2 (q0I x) default) else bif Nat.beq (q0I x) (q0I x) then bif Nat.beq (q0I x) (q0I x) then k + (5 : Int) * (↑x.1 : Int) else q0L.client (List.getD x.2 (q0I x) default) else bif Nat.beq (q0I x) (q0I x) then k + (5 : Int) * (↑x.1 : Int) else q0L.client (List.getD x.2 (q0I x) default)), vi (bif Nat.beq (q0I x) (q0I x) then bif Nat.beq (q0I x) (q0I x) then k + (5 : Int) * (↑x.1 : Int) + (1 : Int) else bif Nat.beq (q0I x) (q0I x) then q0L.number (List.getD x.2 (q0I x) default) else q0L.number (List.getD x.2 (q0I x) default) else bif Nat.beq (q0I x) (q0I x) then k + (5 : Int) * (↑x.1 : Int) + (1 : Int) else bif Nat.beq (q0I x) (q0I x) then q0L.number (List.getD x.2 (q0I x) default) else q0L.number (List.getD x.2 (q0I x) default)), vi (bif Nat.beq (q0I x) (q0I x) then k + (5 : Int) * (↑x.1 : Int) + (1 : Int) + (1 : Int) else bif Nat.beq (q0I x) (q0I x) then bif Nat.beq (q0I x) (q0I x) then q0W.code (q1K x) else q0W.code (q1K x) else bif Nat.beq (q0I x) (q0I x) then q0W.code (q1K x) else q0W.code (q1K x)), vi (k + (5 : Int) * (↑x.1 : Int) + (1 : Int) + (1 : Int) + (1 : Int)), V.str (bif Nat.beq (q0I x) (q0I x) then bif Nat.beq (q0I x) (q0I x) then bif Nat.beq (q0I x) (q0I x) then q0W.path (q1K x) else q0W.path (q1K x) else bif Nat.beq (q0I x) (q0I x) then q0W.path (q1K x) else q0W.path (q1K x) else bif Nat.beq (q0I x) (q0I x) then bif Nat.beq (q0I x) (q0I x) then q0W.path (q1K x) else q0W.path (q1K x) else bif Nat.beq (q0I x) (q0I x) then q0W.path (q1K x) else q0W.path (q1K x))])) (q0I x) (V.agg [vi (bif Nat.beq (q0I x) (q0I x) then bif Nat.beq (q0I x) (q0I x) then bif Nat.beq (q0I x) (q0I x) then bif Nat.beq (q0I x) (q0I x) then k + (5 : Int) * (↑x.1 : Int) else q0L.client (List.getD x.2 (q0I x) default) else bif Nat.beq (q0I x) (q0I x) then k + (5 : Int) * (↑x.1 : Int) else q0L.client (List.getD x.2 (q0I x) default) else bif Nat.beq (q0I x) (q0I x) then bif Nat.beq (q0I x) (q0I x) then k + (5 : Int) * (↑x.1 : Int) else q0L.client (List.getD x.2 (q0I x) default) else bif Nat.beq (q0I x) (q0I x) then k + (5 : Int) * (↑x.1 : Int) else q0L.client (List.getD x.2 (q0I x) default) else bif Nat.beq (q0I x) (q0I x) then bif Nat.beq (q0I x) (q0I x) then bif Nat.beq (q0I x) (q0I x) then k + (5 : Int) * (↑x.1 : Int) else q0L.client (List.getD x.2 (q0I x) default) else bif Nat.beq (q0I x) (q0I x) then k + (5 : Int) * (↑x.1 : Int) else q0L.client (List.getD x.2 (q0I x) default) else bif Nat.beq (q0I x) (q0I x) then bif Nat.beq (q0I x) (q0I x) then k + (5 : Int) * (↑x.1 : Int) else q0L.client (List.getD x.2 (q0I x) default) else bif Nat.beq (q0I x) (q0I x) then k + (5 : Int) * (↑x.1 : Int) else q0L.client (List.getD x.2 (q0I x) default)), vi (bif Nat.beq (q0I x) (q0I x) then bif Nat.beq (q0I x) (q0I x) then bif Nat.beq (q0I x) (q0I x) then k + (5 : Int) * (↑x.1 : Int) + (1 : Int) else bif Nat.beq (q0I x) (q0I x) then q0L.number (List.getD x.2 (q0I x) default) else q0L.number (List.getD x.2 (q0I x) default) else bif Nat.beq (q0I x) (q0I x) then k + (5 : Int) * (↑x.1 : Int) + (1 : Int) else bif Nat.beq (q0I x) (q0I x) then q0L.number (List.getD x.2 (q0I x) default) else q0L.number (List.getD x.2 (q0I x) default) else bif Nat.beq (q0I x) (q0I x) then bif Nat.beq (q0I x) (q0I x) then k + (5 : Int) * (↑x.1 : Int) + (1 : Int) else bif Nat.beq (q0I x) (q0I x) then q0L.number (List.getD x.2 (q0I x) default) else q0L.number (List.getD x.2 (q0I x) default) else bif Nat.beq (q0I x) (q0I x) then k + (5 : Int) * (↑x.1 : Int) + (1 : Int) else bif Nat.beq (q0I x) (q0I x) then q0L.number (List.getD x.2 (q0I x) default) else q0L.number (List.getD x.2 (q0I x) default)), vi (bif Nat.beq (q0I x) (q0I x) then bif Nat.beq (q0I x) (q0I x) then k + (5 : Int) * (↑x.1 : Int) + (1 : Int) + (1 : Int) else bif Nat.beq (q0I x) (q0I x) then bif Nat.beq (q0I x) (q0I x) then q0W.code (q1K x) else q0W.code (q1K x) else bif Nat.beq (q0I x) (q0I x) then q0W.code (q1K x) else q0W.code (q1K x) else bif Nat.beq (q0I x) (q0I x) then k + (5 : Int) * (↑x.1 : Int) + (1 : Int) + (1 : Int) else bif Nat.beq (q0I x) (q0I x) then bif Nat.beq (q0I x) (q0I x) then q0W.code (q1K x) else q0W.code (q1K x) else bif Nat.beq (q0I x) (q0I x) then q0W.code (q1K x) else q0W.code (q1K x)), vi (bif Nat.beq (q0I x) (q0I x) then k + (5 : Int) * (↑x.1 : Int) + (1 : Int) + (1 : Int) + (1 : Int) else bif Nat.beq (q0I x) (q0I x) then bif Nat.beq (q0I x) (q0I x) then bif Nat.beq (q0I x) (q0I x) then q0W.value (q1K x) else q0W.value (q1K x) else bif Nat.beq (q0I x) (q0I x) then q0W.value (q1K x) else q0W.value (q1K x) else bif Nat.beq (q0I x) (q0I x) then bif Nat.beq (q0I x) (q0I x) then q0W.value (q1K x) else q0W.value (q1K x) else bif Nat.beq (q0I x) (q0I x) then q0W.value (q1K x) else q0W.value (q1K x)), V.str (mtF (k + (5 : Int) * (↑x.1 : Int) + (1 : Int) + (1 : Int) + (1 : Int) + (1 : Int)))])) 100)]) (AS.mk [(0, V.osl 0 (List.length y0)), (1, vi (k + (5 : Int) * (↑y.1 : Int))), (5, vi (↑y.1 : Int))] [(0, Blk.arr 5 (List.length y0) (gL (q0A 1) y.2) 100)])) ∧ (((Prod.fst y ≤ List.length y0) ∧ ((List.length y.2 = List.length y0) ∧ (∀ j : Nat, ((j < Prod.fst y) → (List.getD y.2 j default = q4N (k + (5 : Int) * (↑j : Int))))))) ∧ (List.length y0 - Prod.fst y < List.length y0 - Prod.fst x)))))))))))))))))))))) ∧ ((decide ((↑x.1 : Int) < (↑(List.length y0) : Int)) = false) → ((VLe (vi (k + (5 : Int) * (↑x.1 : Int))) (vi (k + (5 : Int) * (↑(List.length y0) : Int)))) ∧ ((BLe (Blk.arr 5 (List.length y0) (gL (q0A 1) x.2) 100) (Blk.arr 5 (List.length y0) (gL (q0A 1) (q7D k (List.length y0))) 100)) ∧ (True)))))))) := by
  delta qCO; delta qM9; delta qC5; delta q1K; delta q0I; delta vi
  unfold qM1 at hpre
  refine ⟨⟨(0, y0), SLe.refl' (by simp), by omega, rfl, fun j hj => absurd hj (Nat.not_lt_zero j)⟩, ?_⟩
  rintro ⟨i, ys⟩ ⟨hi, hl, hj⟩
  simp only at hi hl hj ⊢
  refine ⟨fun h => ?_, fun h => ?_⟩
  ·have hlt : i < y0.length := by simpa using h
   simp only [Int.toNat_natCast]
   repeat (first | (refine And.intro ⟨by omega, by omega⟩ ?_) | (refine And.intro (q0U (by omega)) ?_) | (refine And.intro (by omega) ?_))
   refine ⟨(i + 1, ys.set i (q4N (k + 5 * i))), ?_, ⟨by simp only; omega, by simpa using hl, fun j h3 => q7I (f := fun j => q4N (k + 5 * (j : Int))) (by omega) hj rfl h3⟩, by simp only; omega⟩
   refine q1X ⟨rfl, VLe.refl _, rfl, q0J (by simp only; omega), rfl, q0J (by simp), trivial⟩ ⟨rfl, ?_, trivial⟩
   exact q7n (by omega) (ELe.of_eq (by simp [q2G, V.cells, q4N, q0A, Int.add_assoc])) fun j e => by simp [q2G, e]
  ·have hge : i = y0.length := by simp at h; omega
   subst hge
   refine ⟨q0J rfl, q1B (fun j hj' => ELe.of_eq ?_) (Or.inl rfl), trivial⟩
   simp only [gL]
   rw [hj j hj', qDN _ _ _ hj']
 exact Eq.mp (by kernel_rfl) key
noncomputable def qTY : q0G := fun args bin => match args, bin with
 | [.osl i0 m0, .int .i64 k], [.arr s0 p0 g0 t0] => some ((i0 = 0 ∧ s0 = 5 ∧ t0 = q0i ∧ p0 = m0 ∧ ∃ y : List q0L, y.length = m0 ∧ ∀ i, i < m0 → ELe (g0 i) (gL (q0A 1) y i)) ∧ qM1 m0 k, .int .i64 (k + 5 * (m0 : Int)), [.arr 5 m0 (gL (q0A 1) (q7D k m0)) q0i])
 | _, _ => none
theorem x5W : q0T Tryz.prog 102 qTY := by
 refine q0V q1C (tpl := []) Tryz.func102 rfl (by kernel_rfl) fun args bin ob r bout hDe hob => ?_
 unfold qTY at hDe
 split at hDe
 ·rename_i i0 m0 k s0 p0 g0 t0
  cases hDe
  obtain ⟨⟨rfl, rfl, rfl, rfl, y0, rfl, h0⟩, hpre⟩ := hob
  exact ⟨Nat.le_of_ble_eq_true (by kernel_rfl), qTw y0 k, Eq.mp (by kernel_rfl) htt, Eq.mp (by kernel_rfl) x1j, Eq.mp (by kernel_rfl) (q2K (P := Tryz.prog)), by kernel_rfl, _, [.arr 5 y0.length (gL (q0A 1) y0) q0i], q4E.refl _, ⟨q1B h0 (Or.inl rfl), trivial⟩, Eq.mp (by kernel_rfl) (x3j y0 k hpre)⟩
 ·cases hDe
def qNr (xs : List q0L) (k : Int) : Prop := 1 ≤ k ∧ k + 5 * xs.length ≤ 4611686018427387904
noncomputable def qTn (xs : List q0L) (k : Int) : V := .int .i64 (q7X xs k)
noncomputable def qSJ : q0G := fun args bin => match args, bin with
 | [a0, .int .i64 a1], [] => some (VLe a0 (q0H (q0A 1) 1 (((q0M q0K) a0))) ∧ qNr ((q0M q0K) a0) a1, qTn ((q0M q0K) a0) a1, [])
 | _, _ => none
noncomputable def qRz (xs : List q0L) (k : Int) : q0O :=
 ⟨Nat, fun i => ⟨[(0, q0H (q0A 1) 1 xs), (1, .int .i64 (k + 5 * i)), (5, .int .i64 i)], []⟩, fun i => i ≤ xs.length ∧ ∀ j, j < i → xs.getD j default = q4N (k + 5 * j), fun i => xs.length - i⟩
noncomputable def x15 (xs : List q0L) (k : Int) : Nat → Option q0O := fun rg_ => match rg_ with
 | 2 => some (qRz xs k)
 | _ => none
noncomputable def x7F : Nat → Option (Fl × q0G) := lk [(79, (.ro, qTk))]
theorem x0x : q0D Tryz.prog x7F := q01 qXw (q07)
noncomputable def x2V (xs : List q0L) (k : Int) : Cx := ⟨tt, x7F, Tryz.f140.ntmps, [0, 1, 4, 5, 9, 18, 27, 37, 47, 58], [(2, ⟨[(0, none), (1, none), (5, none)], []⟩)], [], x15 xs k, [], noM, []⟩
def qCw (xs : List q0L) (x : Nat) : Prop := (((0 : Int) ≤ (↑x : Int)) ∧ ((↑x : Int) < (↑(List.length xs) : Int)))
noncomputable def qAy (xs : List q0L) (x : Nat) : q0W := (q0L.reply (List.getD xs (Int.toNat (↑x : Int)) default))
theorem x0o (xs : List q0L) (k : Int) (hpre : qNr xs k) : q0f (x2V xs k) Tryz.f140 0 [q0H (q0A 1) 1 (xs), .int .i64 (k)] (fun rr => VLe rr (qTn xs k)) := by
 have key : ((∃ x : Nat, ((SLe (AS.mk [(0, q0H (q0A 1) 1 xs), (1, vi k), (5, vi 0)] []) (AS.mk [(0, q0H (q0A 1) 1 xs), (1, vi (k + (5 : Int) * (↑x : Int))), (5, vi (↑x : Int))] [])) ∧ ((x ≤ List.length xs) ∧ (∀ j : Nat, ((j < x) → (List.getD xs j default = q4N (k + (5 : Int) * (↑j : Int)))))))) ∧ (∀ x : Nat, (((x ≤ List.length xs) ∧ (∀ j : Nat, ((j < x) → (List.getD xs j default = q4N (k + (5 : Int) * (↑j : Int)))))) → (((decide ((↑x : Int) < (↑(List.length xs) : Int)) = true) → ((qCw xs x) ∧ ((((q0L.client (List.getD xs (Int.toNat (↑x : Int)) default) != k + (5 : Int) * (↑x : Int)) = true) → (VLe (vi (-1)) (vi (q7X xs k)))) ∧ (((q0L.client (List.getD xs (Int.toNat (↑x : Int)) default) != k + (5 : Int) * (↑x : Int)) = false) → ((inK IntKind.i64 (k + (5 : Int) * (↑x : Int) + (1 : Int))) ∧ ((qCw xs x) ∧ ((((q0L.number (List.getD xs (Int.toNat (↑x : Int)) default) != k + (5 : Int) * (↑x : Int) + (1 : Int)) = true) → (VLe (vi (-1)) (vi (q7X xs k)))) ∧ (((q0L.number (List.getD xs (Int.toNat (↑x : Int)) default) != k + (5 : Int) * (↑x : Int) + (1 : Int)) = false) → ((inK IntKind.i64 (k + (5 : Int) * (↑x : Int) + (1 : Int) + (1 : Int))) ∧ ((qCw xs x) ∧ ((((q0W.code (qAy xs x) != k + (5 : Int) * (↑x : Int) + (1 : Int) + (1 : Int)) = true) → (VLe (vi (-1)) (vi (q7X xs k)))) ∧ (((q0W.code (qAy xs x) != k + (5 : Int) * (↑x : Int) + (1 : Int) + (1 : Int)) = false) → ((inK IntKind.i64 (k + (5 : Int) * (↑x : Int) + (1 : Int) + (1 : Int) + (1 : Int))) ∧ ((qCw xs x) ∧ ((((q0W.value (qAy xs x) != k + (5 : Int) * (↑x : Int) + (1 : Int) + (1 : Int) + (1 : Int)) = true) → (VLe (vi (-1)) (vi (q7X xs k)))) ∧ (((q0W.value (qAy xs x) != k + (5 : Int) * (↑x : Int) + (1 : Int) + (1 : Int) + (1 : Int)) = false) → ((inK IntKind.i64 (k + (5 : Int) * (↑x : Int) + (1 : Int) + (1 : Int) + (1 : Int) + (1 : Int))) ∧ ((qCw xs x) ∧ ((qTb (k + (5 : Int) * (↑x : Int) + (1 : Int) + (1 : Int) + (1 : Int) + (1 : Int))) ∧ ((((!q1R (q0W.path (qAy xs x)) (mtF (k + (5 : Int) * (↑x : Int) + (1 : Int) + (1 : Int) + (1 : Int) + (1 : Int)))) = true) → (VLe (vi (-1)) (vi (q7X xs k)))) ∧ (((!q1R (q0W.path (qAy xs x)) (mtF (k + (5 : Int) * (↑x : Int) + (1 : Int) + (1 : Int) + (1 : Int) + (1 : Int)))) = false) → ((inK IntKind.i64 (k + (5 : Int) * (↑x : Int) + (1 : Int) + (1 : Int) + (1 : Int) + (1 : Int) + (1 : Int))) ∧ ((inK IntKind.i64 ((↑x : Int) + (1 : Int))) ∧ (∃ y : Nat, ((SLe (AS.mk [(0, q0H (q0A 1) 1 xs), (1, vi (k + (5 : Int) * (↑x : Int) + (1 : Int) + (1 : Int) + (1 : Int) + (1 : Int) + (1 : Int))), (5, vi ((↑x : Int) + (1 : Int)))] []) (AS.mk [(0, q0H (q0A 1) 1 xs), (1, vi (k + (5 : Int) * (↑y : Int))), (5, vi (↑y : Int))] [])) ∧ (((y ≤ List.length xs) ∧ (∀ j : Nat, ((j < y) → (List.getD xs j default = q4N (k + (5 : Int) * (↑j : Int)))))) ∧ (List.length xs - y < List.length xs - x))))))))))))))))))))))))))) ∧ ((decide ((↑x : Int) < (↑(List.length xs) : Int)) = false) → (VLe (vi (k + (5 : Int) * (↑x : Int))) (vi (q7X xs k)))))))) := by
  delta qAy; delta qCw; delta vi
  unfold qNr at hpre
  refine ⟨⟨0, SLe.refl' (by simp), by omega, fun j hj => absurd hj (Nat.not_lt_zero j)⟩, ?_⟩
  rintro i ⟨hi, hj⟩
  refine ⟨fun h => ?_, fun h => ?_⟩
  ·have hlt : i < xs.length := by simpa using h
   have no : xs.getD i default ≠ q4N (k + 5 * i) → VLe (.int .i64 (-1)) (.int .i64 (q7X xs k)) := fun hn => by
    refine q0J ?_
    have : xs ≠ q7D k xs.length := fun e => hn (by rw [e]; exact qDN _ _ _ hlt)
    unfold q7X
    rw [if_neg this]
   simp only [Int.toNat_natCast, q16]
   refine ⟨by omega, fun g0 => ?_, fun g0 => ⟨q0U (by omega), by omega, fun g1 => ?_, fun g1 => ⟨q0U (by omega), by omega, fun g2 => ?_, fun g2 => ⟨q0U (by omega), by omega, fun g3 => ?_, fun g3 => ⟨q0U (by omega), by omega, ⟨by omega, by omega⟩, fun g4 => ?_, fun g4 => ⟨q0U (by omega), q0U (by omega), i + 1, q1X ⟨rfl, VLe.refl _, rfl, q0J (by omega), rfl, q0J (by omega), trivial⟩ trivial, ⟨by omega, fun j h5 => ?_⟩, by omega⟩⟩⟩⟩⟩⟩
   ·exact no fun e => by rw [e] at g0; first | (simp [q4N, Int.add_assoc] at g0; done) | (simp [q4N] at g0; omega)
   ·exact no fun e => by rw [e] at g1; first | (simp [q4N, Int.add_assoc] at g1; done) | (simp [q4N] at g1; omega)
   ·exact no fun e => by rw [e] at g2; first | (simp [q4N, Int.add_assoc] at g2; done) | (simp [q4N] at g2; omega)
   ·exact no fun e => by rw [e] at g3; first | (simp [q4N, Int.add_assoc] at g3; done) | (simp [q4N] at g3; omega)
   ·exact no fun e => by rw [e] at g4; first | (simp [q4N, Int.add_assoc] at g4; done) | (simp [q4N] at g4; omega)
   ·rcases Nat.lt_or_ge j i with h6 | h6
    ·exact hj j h6
    ·have : j = i := by omega
     subst this
     have a0 : (xs.getD j default).client = k + 5 * (j : Int) := by first | (simpa [Int.add_assoc] using g0; done) | (have := g0; simp at this; omega)
     have a1 : (xs.getD j default).number = k + 5 * (j : Int) + 1 := by first | (simpa [Int.add_assoc] using g1; done) | (have := g1; simp at this; omega)
     have a2 : (xs.getD j default).reply.code = k + 5 * (j : Int) + 2 := by first | (simpa [Int.add_assoc] using g2; done) | (have := g2; simp at this; omega)
     have a3 : (xs.getD j default).reply.value = k + 5 * (j : Int) + 3 := by first | (simpa [Int.add_assoc] using g3; done) | (have := g3; simp at this; omega)
     have a4 : (xs.getD j default).reply.path = mtF (k + 5 * (j : Int) + 4) := by first | (simpa [Int.add_assoc] using g4) | (simpa using g4)
     unfold q4N
     simp only [qIj, qI6]
     exact ⟨a0, a1, ⟨a2, a3, a4⟩⟩
  ·refine q0J ?_
   have hge : i = xs.length := by simp at h; omega
   subst hge
   have : xs = q7D k xs.length := q8b (by simp) fun j hj' => by rw [hj j hj', qDN _ _ _ hj']
   unfold q7X
   rw [if_pos this]
 exact Eq.mp (by kernel_rfl) key
theorem x25 : q0T Tryz.prog 140 qSJ := by
 refine q09 q1C (pol := 0) Tryz.func140 rfl (by kernel_rfl) fun args bin ob r bout hDe hob => ?_
 unfold qSJ at hDe
 split at hDe
 ·rename_i a0 a1
  cases hDe
  exact okB (x0o ((q0M q0K) a0) a1 (hob.2)) x0x (args_of_vles ⟨hob.1, VLe.refl _, trivial⟩)
 ·cases hDe
noncomputable def D39 : Nat → Option (Fl × q0G) := lk [(100, (.rw, qRd)), (101, (.rw, qTR)), (102, (.rw, qTY))]
theorem x8t : q0D Tryz.prog D39 := q01 x4V (q01 x5u (q01 x5W (q07)))
noncomputable def x7l (c0 : Int) (y0 : List q03) (y1 : List q06) (y2 : List q0L) (k : Int) : Cx := ⟨tt, D39, Tryz.f39.ntmps, [0, 1, 2, 4], [], [], fun _ => none, [], noM, []⟩
def qTj (n0 : Nat) (n1 : Nat) (n2 : Nat) (k : Int) : Prop := 1 ≤ k ∧ k + 5 * n0 + 2 * n1 + 5 * n2 ≤ 4611686018427387904
noncomputable def qDJ (y0 : List q03) : Int := (↑(List.length y0) : Int)
theorem x9V (c0 : Int) (y0 : List q03) (y1 : List q06) (y2 : List q0L) (k : Int) (hpre : qTj y0.length y1.length y2.length k) : q3H (x7l c0 y0 y1 y2 k) Tryz.f39 [] [.agg [.osl 0 y0.length, .osl 1 y1.length, .int .i64 (c0), .osl 2 y2.length], .int .i64 k] [.arr 5 y0.length (gL (q00 1) y0) q0i, .arr 2 y1.length (gL (q02 1) y1) q0i, .arr 5 y2.length (gL (q0A 1) y2) q0i] (fun rr bs => VLe rr (.int .i64 (k + 5 * (y0.length : Int) + 2 * (y1.length : Int) + 5 * (y2.length : Int))) ∧ q1d bs [.arr 5 y0.length (gL (q00 1) (zMk k y0.length)) q0i, .arr 2 y1.length (gL (q02 1) (q77 (k + 5 * y0.length) y1.length)) q0i, .arr 5 y2.length (gL (q0A 1) (q7D (k + 5 * y0.length + 2 * y1.length) y2.length)) q0i]) := by
 have key : ((((0 = 0) ∧ ((5 = 5) ∧ ((100 = 100) ∧ ((List.length y0 = List.length y0) ∧ (∃ y : List q03, ((List.length y = List.length y0) ∧ (∀ i : Nat, ((i < List.length y0) → (ELe (q00 1 (List.getD y0 i default)) (q00 1 (List.getD y i default))))))))))) ∧ (qLt (List.length y0) k)) ∧ ((List.length y0 = List.length y0) ∧ ((((0 = 0) ∧ ((2 = 2) ∧ ((100 = 100) ∧ ((List.length y1 = List.length y1) ∧ (∃ y : List q06, ((List.length y = List.length y1) ∧ (∀ i : Nat, ((i < List.length y1) → (ELe (q02 1 (List.getD y1 i default)) (q02 1 (List.getD y i default))))))))))) ∧ (qLT (List.length y1) (k + (5 : Int) * (qDJ y0)))) ∧ ((List.length y1 = List.length y1) ∧ ((((0 = 0) ∧ ((5 = 5) ∧ ((100 = 100) ∧ ((List.length y2 = List.length y2) ∧ (∃ y : List q0L, ((List.length y = List.length y2) ∧ (∀ i : Nat, ((i < List.length y2) → (ELe (q0A 1 (List.getD y2 i default)) (q0A 1 (List.getD y i default))))))))))) ∧ (qM1 (List.length y2) (k + (5 : Int) * (qDJ y0) + (2 : Int) * (↑(List.length y1) : Int)))) ∧ ((List.length y2 = List.length y2) ∧ ((VLe (vi (k + (5 : Int) * (qDJ y0) + (2 : Int) * (↑(List.length y1) : Int) + (5 : Int) * (↑(List.length y2) : Int))) (vi (k + (5 : Int) * (qDJ y0) + (2 : Int) * (↑(List.length y1) : Int) + (5 : Int) * (↑(List.length y2) : Int)))) ∧ ((BLe (Blk.arr 5 (List.length y0) (gL (q00 1) (zMk k (List.length y0))) 100) (Blk.arr 5 (List.length y0) (gL (q00 1) (zMk k (List.length y0))) 100)) ∧ ((BLe (Blk.arr 2 (List.length y1) (gL (q02 1) (q77 (k + (5 : Int) * (qDJ y0)) (List.length y1))) 100) (Blk.arr 2 (List.length y1) (gL (q02 1) (q77 (k + (5 : Int) * (qDJ y0)) (List.length y1))) 100)) ∧ ((BLe (Blk.arr 5 (List.length y2) (gL (q0A 1) (q7D (k + (5 : Int) * (qDJ y0) + (2 : Int) * (↑(List.length y1) : Int)) (List.length y2))) 100) (Blk.arr 5 (List.length y2) (gL (q0A 1) (q7D (k + (5 : Int) * (qDJ y0) + (2 : Int) * (↑(List.length y1) : Int)) (List.length y2))) 100)) ∧ (True))))))))))) := by
  delta qDJ; delta vi
  unfold qTj at hpre
  refine ⟨⟨⟨rfl, rfl, rfl, rfl, y0, rfl, fun _ _ => ELe.refl _⟩, by unfold qLt; omega⟩, rfl, ⟨⟨rfl, rfl, rfl, rfl, y1, rfl, fun _ _ => ELe.refl _⟩, by unfold qLT; omega⟩, rfl, ⟨⟨rfl, rfl, rfl, rfl, y2, rfl, fun _ _ => ELe.refl _⟩, by unfold qM1; omega⟩, rfl, VLe.refl _, BLe.refl _, BLe.refl _, BLe.refl _, trivial⟩
 exact Eq.mp (by kernel_rfl) key
noncomputable def qXn : q0G := fun args bin => match args, bin with
 | [.agg [.osl i0 m0, .osl i1 m1, .int .i64 (c0), .osl i2 m2], .int .i64 k], [.arr s0 p0 g0 t0, .arr s1 p1 g1 t1, .arr s2 p2 g2 t2] => some ((i0 = 0 ∧ s0 = 5 ∧ t0 = q0i ∧ p0 = m0 ∧ ∃ y : List q03, y.length = m0 ∧ ∀ i, i < m0 → ELe (g0 i) (gL (q00 1) y i)) ∧ (i1 = 1 ∧ s1 = 2 ∧ t1 = q0i ∧ p1 = m1 ∧ ∃ y : List q06, y.length = m1 ∧ ∀ i, i < m1 → ELe (g1 i) (gL (q02 1) y i)) ∧ (i2 = 2 ∧ s2 = 5 ∧ t2 = q0i ∧ p2 = m2 ∧ ∃ y : List q0L, y.length = m2 ∧ ∀ i, i < m2 → ELe (g2 i) (gL (q0A 1) y i)) ∧ qTj m0 m1 m2 k, .int .i64 (k + 5 * (m0 : Int) + 2 * (m1 : Int) + 5 * (m2 : Int)), [.arr 5 m0 (gL (q00 1) (zMk k m0)) q0i, .arr 2 m1 (gL (q02 1) (q77 (k + 5 * m0) m1)) q0i, .arr 5 m2 (gL (q0A 1) (q7D (k + 5 * m0 + 2 * m1) m2)) q0i])
 | _, _ => none
theorem x7k : q0T Tryz.prog 39 qXn := by
 refine q0V q1C (tpl := []) Tryz.func39 rfl (by kernel_rfl) fun args bin ob r bout hDe hob => ?_
 unfold qXn at hDe
 split at hDe
 ·rename_i i0 m0 i1 m1 c0 i2 m2 k s0 p0 g0 t0 s1 p1 g1 t1 s2 p2 g2 t2
  cases hDe
  obtain ⟨⟨rfl, rfl, rfl, rfl, y0, rfl, h0⟩, ⟨rfl, rfl, rfl, rfl, y1, rfl, h1⟩, ⟨rfl, rfl, rfl, rfl, y2, rfl, h2⟩, hpre⟩ := hob
  exact ⟨Nat.le_of_ble_eq_true (by kernel_rfl), x7l c0 y0 y1 y2 k, Eq.mp (by kernel_rfl) htt, Eq.mp (by kernel_rfl) x8t, Eq.mp (by kernel_rfl) (q2K (P := Tryz.prog)), by kernel_rfl, _, [.arr 5 y0.length (gL (q00 1) y0) q0i, .arr 2 y1.length (gL (q02 1) y1) q0i, .arr 5 y2.length (gL (q0A 1) y2) q0i], q4E.refl _, ⟨q1B h0 (Or.inl rfl), q1B h1 (Or.inl rfl), q1B h2 (Or.inl rfl), trivial⟩, Eq.mp (by kernel_rfl) (x9V c0 y0 y1 y2 k hpre)⟩
 ·cases hDe
noncomputable def D20 : Nat → Option (Fl × q0G) := lk [(39, (.rw, qXn))]
theorem x8V : q0D Tryz.prog D20 := q01 x7k (q07)
noncomputable def x7n (c0 : Int) (c1 : Int) (c2 : Int) (c3 : ByteArray) (c4 : Int) (y0 : List q03) (y1 : List q06) (y2 : List q0L) (k : Int) : Cx := ⟨tt, D20, Tryz.f20.ntmps, [0, 1, 2, 4], [], [], fun _ => none, [], noM, []⟩
def qVy (n0 : Nat) (n1 : Nat) (n2 : Nat) (k : Int) : Prop := 1 ≤ k ∧ k + 5 * n0 + 2 * n1 + 5 * n2 ≤ 4611686018427387904
noncomputable def qRI (y0 : List q03) (y1 : List q06) (y2 : List q0L) (k : Int) : Blk := (Blk.arr 5 (List.length y2) (gL (q0A 1) (q7D (k + (5 : Int) * (↑(List.length y0) : Int) + (2 : Int) * (↑(List.length y1) : Int)) (List.length y2))) 100)
theorem x8e (c0 : Int) (c1 : Int) (c2 : Int) (c3 : ByteArray) (c4 : Int) (y0 : List q03) (y1 : List q06) (y2 : List q0L) (k : Int) (hpre : qVy y0.length y1.length y2.length k) : q3H (x7n c0 c1 c2 c3 c4 y0 y1 y2 k) Tryz.f20 [] [.agg [.int .i64 (c0), .int .i64 (c1), .int .i64 (c2), .str (c3), .osl 0 y0.length, .osl 1 y1.length, .int .i64 (c4), .osl 2 y2.length], .int .i64 k] [.arr 5 y0.length (gL (q00 1) y0) q0i, .arr 2 y1.length (gL (q02 1) y1) q0i, .arr 5 y2.length (gL (q0A 1) y2) q0i] (fun rr bs => VLe rr (.int .i64 (k + 5 * (y0.length : Int) + 2 * (y1.length : Int) + 5 * (y2.length : Int))) ∧ q1d bs [.arr 5 y0.length (gL (q00 1) (zMk k y0.length)) q0i, .arr 2 y1.length (gL (q02 1) (q77 (k + 5 * y0.length) y1.length)) q0i, .arr 5 y2.length (gL (q0A 1) (q7D (k + 5 * y0.length + 2 * y1.length) y2.length)) q0i]) := by
 have key : ((((0 = 0) ∧ ((5 = 5) ∧ ((100 = 100) ∧ ((List.length y0 = List.length y0) ∧ (∃ y : List q03, ((List.length y = List.length y0) ∧ (∀ i : Nat, ((i < List.length y0) → (ELe (q00 1 (List.getD y0 i default)) (q00 1 (List.getD y i default))))))))))) ∧ (((1 = 1) ∧ ((2 = 2) ∧ ((100 = 100) ∧ ((List.length y1 = List.length y1) ∧ (∃ y : List q06, ((List.length y = List.length y1) ∧ (∀ i : Nat, ((i < List.length y1) → (ELe (q02 1 (List.getD y1 i default)) (q02 1 (List.getD y i default))))))))))) ∧ (((2 = 2) ∧ ((5 = 5) ∧ ((100 = 100) ∧ ((List.length y2 = List.length y2) ∧ (∃ y : List q0L, ((List.length y = List.length y2) ∧ (∀ i : Nat, ((i < List.length y2) → (ELe (q0A 1 (List.getD y2 i default)) (q0A 1 (List.getD y i default))))))))))) ∧ (qTj (List.length y0) (List.length y1) (List.length y2) k)))) ∧ ((List.length y0 = List.length y0) ∧ ((List.length y1 = List.length y1) ∧ ((List.length y2 = List.length y2) ∧ ((VLe (vi (k + (5 : Int) * (↑(List.length y0) : Int) + (2 : Int) * (↑(List.length y1) : Int) + (5 : Int) * (↑(List.length y2) : Int))) (vi (k + (5 : Int) * (↑(List.length y0) : Int) + (2 : Int) * (↑(List.length y1) : Int) + (5 : Int) * (↑(List.length y2) : Int)))) ∧ ((BLe (Blk.arr 5 (List.length y0) (gL (q00 1) (zMk k (List.length y0))) 100) (Blk.arr 5 (List.length y0) (gL (q00 1) (zMk k (List.length y0))) 100)) ∧ ((BLe (Blk.arr 2 (List.length y1) (gL (q02 1) (q77 (k + (5 : Int) * (↑(List.length y0) : Int)) (List.length y1))) 100) (Blk.arr 2 (List.length y1) (gL (q02 1) (q77 (k + (5 : Int) * (↑(List.length y0) : Int)) (List.length y1))) 100)) ∧ ((BLe (qRI y0 y1 y2 k) (qRI y0 y1 y2 k)) ∧ (True))))))))) := by
  delta qRI; delta vi
  unfold qVy at hpre
  refine ⟨⟨⟨rfl, rfl, rfl, rfl, y0, rfl, fun _ _ => ELe.refl _⟩, ⟨rfl, rfl, rfl, rfl, y1, rfl, fun _ _ => ELe.refl _⟩, ⟨rfl, rfl, rfl, rfl, y2, rfl, fun _ _ => ELe.refl _⟩, hpre⟩, rfl, rfl, rfl, VLe.refl _, BLe.refl _, BLe.refl _, BLe.refl _, trivial⟩
 exact Eq.mp (by kernel_rfl) key
noncomputable def x2z : q0G := fun args bin => match args, bin with
 | [.agg [.int .i64 (c0), .int .i64 (c1), .int .i64 (c2), .str (c3), .osl i0 m0, .osl i1 m1, .int .i64 (c4), .osl i2 m2], .int .i64 k], [.arr s0 p0 g0 t0, .arr s1 p1 g1 t1, .arr s2 p2 g2 t2] => some ((i0 = 0 ∧ s0 = 5 ∧ t0 = q0i ∧ p0 = m0 ∧ ∃ y : List q03, y.length = m0 ∧ ∀ i, i < m0 → ELe (g0 i) (gL (q00 1) y i)) ∧ (i1 = 1 ∧ s1 = 2 ∧ t1 = q0i ∧ p1 = m1 ∧ ∃ y : List q06, y.length = m1 ∧ ∀ i, i < m1 → ELe (g1 i) (gL (q02 1) y i)) ∧ (i2 = 2 ∧ s2 = 5 ∧ t2 = q0i ∧ p2 = m2 ∧ ∃ y : List q0L, y.length = m2 ∧ ∀ i, i < m2 → ELe (g2 i) (gL (q0A 1) y i)) ∧ qVy m0 m1 m2 k, .int .i64 (k + 5 * (m0 : Int) + 2 * (m1 : Int) + 5 * (m2 : Int)), [.arr 5 m0 (gL (q00 1) (zMk k m0)) q0i, .arr 2 m1 (gL (q02 1) (q77 (k + 5 * m0) m1)) q0i, .arr 5 m2 (gL (q0A 1) (q7D (k + 5 * m0 + 2 * m1) m2)) q0i])
 | _, _ => none
theorem x8v : q0T Tryz.prog 20 x2z := by
 refine q0V q1C (tpl := []) Tryz.func20 rfl (by kernel_rfl) fun args bin ob r bout hDe hob => ?_
 unfold x2z at hDe
 split at hDe
 ·rename_i c0 c1 c2 c3 i0 m0 i1 m1 c4 i2 m2 k s0 p0 g0 t0 s1 p1 g1 t1 s2 p2 g2 t2
  cases hDe
  obtain ⟨⟨rfl, rfl, rfl, rfl, y0, rfl, h0⟩, ⟨rfl, rfl, rfl, rfl, y1, rfl, h1⟩, ⟨rfl, rfl, rfl, rfl, y2, rfl, h2⟩, hpre⟩ := hob
  exact ⟨Nat.le_of_ble_eq_true (by kernel_rfl), x7n c0 c1 c2 c3 c4 y0 y1 y2 k, Eq.mp (by kernel_rfl) htt, Eq.mp (by kernel_rfl) x8V, Eq.mp (by kernel_rfl) (q2K (P := Tryz.prog)), by kernel_rfl, _, [.arr 5 y0.length (gL (q00 1) y0) q0i, .arr 2 y1.length (gL (q02 1) y1) q0i, .arr 5 y2.length (gL (q0A 1) y2) q0i], q4E.refl _, ⟨q1B h0 (Or.inl rfl), q1B h1 (Or.inl rfl), q1B h2 (Or.inl rfl), trivial⟩, Eq.mp (by kernel_rfl) (x8e c0 c1 c2 c3 c4 y0 y1 y2 k hpre)⟩
 ·cases hDe
def qDZ (s : q05) (k : Int) : Prop := s.nodes = zMk k s.nodes.length ∧ s.sessions = q77 (k + 5 * s.nodes.length) s.sessions.length ∧ s.marks = q7D (k + 5 * s.nodes.length + 2 * s.sessions.length) s.marks.length
noncomputable instance (s : q05) (k : Int) : Decidable (qDZ s k) := Classical.propDecidable _
noncomputable def q2j (s : q05) (k : Int) : Int := if qDZ s k then k + 5 * s.nodes.length + 2 * s.sessions.length + 5 * s.marks.length else -1
theorem qE2 {a : Int} {p : Prop} [Decidable p] (h : (if p then a else -1) < 0) (hb : 0 ≤ a) : ¬ p := fun e => by
 rw [if_pos e] at h
 omega
theorem qE6 {a : Int} {p : Prop} [Decidable p] (h : ¬ (if p then a else -1) < 0) : p := Classical.byContradiction fun e => by
 rw [if_neg e] at h
 omega
def qXq (s : q05) (k : Int) : Prop := 1 ≤ k ∧ k + 5 * s.nodes.length + 2 * s.sessions.length + 5 * s.marks.length ≤ 4611686018427387904
noncomputable def x6R (s : q05) (k : Int) : V := .int .i64 (q2j s k)
noncomputable def x32 : q0G := fun args bin => match args, bin with
 | [a0, .int .i64 a1], [] => some (VLe a0 (q0C 1 ((q0B a0))) ∧ qXq (q0B a0) a1, x6R (q0B a0) a1, [])
 | _, _ => none
noncomputable def D67 : Nat → Option (Fl × q0G) := lk [(138, (.ro, qR8)), (139, (.ro, qST)), (140, (.ro, qSJ))]
theorem x8R : q0D Tryz.prog D67 := q01 x1y (q01 x5b (q01 x25 (q07)))
noncomputable def x8P (s : q05) (k : Int) : Cx := ⟨tt, D67, Tryz.f67.ntmps, [0, 1, 2, 4, 10, 16, 22], [], [], fun _ => none, [], noM, []⟩
noncomputable def q9c (s : q05) : List q03 := (q0M q04 (q0H (q00 1) 1 (q05.nodes s)))
noncomputable def qDq (s : q05) : List q06 := (q0M q08 (q0H (q02 1) 1 (q05.sessions s)))
noncomputable def qJR (s : q05) : List q0L := (q0M q0K (q0H (q0A 1) 1 (q05.marks s)))
theorem x8q (s : q05) (k : Int) (hpre : qXq s k) : q0f (x8P s k) Tryz.f67 0 [q0C 1 (s), .int .i64 (k)] (fun rr => VLe rr (x6R s k)) := by
 have key : (((VLe (q0H (q00 1) 1 (q05.nodes s)) (q0H (q00 1) 1 (q9c s))) ∧ (qOj (q9c s) k)) ∧ (((decide (qBk (q9c s) k < (0 : Int)) = true) → (VLe (vi (-1)) (vi (q2j s k)))) ∧ ((decide (qBk (q9c s) k < (0 : Int)) = false) → (((VLe (q0H (q02 1) 1 (q05.sessions s)) (q0H (q02 1) 1 (qDq s))) ∧ (qOk (qDq s) (qBk (q9c s) k))) ∧ (((decide (q7R (qDq s) (qBk (q9c s) k) < (0 : Int)) = true) → (VLe (vi (-1)) (vi (q2j s k)))) ∧ ((decide (q7R (qDq s) (qBk (q9c s) k) < (0 : Int)) = false) → (((VLe (q0H (q0A 1) 1 (q05.marks s)) (q0H (q0A 1) 1 (qJR s))) ∧ (qNr (qJR s) (q7R (qDq s) (qBk (q9c s) k)))) ∧ (((decide (q7X (qJR s) (q7R (qDq s) (qBk (q9c s) k)) < (0 : Int)) = true) → (VLe (vi (-1)) (vi (q2j s k)))) ∧ ((decide (q7X (qJR s) (q7R (qDq s) (qBk (q9c s) k)) < (0 : Int)) = false) → (VLe (vi (q7X (qJR s) (q7R (qDq s) (qBk (q9c s) k)))) (vi (q2j s k)))))))))))) := by
  delta qJR; delta qDq; delta q9c; delta vi
  unfold qXq at hpre
  simp only [q0s, q19, q4d]
  refine ⟨⟨VLe.refl _, by show 1 ≤ k ∧ _; omega⟩, fun h => q0J ?_, fun h => ?_⟩
  ·have h1 := of_decide_eq_true h
   unfold qBk at h1
   unfold q2j
   rw [if_neg fun g => qE2 h1 (by omega) g.1]
  have h1 := of_decide_eq_false h
  unfold qBk at h1 ⊢
  have h2 := qE6 h1
  rw [if_pos h2]
  refine ⟨⟨VLe.refl _, by show 1 ≤ k + 5 * (s.nodes.length : Int) ∧ _; omega⟩, fun h => q0J ?_, fun h => ?_⟩
  ·have h3 := of_decide_eq_true h
   unfold q7R at h3
   unfold q2j
   rw [if_neg fun g => qE2 h3 (by omega) g.2.1]
  have h3 := of_decide_eq_false h
  unfold q7R at h3 ⊢
  have h4 := qE6 h3
  rw [if_pos h4]
  refine ⟨⟨VLe.refl _, by show 1 ≤ k + 5 * (s.nodes.length : Int) + 2 * (s.sessions.length : Int) ∧ _; omega⟩, fun h => q0J ?_, fun h => q0J ?_⟩
  ·have h5 := of_decide_eq_true h
   unfold q7X at h5
   unfold q2j
   rw [if_neg fun g => qE2 h5 (by omega) g.2.2]
  ·have h5 := of_decide_eq_false h
   unfold q7X at h5 ⊢
   have h6 := qE6 h5
   unfold q2j
   rw [if_pos h6, if_pos ⟨h2, h4, h6⟩]
 exact Eq.mp (by kernel_rfl) key
theorem x8X : q0T Tryz.prog 67 x32 := by
 refine q09 q1C (pol := 0) Tryz.func67 rfl (by kernel_rfl) fun args bin ob r bout hDe hob => ?_
 unfold x32 at hDe
 split at hDe
 ·rename_i a0 a1
  cases hDe
  exact okB (x8q (q0B a0) a1 (hob.2)) x8R (args_of_vles ⟨hob.1, VLe.refl _, trivial⟩)
 ·cases hDe
def qUf (a : q0N) (k : Int) : Prop := 1 ≤ k ∧ k + 5 * a.state.nodes.length + 2 * a.state.sessions.length + 5 * a.state.marks.length ≤ 4611686018427387904
noncomputable def x6y (a : q0N) (k : Int) : V := .int .i64 (q2j a.state k)
noncomputable def x2f : q0G := fun args bin => match args, bin with
 | [a0, .int .i64 a1], [] => some (VLe a0 (q0b 1 ((q0P a0))) ∧ qUf (q0P a0) a1, x6y (q0P a0) a1, [])
 | _, _ => none
noncomputable def D21 : Nat → Option (Fl × q0G) := lk [(67, (.ro, x32))]
theorem x8h : q0D Tryz.prog D21 := q01 x8X (q07)
noncomputable def x8o (a : q0N) (k : Int) : Cx := ⟨tt, D21, Tryz.f21.ntmps, [0, 1, 2, 4, 10], [], [], fun _ => none, [], noM, []⟩
noncomputable def qHF (a : q0N) : V := (q0C 1 (q0N.state a))
theorem x8Y (a : q0N) (k : Int) (hpre : qUf a k) : q0f (x8o a k) Tryz.f21 0 [q0b 1 (a), .int .i64 (k)] (fun rr => VLe rr (x6y a k)) := by
 have key : (((VLe (qHF a) (q0C 1 (q0B (qHF a)))) ∧ (qXq (q0B (qHF a)) k)) ∧ (((decide (q2j (q0B (qHF a)) k < (0 : Int)) = true) → (VLe (vi (-1)) (vi (q2j (q0N.state a) k)))) ∧ ((decide (q2j (q0B (qHF a)) k < (0 : Int)) = false) → (VLe (vi (q2j (q0B (qHF a)) k)) (vi (q2j (q0N.state a) k)))))) := by
  delta qHF; delta vi
  unfold qUf at hpre
  simp only [q2D]
  refine ⟨⟨VLe.refl _, hpre⟩, fun h => q0J ?_, fun h => VLe.refl _⟩
  have h1 := of_decide_eq_true h
  unfold q2j at h1 ⊢
  rw [if_neg (qE2 h1 (by omega))]
 exact Eq.mp (by kernel_rfl) key
theorem x8g : q0T Tryz.prog 21 x2f := by
 refine q09 q1C (pol := 0) Tryz.func21 rfl (by kernel_rfl) fun args bin ob r bout hDe hob => ?_
 unfold x2f at hDe
 split at hDe
 ·rename_i a0 a1
  cases hDe
  exact okB (x8Y (q0P a0) a1 (hob.2)) x8h (args_of_vles ⟨hob.1, VLe.refl _, trivial⟩)
 ·cases hDe
def qKI (x : q05) (y : q05) : Prop := x.nodes.length ≤ maxLen ∧ x.sessions.length ≤ maxLen ∧ x.marks.length ≤ maxLen
noncomputable def qUT (x : q05) (y : q05) : V := .bool (decide (x = y))
noncomputable def qOX : q0G := fun args bin => match args, bin with
 | [a0, a1], [] => some (VLe a0 (q0C 1 ((q0B a0))) ∧ VLe a1 (q0C 1 ((q0B a1))) ∧ qKI (q0B a0) (q0B a1), qUT (q0B a0) (q0B a1), [])
 | _, _ => none
noncomputable def x87 : Nat → Option (Fl × q0G) := lk [(96, (.ro, x2Y)), (97, (.ro, x5R)), (98, (.ro, x17))]
theorem x4Y : q0D Tryz.prog x87 := q01 x8p (q01 x8H (q01 x8M (q07)))
noncomputable def x0G (x : q05) (y : q05) : Cx := ⟨tt, x87, Tryz.f37.ntmps, [0, 1, 2, 3, 4, 10, 16, 21, 27], [], [], fun _ => none, [], noM, []⟩
noncomputable def qBx (x : q05) : V := (q0H (q02 1) 1 (q05.sessions x))
noncomputable def qC2 (y : q05) : V := (q0H (q02 1) 1 (q05.sessions y))
noncomputable def qCY (x : q05) : V := (q0H (q00 1) 1 (q05.nodes x))
noncomputable def qC0 (y : q05) : V := (q0H (q00 1) 1 (q05.nodes y))
noncomputable def qCi (x : q05) : V := (q0H (q0A 1) 1 (q05.marks x))
noncomputable def qCo (y : q05) : V := (q0H (q0A 1) 1 (q05.marks y))
def qER (x : q05) (y : q05) : Prop := (VLe (V.bool false) (V.bool (decide (x = y))))
theorem x5X (x : q05) (y : q05) (hpre : qKI x y) : q0f (x0G x y) Tryz.f37 0 [q0C 1 (x), q0C 1 (y)] (fun rr => VLe rr (qUT x y)) := by
 have key : (((VLe (qCY x) (q0H (q00 1) 1 (q0M q04 (qCY x)))) ∧ ((VLe (qC0 y) (q0H (q00 1) 1 (q0M q04 (qC0 y)))) ∧ (qY7 (q0M q04 (qCY x)) (q0M q04 (qC0 y))))) ∧ ((((!decide (q0M q04 (qCY x) = q0M q04 (qC0 y))) = true) → (qER x y)) ∧ (((!decide (q0M q04 (qCY x) = q0M q04 (qC0 y))) = false) → (((VLe (qBx x) (q0H (q02 1) 1 (q0M q08 (qBx x)))) ∧ ((VLe (qC2 y) (q0H (q02 1) 1 (q0M q08 (qC2 y)))) ∧ (qY4 (q0M q08 (qBx x)) (q0M q08 (qC2 y))))) ∧ ((((!decide (q0M q08 (qBx x) = q0M q08 (qC2 y))) = true) → (qER x y)) ∧ (((!decide (q0M q08 (qBx x) = q0M q08 (qC2 y))) = false) → ((((q05.now x != q05.now y) = true) → (qER x y)) ∧ (((q05.now x != q05.now y) = false) → (((VLe (qCi x) (q0H (q0A 1) 1 (q0M q0K (qCi x)))) ∧ ((VLe (qCo y) (q0H (q0A 1) 1 (q0M q0K (qCo y)))) ∧ (qY3 (q0M q0K (qCi x)) (q0M q0K (qCo y))))) ∧ ((((!decide (q0M q0K (qCi x) = q0M q0K (qCo y))) = true) → (qER x y)) ∧ (((!decide (q0M q0K (qCi x) = q0M q0K (qCo y))) = false) → (VLe (V.bool true) (V.bool (decide (x = y))))))))))))))) := by
  delta qER; delta qCo; delta qCi; delta qC0; delta qCY; delta qC2; delta qBx
  obtain ⟨hn, hs, hk⟩ := hpre
  simp only [q0s, q19, q4d]
  refine ⟨⟨VLe.refl _, VLe.refl _, hn, fun _ _ _ => trivial⟩, fun h => q0e ?_, fun h => ⟨⟨VLe.refl _, VLe.refl _, hs, fun _ _ _ => trivial⟩, fun h2 => q0e ?_, fun h2 => ⟨fun h3 => q0e ?_, fun h3 => ⟨⟨VLe.refl _, VLe.refl _, hk, fun _ _ _ => trivial⟩, fun h4 => q0e ?_, fun h4 => q0e ?_⟩⟩⟩⟩
  all_goals simp_all [qM7]
 exact Eq.mp (by kernel_rfl) key
theorem qX2 : q0T Tryz.prog 37 qOX := by
 refine q09 q1C (pol := 0) Tryz.func37 rfl (by kernel_rfl) fun args bin ob r bout hDe hob => ?_
 unfold qOX at hDe
 split at hDe
 ·rename_i a0 a1
  cases hDe
  exact okB (x5X (q0B a0) (q0B a1) (hob.2.2)) x4Y (args_of_vles ⟨hob.1, hob.2.1, trivial⟩)
 ·cases hDe
def qY5 (x : q0N) (y : q0N) : Prop := x.state.nodes.length ≤ maxLen ∧ x.state.sessions.length ≤ maxLen ∧ x.state.marks.length ≤ maxLen
noncomputable def x82 (x : q0N) (y : q0N) : V := .bool (decide (x = y))
noncomputable def qZj : q0G := fun args bin => match args, bin with
 | [a0, a1], [] => some (VLe a0 (q0b 1 ((q0P a0))) ∧ VLe a1 (q0b 1 ((q0P a1))) ∧ qY5 (q0P a0) (q0P a1), x82 (q0P a0) (q0P a1), [])
 | _, _ => none
noncomputable def D17 : Nat → Option (Fl × q0G) := lk [(65, (.ro, qXs)), (37, (.ro, qOX))]
theorem x9Y : q0D Tryz.prog D17 := q01 x77 (q01 qX2 (q07))
noncomputable def x8r (x : q0N) (y : q0N) : Cx := ⟨tt, D17, Tryz.f17.ntmps, [0, 1, 2, 3, 4, 9, 15, 21], [], [], fun _ => none, [], noM, []⟩
noncomputable def qJy (x : q0N) : V := (q0C 1 (q0N.state x))
noncomputable def qIs (y : q0N) : V := (q0C 1 (q0N.state y))
noncomputable def qJN (x : q0N) : V := (q0S 1 (q0N.reply x))
noncomputable def qJA (y : q0N) : V := (q0S 1 (q0N.reply y))
theorem x9K (x : q0N) (y : q0N) (hpre : qY5 x y) : q0f (x8r x y) Tryz.f17 0 [q0b 1 (x), q0b 1 (y)] (fun rr => VLe rr (x82 x y)) := by
 have key : ((((q0N.code x != q0N.code y) = true) → (VLe (V.bool false) (V.bool (decide (x = y))))) ∧ (((q0N.code x != q0N.code y) = false) → (((VLe (qJN x) (q0S 1 (q0h (qJN x)))) ∧ ((VLe (qJA y) (q0S 1 (q0h (qJA y)))) ∧ (qXm (q0h (qJN x)) (q0h (qJA y))))) ∧ ((((!decide (q0h (qJN x) = q0h (qJA y))) = true) → (VLe (V.bool false) (V.bool (decide (x = y))))) ∧ (((!decide (q0h (qJN x) = q0h (qJA y))) = false) → (((VLe (qJy x) (q0C 1 (q0B (qJy x)))) ∧ ((VLe (qIs y) (q0C 1 (q0B (qIs y)))) ∧ (qKI (q0B (qJy x)) (q0B (qIs y))))) ∧ ((((!decide (q0B (qJy x) = q0B (qIs y))) = true) → (VLe (V.bool false) (V.bool (decide (x = y))))) ∧ (((!decide (q0B (qJy x) = q0B (qIs y))) = false) → (VLe (V.bool true) (V.bool (decide (x = y)))))))))))) := by
  delta qJA; delta qJN; delta qIs; delta qJy
  have hp := hpre
  simp only [q2u, q2D]
  refine ⟨fun h => q0e ?_, fun h => ⟨⟨VLe.refl _, VLe.refl _, trivial⟩, fun h2 => q0e ?_, fun h2 => ⟨⟨VLe.refl _, VLe.refl _, hp⟩, fun h3 => q0e ?_, fun h3 => q0e ?_⟩⟩⟩
  all_goals simp_all [qBl]
 exact Eq.mp (by kernel_rfl) key
theorem x91 : q0T Tryz.prog 17 qZj := by
 refine q09 q1C (pol := 0) Tryz.func17 rfl (by kernel_rfl) fun args bin ob r bout hDe hob => ?_
 unfold qZj at hDe
 split at hDe
 ·rename_i a0 a1
  cases hDe
  exact okB (x9K (q0P a0) (q0P a1) (hob.2.2)) x9Y (args_of_vles ⟨hob.1, hob.2.1, trivial⟩)
 ·cases hDe
def qPg (xs : List q03) : Prop := xs.length ≤ q4I ∧ ∀ x ∈ xs, qOW x
noncomputable def qEK (xs : List q03) : List q03 := xs
noncomputable def qUc (xs : List q03) : List Blk := [(.arr 5 (qEK xs).length (gL (q00 1) (qEK xs)) q0i)]
noncomputable def qWL (xs : List q03) : V := .osl 0 (qEK xs).length
noncomputable def qRJ : q0G := fun args bin => match args, bin with
 | [a0], [] => some (VLe a0 (q0H (q00 1) 1 (((q0M q04) a0))) ∧ qPg ((q0M q04) a0), qWL ((q0M q04) a0), qUc ((q0M q04) a0))
 | _, _ => none
noncomputable def qQN (xs : List q03) : q0O :=
 ⟨Nat × List q03, fun p => ⟨[(0, q0H (q00 1) 1 xs), (3, .osl (q1l 3) xs.length), (4, .int .i64 p.1)], [(q1l 3, .arr 5 xs.length (gL (q00 1) p.2) q0i)]⟩,
  fun p => p.1 ≤ xs.length ∧ p.2.length = xs.length ∧ ∀ j, j < p.1 → p.2.getD j default = xs.getD j default, fun p => xs.length - p.1⟩
noncomputable def x42 (xs : List q03) : Nat → Option q0O := fun rg_ => match rg_ with
 | 3 => some (qQN xs)
 | _ => none
noncomputable def x65 : Nat → Option (Fl × q0G) := lk [(153, (.ro, qS3))]
theorem x1l : q0D Tryz.prog x65 := q01 x26 (q07)
noncomputable def x3B (xs : List q03) : Cx := ⟨tt, x65, Tryz.f89.ntmps, [0, 2, 3, 4, 11], [(3, ⟨[(0, none), (3, some 5), (4, none)], []⟩)], [], x42 xs, [], noM, []⟩
noncomputable def q6d (xs : List q03) : Int := (↑(List.length xs) : Int)
def qKD (xs : List q03) (x : Nat × List q03) : Prop := ((Prod.fst x ≤ List.length xs) ∧ ((List.length x.2 = List.length xs) ∧ (∀ j : Nat, ((j < Prod.fst x) → (List.getD x.2 j default = List.getD xs j default)))))
noncomputable def qFI (xs : List q03) (x : Nat × List q03) : V := (q00 1 (List.getD xs (Int.toNat (↑x.1 : Int)) default))
theorem x0F (xs : List q03) (hpre : qPg xs) : q3H (x3B xs) Tryz.f89 [(0, 5)] [q0H (q00 1) 1 (xs)] [] (fun rr bs => VLe rr (qWL xs) ∧ q1d bs (qUc xs)) := by
 have key : ((((0 : Int) ≤ (q6d xs)) ∧ (((q6d xs) ≤ (q6d xs)) ∧ ((q6d xs) ≤ (↑1073741824 : Int)))) ∧ ((∃ x : Nat × List q03, ((SLe (AS.mk [(0, q0H (q00 1) 1 xs), (3, V.osl 32000256 (Int.toNat (q6d xs))), (4, vi 0)] [(32000256, Blk.arr 5 (Int.toNat (q6d xs)) (fun (x : Nat) ↦ V.agg [V.str (ByteArray.mk #[]), vi 0, vi 0, vi 0, vi 0]) 100)]) (AS.mk [(0, q0H (q00 1) 1 xs), (3, V.osl 32000256 (List.length xs)), (4, vi (↑x.1 : Int))] [(32000256, Blk.arr 5 (List.length xs) (gL (q00 1) x.2) 100)])) ∧ (qKD xs x))) ∧ (∀ x : Nat × List q03, ((qKD xs x) → (((decide ((↑x.1 : Int) < (q6d xs)) = true) → ((((0 : Int) ≤ (↑x.1 : Int)) ∧ ((↑x.1 : Int) < (q6d xs))) ∧ (((VLe (qFI xs x) (q00 1 (q04 (qFI xs x)))) ∧ (qOW (q04 (qFI xs x)))) ∧ ((((0 : Int) ≤ (↑x.1 : Int)) ∧ ((↑x.1 : Int) < (q6d xs))) ∧ ((Int.toNat (↑x.1 : Int) < List.length xs) ∧ ((inK IntKind.i64 ((↑x.1 : Int) + (1 : Int))) ∧ (∃ y : Nat × List q03, ((SLe (AS.mk [(0, q0H (q00 1) 1 xs), (3, V.osl 32000256 (List.length xs)), (4, vi ((↑x.1 : Int) + (1 : Int)))] [(32000256, Blk.arr 5 (List.length xs) (q5d (gL (q00 1) x.2) (Int.toNat (↑x.1 : Int)) (q00 1 (q04 (qFI xs x)))) 100)]) (AS.mk [(0, q0H (q00 1) 1 xs), (3, V.osl 32000256 (List.length xs)), (4, vi (↑y.1 : Int))] [(32000256, Blk.arr 5 (List.length xs) (gL (q00 1) y.2) 100)])) ∧ (((Prod.fst y ≤ List.length xs) ∧ ((List.length y.2 = List.length xs) ∧ (∀ j : Nat, ((j < Prod.fst y) → (List.getD y.2 j default = List.getD xs j default))))) ∧ (List.length xs - Prod.fst y < List.length xs - Prod.fst x)))))))))) ∧ ((decide ((↑x.1 : Int) < (q6d xs)) = false) → ((VLe (V.osl 0 (List.length xs)) (V.osl 0 (List.length (qEK xs)))) ∧ ((BLe (Blk.arr 5 (List.length xs) (gL (q00 1) x.2) 100) (Blk.arr 5 (List.length (qEK xs)) (gL (q00 1) (qEK xs)) 100)) ∧ (True))))))))) := by
  delta qFI; delta qKD; delta q6d; delta vi
  unfold qPg q4I at hpre
  obtain ⟨hpre, hel⟩ := hpre
  refine ⟨⟨by omega, by omega, by omega⟩, ⟨(0, List.replicate xs.length default), ?_, by simp, by simp, fun j hj => absurd hj (Nat.not_lt_zero j)⟩, ?_⟩
  ·refine q1X ⟨rfl, VLe.refl _, rfl, VLe.refl _, rfl, VLe.refl _, trivial⟩ ⟨rfl, ?_, trivial⟩
   refine q1B (fun i hi => ?_) (Or.inl rfl)
   have hi' : i < xs.length := hi
   have e1 : gL (q00 1) (List.replicate xs.length default) i = (q00 1) default := by simp [gL, hi']
   rw [e1]
   exact qJa
  ·rintro ⟨i, ys⟩ ⟨hi, hl, hj⟩
   simp only at hi hl hj ⊢
   refine ⟨fun h => ?_, fun h => ?_⟩
   ·have hlt : i < xs.length := by simpa using h
    have hin : xs.getD i default ∈ xs := by simp [hlt]
    simp only [q11, Int.toNat_natCast]
    refine ⟨⟨by omega, by omega⟩, ⟨VLe.refl _, hel _ hin⟩, ⟨by omega, by omega⟩, by simpa using hlt, q0U (by omega), (i + 1, ys.set i (xs.getD i default)), ?_, ⟨by simp only; omega, by simpa using hl, fun j h2 => ?_⟩, by simp only; omega⟩
    ·refine q1X ⟨rfl, VLe.refl _, rfl, VLe.refl _, rfl, q0J (by simp), trivial⟩ ⟨rfl, ?_, trivial⟩
     refine q1B (fun k hk => ?_) (Or.inl rfl)
     simp only [q2G, gL, Int.toNat_natCast]
     by_cases e : k = i
     ·subst e
      rw [if_pos rfl, q2S _ _ _ _ (by omega)]
      exact qLo _ _ _
     ·rw [if_neg e, q2X _ _ _ _ e]
      exact ELe.refl _
    ·simp only at h2 ⊢
     by_cases e : j = i
     ·subst e; rw [q2S _ _ _ _ (by omega)]
     ·rw [q2X _ _ _ _ e]; exact hj j (by omega)
   ·have hge : i = xs.length := by simp at h; omega
    refine ⟨VLe.refl _, q1B (fun k hk => ?_) (Or.inl rfl), trivial⟩
    show ELe _ (gL (q00 1) xs k)
    simp only [gL]
    rw [hj k (by omega)]
    exact ELe.refl _
 exact Eq.mp (by kernel_rfl) key
theorem x4m : q0T Tryz.prog 89 qRJ := by
 refine q0V q1C (tpl := [(0, 5)]) Tryz.func89 rfl (by kernel_rfl) fun args bin ob r bout hDe hob => ?_
 unfold qRJ at hDe
 split at hDe
 ·rename_i a0
  cases hDe
  exact okQ (x0F ((q0M q04) a0) (hob.2)) x1l (args_of_vles ⟨hob.1, trivial⟩) trivial
 ·cases hDe
def qOD (xs : List q06) : Prop := xs.length ≤ q4I ∧ ∀ x ∈ xs, qP9 x
noncomputable def qEI (xs : List q06) : List q06 := xs
noncomputable def qXY (xs : List q06) : List Blk := [(.arr 2 (qEI xs).length (gL (q02 1) (qEI xs)) q0i)]
noncomputable def qUM (xs : List q06) : V := .osl 0 (qEI xs).length
noncomputable def qRW : q0G := fun args bin => match args, bin with
 | [a0], [] => some (VLe a0 (q0H (q02 1) 1 (((q0M q08) a0))) ∧ qOD ((q0M q08) a0), qUM ((q0M q08) a0), qXY ((q0M q08) a0))
 | _, _ => none
noncomputable def qR4 (xs : List q06) : q0O :=
 ⟨Nat × List q06, fun p => ⟨[(0, q0H (q02 1) 1 xs), (3, .osl (q1l 3) xs.length), (4, .int .i64 p.1)], [(q1l 3, .arr 2 xs.length (gL (q02 1) p.2) q0i)]⟩,
  fun p => p.1 ≤ xs.length ∧ p.2.length = xs.length ∧ ∀ j, j < p.1 → p.2.getD j default = xs.getD j default, fun p => xs.length - p.1⟩
noncomputable def x1t (xs : List q06) : Nat → Option q0O := fun rg_ => match rg_ with
 | 3 => some (qR4 xs)
 | _ => none
noncomputable def x64 : Nat → Option (Fl × q0G) := lk [(154, (.ro, qSj))]
theorem x12 : q0D Tryz.prog x64 := q01 qZ0 (q07)
noncomputable def qYF (xs : List q06) : Cx := ⟨tt, x64, Tryz.f90.ntmps, [0, 2, 3, 4, 11], [(3, ⟨[(0, none), (3, some 2), (4, none)], []⟩)], [], x1t xs, [], noM, []⟩
noncomputable def q6a (xs : List q06) : Int := (↑(List.length xs) : Int)
def qLc (xs : List q06) (x : Nat × List q06) : Prop := ((Prod.fst x ≤ List.length xs) ∧ ((List.length x.2 = List.length xs) ∧ (∀ j : Nat, ((j < Prod.fst x) → (List.getD x.2 j default = List.getD xs j default)))))
noncomputable def qFU (xs : List q06) (x : Nat × List q06) : V := (q02 1 (List.getD xs (Int.toNat (↑x.1 : Int)) default))
theorem qYz (xs : List q06) (hpre : qOD xs) : q3H (qYF xs) Tryz.f90 [(0, 2)] [q0H (q02 1) 1 (xs)] [] (fun rr bs => VLe rr (qUM xs) ∧ q1d bs (qXY xs)) := by
 have key : ((((0 : Int) ≤ (q6a xs)) ∧ (((q6a xs) ≤ (q6a xs)) ∧ ((q6a xs) ≤ (↑1073741824 : Int)))) ∧ ((∃ x : Nat × List q06, ((SLe (AS.mk [(0, q0H (q02 1) 1 xs), (3, V.osl 32000256 (Int.toNat (q6a xs))), (4, vi 0)] [(32000256, Blk.arr 2 (Int.toNat (q6a xs)) (fun (x : Nat) ↦ V.agg [vi 0, vi 0]) 100)]) (AS.mk [(0, q0H (q02 1) 1 xs), (3, V.osl 32000256 (List.length xs)), (4, vi (↑x.1 : Int))] [(32000256, Blk.arr 2 (List.length xs) (gL (q02 1) x.2) 100)])) ∧ (qLc xs x))) ∧ (∀ x : Nat × List q06, ((qLc xs x) → (((decide ((↑x.1 : Int) < (q6a xs)) = true) → ((((0 : Int) ≤ (↑x.1 : Int)) ∧ ((↑x.1 : Int) < (q6a xs))) ∧ (((VLe (qFU xs x) (q02 1 (q08 (qFU xs x)))) ∧ (qP9 (q08 (qFU xs x)))) ∧ ((((0 : Int) ≤ (↑x.1 : Int)) ∧ ((↑x.1 : Int) < (q6a xs))) ∧ ((Int.toNat (↑x.1 : Int) < List.length xs) ∧ ((inK IntKind.i64 ((↑x.1 : Int) + (1 : Int))) ∧ (∃ y : Nat × List q06, ((SLe (AS.mk [(0, q0H (q02 1) 1 xs), (3, V.osl 32000256 (List.length xs)), (4, vi ((↑x.1 : Int) + (1 : Int)))] [(32000256, Blk.arr 2 (List.length xs) (q5d (gL (q02 1) x.2) (Int.toNat (↑x.1 : Int)) (q02 1 (q08 (qFU xs x)))) 100)]) (AS.mk [(0, q0H (q02 1) 1 xs), (3, V.osl 32000256 (List.length xs)), (4, vi (↑y.1 : Int))] [(32000256, Blk.arr 2 (List.length xs) (gL (q02 1) y.2) 100)])) ∧ (((Prod.fst y ≤ List.length xs) ∧ ((List.length y.2 = List.length xs) ∧ (∀ j : Nat, ((j < Prod.fst y) → (List.getD y.2 j default = List.getD xs j default))))) ∧ (List.length xs - Prod.fst y < List.length xs - Prod.fst x)))))))))) ∧ ((decide ((↑x.1 : Int) < (q6a xs)) = false) → ((VLe (V.osl 0 (List.length xs)) (V.osl 0 (List.length (qEI xs)))) ∧ ((BLe (Blk.arr 2 (List.length xs) (gL (q02 1) x.2) 100) (Blk.arr 2 (List.length (qEI xs)) (gL (q02 1) (qEI xs)) 100)) ∧ (True))))))))) := by
  delta qFU; delta qLc; delta q6a; delta vi
  unfold qOD q4I at hpre
  obtain ⟨hpre, hel⟩ := hpre
  refine ⟨⟨by omega, by omega, by omega⟩, ⟨(0, List.replicate xs.length default), ?_, by simp, by simp, fun j hj => absurd hj (Nat.not_lt_zero j)⟩, ?_⟩
  ·refine q1X ⟨rfl, VLe.refl _, rfl, VLe.refl _, rfl, VLe.refl _, trivial⟩ ⟨rfl, ?_, trivial⟩
   refine q1B (fun i hi => ?_) (Or.inl rfl)
   have hi' : i < xs.length := hi
   have e1 : gL (q02 1) (List.replicate xs.length default) i = (q02 1) default := by simp [gL, hi']
   rw [e1]
   exact qFA
  ·rintro ⟨i, ys⟩ ⟨hi, hl, hj⟩
   simp only at hi hl hj ⊢
   refine ⟨fun h => ?_, fun h => ?_⟩
   ·have hlt : i < xs.length := by simpa using h
    have hin : xs.getD i default ∈ xs := by simp [hlt]
    simp only [q1h, Int.toNat_natCast]
    refine ⟨⟨by omega, by omega⟩, ⟨VLe.refl _, hel _ hin⟩, ⟨by omega, by omega⟩, by simpa using hlt, q0U (by omega), (i + 1, ys.set i (xs.getD i default)), ?_, ⟨by simp only; omega, by simpa using hl, fun j h2 => ?_⟩, by simp only; omega⟩
    ·refine q1X ⟨rfl, VLe.refl _, rfl, VLe.refl _, rfl, q0J (by simp), trivial⟩ ⟨rfl, ?_, trivial⟩
     refine q1B (fun k hk => ?_) (Or.inl rfl)
     simp only [q2G, gL, Int.toNat_natCast]
     by_cases e : k = i
     ·subst e
      rw [if_pos rfl, q2S _ _ _ _ (by omega)]
      exact qGh _ _ _
     ·rw [if_neg e, q2X _ _ _ _ e]
      exact ELe.refl _
    ·simp only at h2 ⊢
     by_cases e : j = i
     ·subst e; rw [q2S _ _ _ _ (by omega)]
     ·rw [q2X _ _ _ _ e]; exact hj j (by omega)
   ·have hge : i = xs.length := by simp at h; omega
    refine ⟨VLe.refl _, q1B (fun k hk => ?_) (Or.inl rfl), trivial⟩
    show ELe _ (gL (q02 1) xs k)
    simp only [gL]
    rw [hj k (by omega)]
    exact ELe.refl _
 exact Eq.mp (by kernel_rfl) key
theorem x2k : q0T Tryz.prog 90 qRW := by
 refine q0V q1C (tpl := [(0, 2)]) Tryz.func90 rfl (by kernel_rfl) fun args bin ob r bout hDe hob => ?_
 unfold qRW at hDe
 split at hDe
 ·rename_i a0
  cases hDe
  exact okQ (qYz ((q0M q08) a0) (hob.2)) x12 (args_of_vles ⟨hob.1, trivial⟩) trivial
 ·cases hDe
def qNx (xs : List q0L) : Prop := xs.length ≤ q4I ∧ ∀ x ∈ xs, qNz x
noncomputable def qDd (xs : List q0L) : List q0L := xs
noncomputable def qW1 (xs : List q0L) : List Blk := [(.arr 5 (qDd xs).length (gL (q0A 1) (qDd xs)) q0i)]
noncomputable def qTy (xs : List q0L) : V := .osl 0 (qDd xs).length
noncomputable def qTE : q0G := fun args bin => match args, bin with
 | [a0], [] => some (VLe a0 (q0H (q0A 1) 1 (((q0M q0K) a0))) ∧ qNx ((q0M q0K) a0), qTy ((q0M q0K) a0), qW1 ((q0M q0K) a0))
 | _, _ => none
noncomputable def qSI (xs : List q0L) : q0O :=
 ⟨Nat × List q0L, fun p => ⟨[(0, q0H (q0A 1) 1 xs), (3, .osl (q1l 3) xs.length), (4, .int .i64 p.1)], [(q1l 3, .arr 5 xs.length (gL (q0A 1) p.2) q0i)]⟩,
  fun p => p.1 ≤ xs.length ∧ p.2.length = xs.length ∧ ∀ j, j < p.1 → p.2.getD j default = xs.getD j default, fun p => xs.length - p.1⟩
noncomputable def x0s (xs : List q0L) : Nat → Option q0O := fun rg_ => match rg_ with
 | 3 => some (qSI xs)
 | _ => none
noncomputable def x7B : Nat → Option (Fl × q0G) := lk [(155, (.ro, qQt))]
theorem x1P : q0D Tryz.prog x7B := q01 x5n (q07)
noncomputable def qZg (xs : List q0L) : Cx := ⟨tt, x7B, Tryz.f91.ntmps, [0, 2, 3, 4, 11], [(3, ⟨[(0, none), (3, some 5), (4, none)], []⟩)], [], x0s xs, [], noM, []⟩
noncomputable def q6X (xs : List q0L) : Int := (↑(List.length xs) : Int)
def qLx (xs : List q0L) (x : Nat × List q0L) : Prop := ((Prod.fst x ≤ List.length xs) ∧ ((List.length x.2 = List.length xs) ∧ (∀ j : Nat, ((j < Prod.fst x) → (List.getD x.2 j default = List.getD xs j default)))))
noncomputable def qFn (xs : List q0L) (x : Nat × List q0L) : V := (q0A 1 (List.getD xs (Int.toNat (↑x.1 : Int)) default))
theorem x2j (xs : List q0L) (hpre : qNx xs) : q3H (qZg xs) Tryz.f91 [(0, 5)] [q0H (q0A 1) 1 (xs)] [] (fun rr bs => VLe rr (qTy xs) ∧ q1d bs (qW1 xs)) := by
 have key : ((((0 : Int) ≤ (q6X xs)) ∧ (((q6X xs) ≤ (q6X xs)) ∧ ((q6X xs) ≤ (↑1073741824 : Int)))) ∧ ((∃ x : Nat × List q0L, ((SLe (AS.mk [(0, q0H (q0A 1) 1 xs), (3, V.osl 32000256 (Int.toNat (q6X xs))), (4, vi 0)] [(32000256, Blk.arr 5 (Int.toNat (q6X xs)) (fun (x : Nat) ↦ V.agg [vi 0, vi 0, vi 0, vi 0, V.str (ByteArray.mk #[])]) 100)]) (AS.mk [(0, q0H (q0A 1) 1 xs), (3, V.osl 32000256 (List.length xs)), (4, vi (↑x.1 : Int))] [(32000256, Blk.arr 5 (List.length xs) (gL (q0A 1) x.2) 100)])) ∧ (qLx xs x))) ∧ (∀ x : Nat × List q0L, ((qLx xs x) → (((decide ((↑x.1 : Int) < (q6X xs)) = true) → ((((0 : Int) ≤ (↑x.1 : Int)) ∧ ((↑x.1 : Int) < (q6X xs))) ∧ (((VLe (qFn xs x) (q0A 1 (q0K (qFn xs x)))) ∧ (qNz (q0K (qFn xs x)))) ∧ ((((0 : Int) ≤ (↑x.1 : Int)) ∧ ((↑x.1 : Int) < (q6X xs))) ∧ ((Int.toNat (↑x.1 : Int) < List.length xs) ∧ ((inK IntKind.i64 ((↑x.1 : Int) + (1 : Int))) ∧ (∃ y : Nat × List q0L, ((SLe (AS.mk [(0, q0H (q0A 1) 1 xs), (3, V.osl 32000256 (List.length xs)), (4, vi ((↑x.1 : Int) + (1 : Int)))] [(32000256, Blk.arr 5 (List.length xs) (q5d (gL (q0A 1) x.2) (Int.toNat (↑x.1 : Int)) (q0A 1 (q0K (qFn xs x)))) 100)]) (AS.mk [(0, q0H (q0A 1) 1 xs), (3, V.osl 32000256 (List.length xs)), (4, vi (↑y.1 : Int))] [(32000256, Blk.arr 5 (List.length xs) (gL (q0A 1) y.2) 100)])) ∧ (((Prod.fst y ≤ List.length xs) ∧ ((List.length y.2 = List.length xs) ∧ (∀ j : Nat, ((j < Prod.fst y) → (List.getD y.2 j default = List.getD xs j default))))) ∧ (List.length xs - Prod.fst y < List.length xs - Prod.fst x)))))))))) ∧ ((decide ((↑x.1 : Int) < (q6X xs)) = false) → ((VLe (V.osl 0 (List.length xs)) (V.osl 0 (List.length (qDd xs)))) ∧ ((BLe (Blk.arr 5 (List.length xs) (gL (q0A 1) x.2) 100) (Blk.arr 5 (List.length (qDd xs)) (gL (q0A 1) (qDd xs)) 100)) ∧ (True))))))))) := by
  delta qFn; delta qLx; delta q6X; delta vi
  unfold qNx q4I at hpre
  obtain ⟨hpre, hel⟩ := hpre
  refine ⟨⟨by omega, by omega, by omega⟩, ⟨(0, List.replicate xs.length default), ?_, by simp, by simp, fun j hj => absurd hj (Nat.not_lt_zero j)⟩, ?_⟩
  ·refine q1X ⟨rfl, VLe.refl _, rfl, VLe.refl _, rfl, VLe.refl _, trivial⟩ ⟨rfl, ?_, trivial⟩
   refine q1B (fun i hi => ?_) (Or.inl rfl)
   have hi' : i < xs.length := hi
   have e1 : gL (q0A 1) (List.replicate xs.length default) i = (q0A 1) default := by simp [gL, hi']
   rw [e1]
   exact qJm
  ·rintro ⟨i, ys⟩ ⟨hi, hl, hj⟩
   simp only at hi hl hj ⊢
   refine ⟨fun h => ?_, fun h => ?_⟩
   ·have hlt : i < xs.length := by simpa using h
    have hin : xs.getD i default ∈ xs := by simp [hlt]
    simp only [q1y, Int.toNat_natCast]
    refine ⟨⟨by omega, by omega⟩, ⟨VLe.refl _, hel _ hin⟩, ⟨by omega, by omega⟩, by simpa using hlt, q0U (by omega), (i + 1, ys.set i (xs.getD i default)), ?_, ⟨by simp only; omega, by simpa using hl, fun j h2 => ?_⟩, by simp only; omega⟩
    ·refine q1X ⟨rfl, VLe.refl _, rfl, VLe.refl _, rfl, q0J (by simp), trivial⟩ ⟨rfl, ?_, trivial⟩
     refine q1B (fun k hk => ?_) (Or.inl rfl)
     simp only [q2G, gL, Int.toNat_natCast]
     by_cases e : k = i
     ·subst e
      rw [if_pos rfl, q2S _ _ _ _ (by omega)]
      exact qN2 _ _ _
     ·rw [if_neg e, q2X _ _ _ _ e]
      exact ELe.refl _
    ·simp only at h2 ⊢
     by_cases e : j = i
     ·subst e; rw [q2S _ _ _ _ (by omega)]
     ·rw [q2X _ _ _ _ e]; exact hj j (by omega)
   ·have hge : i = xs.length := by simp at h; omega
    refine ⟨VLe.refl _, q1B (fun k hk => ?_) (Or.inl rfl), trivial⟩
    show ELe _ (gL (q0A 1) xs k)
    simp only [gL]
    rw [hj k (by omega)]
    exact ELe.refl _
 exact Eq.mp (by kernel_rfl) key
theorem x1G : q0T Tryz.prog 91 qTE := by
 refine q0V q1C (tpl := [(0, 5)]) Tryz.func91 rfl (by kernel_rfl) fun args bin ob r bout hDe hob => ?_
 unfold qTE at hDe
 split at hDe
 ·rename_i a0
  cases hDe
  exact okQ (x2j ((q0M q0K) a0) (hob.2)) x1P (args_of_vles ⟨hob.1, trivial⟩) trivial
 ·cases hDe
def qP5 (s : q05) : Prop := s.nodes.length ≤ q4I ∧ s.sessions.length ≤ q4I ∧ s.marks.length ≤ q4I
noncomputable def q4x (s : q05) : q05 := s
noncomputable def qVa (s : q05) : List Blk := [(.arr 5 ((q4x s).nodes).length (gL (q00 1) ((q4x s).nodes)) q0i), (.arr 2 ((q4x s).sessions).length (gL (q02 1) ((q4x s).sessions)) q0i), (.arr 5 ((q4x s).marks).length (gL (q0A 1) ((q4x s).marks)) q0i)]
noncomputable def qVp (s : q05) : V := .agg [.osl 0 ((q4x s).nodes).length, .osl 1 ((q4x s).sessions).length, .int .i64 ((q4x s).now), .osl 2 ((q4x s).marks).length]
noncomputable def qSB : q0G := fun args bin => match args, bin with
 | [a0], [] => some (VLe a0 (q0C 1 ((q0B a0))) ∧ qP5 (q0B a0), qVp (q0B a0), qVa (q0B a0))
 | _, _ => none
noncomputable def x6k : Nat → Option (Fl × q0G) := lk [(89, (.ro, qRJ)), (90, (.ro, qRW)), (91, (.ro, qTE))]
theorem x13 : q0D Tryz.prog x6k := q01 x4m (q01 x2k (q01 x1G (q07)))
noncomputable def x18 (s : q05) : Cx := ⟨tt, x6k, Tryz.f34.ntmps, [0, 1, 2, 3], [], [], fun _ => none, [], noM, []⟩
noncomputable def qC3 (s : q05) : List q06 := (q0M q08 (q0H (q02 1) 1 (q05.sessions s)))
noncomputable def qCW (s : q05) : List q03 := (q0M q04 (q0H (q00 1) 1 (q05.nodes s)))
noncomputable def qBu (s : q05) : List q0L := (q0M q0K (q0H (q0A 1) 1 (q05.marks s)))
theorem x5Y (s : q05) (hpre : qP5 s) : q3H (x18 s) Tryz.f34 [(0, 5), (1, 2), (3, 5)] [q0C 1 (s)] [] (fun rr bs => VLe rr (qVp s) ∧ q1d bs (qVa s)) := by
 have key : (((VLe (q0H (q00 1) 1 (q05.nodes s)) (q0H (q00 1) 1 (qCW s))) ∧ (qPg (qCW s))) ∧ (((VLe (q0H (q02 1) 1 (q05.sessions s)) (q0H (q02 1) 1 (qC3 s))) ∧ (qOD (qC3 s))) ∧ (((VLe (q0H (q0A 1) 1 (q05.marks s)) (q0H (q0A 1) 1 (qBu s))) ∧ (qNx (qBu s))) ∧ ((VLe (V.agg [V.osl 0 (List.length (qEK (qCW s))), V.osl 1 (List.length (qEI (qC3 s))), vi (q05.now s), V.osl 2 (List.length (qDd (qBu s)))]) (V.agg [V.osl 0 (List.length (q05.nodes (q4x s))), V.osl 1 (List.length (q05.sessions (q4x s))), vi (q05.now (q4x s)), V.osl 2 (List.length (q05.marks (q4x s)))])) ∧ ((BLe (Blk.arr 5 (List.length (qEK (qCW s))) (gL (q00 1) (qEK (qCW s))) 100) (Blk.arr 5 (List.length (q05.nodes (q4x s))) (gL (q00 1) (q05.nodes (q4x s))) 100)) ∧ ((BLe (Blk.arr 2 (List.length (qEI (qC3 s))) (gL (q02 1) (qEI (qC3 s))) 100) (Blk.arr 2 (List.length (q05.sessions (q4x s))) (gL (q02 1) (q05.sessions (q4x s))) 100)) ∧ ((BLe (Blk.arr 5 (List.length (qDd (qBu s))) (gL (q0A 1) (qDd (qBu s))) 100) (Blk.arr 5 (List.length (q05.marks (q4x s))) (gL (q0A 1) (q05.marks (q4x s))) 100)) ∧ (True)))))))) := by
  delta qBu; delta qCW; delta qC3; delta vi
  obtain ⟨hn, hs, hk⟩ := hpre
  simp only [q0s, q19, q4d]
  exact ⟨⟨VLe.refl _, hn, fun _ _ => trivial⟩, ⟨VLe.refl _, hs, fun _ _ => trivial⟩, ⟨VLe.refl _, hk, fun _ _ => trivial⟩, VLe.refl _, BLe.refl _, BLe.refl _, BLe.refl _, trivial⟩
 exact Eq.mp (by kernel_rfl) key
theorem qZ6 : q0T Tryz.prog 34 qSB := by
 refine q0V q1C (tpl := [(0, 5), (1, 2), (3, 5)]) Tryz.func34 rfl (by kernel_rfl) fun args bin ob r bout hDe hob => ?_
 unfold qSB at hDe
 split at hDe
 ·rename_i a0
  cases hDe
  exact okQ (x5Y (q0B a0) (hob.2)) x13 (args_of_vles ⟨hob.1, trivial⟩) trivial
 ·cases hDe
def qXx (x : TOp) : Prop := True
noncomputable def x6z (x : TOp) : V := q1E 2 (x)
noncomputable def x3W : q0G := fun args bin => match args, bin with
 | [a0], [] => some (VLe a0 (q1E 1 ((q17 a0))) ∧ qXx (q17 a0), x6z (q17 a0), [])
 | _, _ => none
noncomputable def D50 : Nat → Option (Fl × q0G) := lk []
theorem x8l : q0D Tryz.prog D50 := q07
noncomputable def x9X (x : TOp) : Cx := ⟨tt, D50, Tryz.f50.ntmps, [0, 1, 2, 3], [], [], fun _ => none, [], noM, []⟩
theorem x9P (x : TOp) (hpre : qXx x) : q0f (x9X x) Tryz.f50 1 [q1E 1 (x)] (fun rr => VLe rr (x6z x)) := by
 have key : (VLe (q1E 1 x) (q1E 1 x)) := by
  exact q4u ⟨VLe.refl _, VLe.refl _, VLe.refl _, VLe.refl _, VLe.refl _, VLe.refl _, trivial⟩
 exact Eq.mp (by kernel_rfl) key
theorem x8z : q0T Tryz.prog 50 x3W := by
 refine q09 q1C (pol := 1) Tryz.func50 rfl (by kernel_rfl) fun args bin ob r bout hDe hob => ?_
 unfold x3W at hDe
 split at hDe
 ·rename_i a0
  cases hDe
  exact okB (x9P (q17 a0) (hob.2)) x8l (args_of_vles ⟨hob.1, trivial⟩)
 ·cases hDe
def qXz (x : TOp) (left : Int) : Prop := 0 ≤ left ∧ left ≤ q4I ∧ x.bd
noncomputable def x7q (x : TOp) (left : Int) : V := .int .i64 (q2J x.path.size left)
noncomputable def x5p : q0G := fun args bin => match args, bin with
 | [a0, .int .i64 a1], [] => some (VLe a0 (q1E 1 ((q17 a0))) ∧ qXz (q17 a0) a1, x7q (q17 a0) a1, [])
 | _, _ => none
noncomputable def D49 : Nat → Option (Fl × q0G) := lk []
theorem x8c : q0D Tryz.prog D49 := q07
noncomputable def x8b (x : TOp) (left : Int) : Cx := ⟨tt, D49, Tryz.f49.ntmps, [0, 1, 2, 4, 11], [], [], fun _ => none, [], noM, []⟩
noncomputable def qGN (x : TOp) : Nat := (ByteArray.size (TOp.path x))
theorem x8W (x : TOp) (left : Int) (hpre : qXz x left) : q0f (x8b x left) Tryz.f49 0 [q1E 1 (x), .int .i64 (left)] (fun rr => VLe rr (x7q x left)) := by
 have key : ((inK IntKind.i64 (left - (↑(qGN x) : Int))) ∧ (((decide (left - (↑(qGN x) : Int) < (0 : Int)) = true) → (VLe (vi (-1)) (vi (q2J (qGN x) left)))) ∧ ((decide (left - (↑(qGN x) : Int) < (0 : Int)) = false) → (VLe (vi (left - (↑(qGN x) : Int))) (vi (q2J (qGN x) left)))))) := by
  delta qGN; delta vi
  obtain ⟨h0, hm, hb⟩ := hpre
  unfold q4I at hm
  unfold TOp.bd maxLen at hb
  refine ⟨q0U (by omega), fun h => ?_, fun h => ?_⟩
  ·exact q0J (by unfold q2J; rw [if_pos (of_decide_eq_true h)])
  ·exact q0J (by unfold q2J; rw [if_neg (of_decide_eq_false h)])
 exact Eq.mp (by kernel_rfl) key
theorem x9M : q0T Tryz.prog 49 x5p := by
 refine q09 q1C (pol := 0) Tryz.func49 rfl (by kernel_rfl) fun args bin ob r bout hDe hob => ?_
 unfold x5p at hDe
 split at hDe
 ·rename_i a0 a1
  cases hDe
  exact okB (x8W (q17 a0) a1 (hob.2)) x8c (args_of_vles ⟨hob.1, VLe.refl _, trivial⟩)
 ·cases hDe
theorem qOY (c rc rv t k k1 k2 : Int) (p : ByteArray) (n m l : Nat) : q0P (.agg [.int .i64 c, .int .i64 rc, .int .i64 rv, .str p, .sl n (gL (q00 1) (zMk k n)) 1, .sl m (gL (q02 1) (q77 k1 m)) 1, .int .i64 t, .sl l (gL (q0A 1) (q7D k2 l)) 1]) = ⟨c, ⟨rc, rv, p⟩, ⟨zMk k n, q77 k1 m, t, q7D k2 l⟩⟩ := by
 show (⟨c, ⟨rc, rv, p⟩, ⟨q0M q04 (.sl n (gL (q00 1) (zMk k n)) 1), q0M q08 (.sl m (gL (q02 1) (q77 k1 m)) 1), t, q0M q0K (.sl l (gL (q0A 1) (q7D k2 l)) 1)⟩⟩ : q0N) = _
 rw [qPb, qMd, qNc]
theorem qPT (c rc rv t k k1 k2 : Int) (p : ByteArray) (n m l : Nat) : VLe (.agg [.int .i64 c, .int .i64 rc, .int .i64 rv, .str p, .sl n (gL (q00 1) (zMk k n)) 1, .sl m (gL (q02 1) (q77 k1 m)) 1, .int .i64 t, .sl l (gL (q0A 1) (q7D k2 l)) 1]) (q0b 1 ⟨c, ⟨rc, rv, p⟩, ⟨zMk k n, q77 k1 m, t, q7D k2 l⟩⟩) :=
 q4u ⟨VLe.refl _, VLe.refl _, VLe.refl _, VLe.refl _, qSV k n 1, qPM k1 m 1, VLe.refl _, qPQ k2 l 1, trivial⟩
theorem qLF (k t : Int) (n m l : Nat) : q2j ⟨zMk k n, q77 (k + 5 * n) m, t, q7D (k + 5 * n + 2 * m) l⟩ k = k + 5 * n + 2 * m + 5 * l := by
 unfold q2j qDZ
 simp
set_option maxHeartbeats 16000000
theorem qJ2 (s : q05) (c : Int) (o : TOp) : (q3P s c o).state.nodes.length ≤ 1000 ∧ (q3P s c o).state.sessions.length ≤ 1000 ∧ (q3P s c o).state.marks.length ≤ 1000 := by
 unfold q3P
 split
 ·exact ⟨Nat.zero_le _, Nat.zero_le _, Nat.zero_le _⟩
 rename_i g1
 split
 ·exact ⟨Nat.zero_le _, Nat.zero_le _, Nat.zero_le _⟩
 split
 ·exact ⟨Nat.zero_le _, Nat.zero_le _, Nat.zero_le _⟩
 ·obtain ⟨f1, f2, f3, f4⟩ := q7e (Classical.not_not.1 g1)
  have g1 := (q2L f1).1
  have g2 := (q9H f2).1
  obtain ⟨a1, a2, a3⟩ := qLe s c o
  refine ⟨?_, ?_, ?_⟩
  ·show (doS s c o).nodes.length ≤ 1000
   omega
  ·show (doS s c o).sessions.length ≤ 1000
   omega
  ·show (doS s c o).marks.length ≤ 1000
   rw [a3]
   omega
theorem qGM (s : q05) (left : Int) (h : 0 ≤ left) : q2Q s left ≤ left := by
 unfold q2Q
 have t1 := qDC q6j s.nodes left
 have t2 := q7s s.sessions.length (szS q15 s.nodes left)
 have t3 := qDC qGG s.marks (q2J s.sessions.length (szS q15 s.nodes left))
 split
 ·omega
 split
 ·omega
 split
 ·omega
 ·omega
def pr8 (s : q05) (c : Int) (o : TOp) : Prop := s.bd ∧ (Lit.int .i64 c).wf = true ∧ o.bd
noncomputable def rs8 (s : q05) (c : Int) (o : TOp) : V := .bool (true)
def Q8 (vs : List V) : Prop := ∃ (s : q05) (c : Int) (o : TOp), q4E vs [q0C 1 (s), .int .i64 (c), q1E 1 (o)] ∧ pr8 s c o
noncomputable def D8 : Nat → Option (Fl × q0G) := lk [(31, (.ro, x2p)), (49, (.ro, x5p)), (34, (.ro, qSB)), (50, (.ro, x3W)), (44, (.ro, x2e)), (43, (.ro, qR9)), (17, (.ro, qZj)), (37, (.ro, qOX)), (39, (.rw, qXn)), (20, (.rw, x2z)), (21, (.ro, x2f))]
theorem da8 : q0D Tryz.prog D8 := q01 x8u (q01 x9M (q01 qZ6 (q01 x8z (q01 x9U (q01 qZX (q01 x91 (q01 qX2 (q01 x7k (q01 x8v (q01 x8g (q07)))))))))))
noncomputable def cx8 (s : q05) (c : Int) (o : TOp) : Cx := ⟨tt, D8, Tryz.f8.ntmps, [0, 1, 2, 3, 5, 6, 7, 8, 9, 10, 11, 12, 13, 14, 19, 24, 41, 46, 57, 65, 68, 78, 83, 86], [], [], fun _ => none, [], noM, []⟩
noncomputable def qVb (s : q05) : q05 := (q4x (q0B (q0C 1 s)))
noncomputable def q8m (s : q05) : V := (q0C 1 (qVb s))
noncomputable def qMu (o : TOp) : V := (q1E 1 (q17 (q1E 1 o)))
noncomputable def qRX (s : q05) (c : Int) (o : TOp) : q0N := (q4v (q0B (q8m s)) c (q17 (qMu o)))
noncomputable def qUV (s : q05) (c : Int) (o : TOp) : q05 := (q0N.state (qRX s c o))
noncomputable def q7a (s : q05) (c : Int) (o : TOp) : List q03 := (q05.nodes (qUV s c o))
noncomputable def q8T (s : q05) (c : Int) (o : TOp) : List q06 := (q05.sessions (qUV s c o))
noncomputable def q9D (s : q05) (c : Int) (o : TOp) : List q0L := (q05.marks (qUV s c o))
noncomputable def qVS (s : q05) (c : Int) (o : TOp) : V := (V.agg [vi (q0N.code (qRX s c o)), vi (q0W.code (q0N.reply (qRX s c o))), vi (q0W.value (q0N.reply (qRX s c o))), V.str (q0W.path (q0N.reply (qRX s c o))), V.sl (List.length (q7a s c o)) (gL (q00 1) (zMk (1 : Int) (List.length (q7a s c o)))) 1, V.sl (List.length (q8T s c o)) (gL (q02 1) (q77 ((1 : Int) + (5 : Int) * (↑(List.length (q7a s c o)) : Int)) (List.length (q8T s c o)))) 1, vi (q05.now (qUV s c o)), V.sl (List.length (q9D s c o)) (gL (q0A 1) (q7D ((1 : Int) + (5 : Int) * (↑(List.length (q7a s c o)) : Int) + (2 : Int) * (↑(List.length (q8T s c o)) : Int)) (List.length (q9D s c o)))) 1])
noncomputable def qOv (s : q05) (c : Int) (o : TOp) : V := (q0b 1 (q3P (q0B (q8m s)) c (q17 (qMu o))))
noncomputable def qDe (s : q05) (c : Int) (o : TOp) : V := (q0b 1 (qRX s c o))
def qXu (s : q05) (c : Int) (o : TOp) : Prop := ((VLe (qDe s c o) (q0b 1 (q0P (qDe s c o)))) ∧ ((VLe (qOv s c o) (q0b 1 (q0P (qOv s c o)))) ∧ (qY5 (q0P (qDe s c o)) (q0P (qOv s c o)))))
noncomputable def qGU (s : q05) (c : Int) (o : TOp) : q05 := (q0N.state (q0P (qVS s c o)))
def qG3 : Prop := (VLe (V.bool false) (V.bool true))
def x3V (s : q05) (c : Int) (o : TOp) : Prop := (((q2j (qGU s c o) (1 : Int) != (1 : Int) + (5 : Int) * (↑(List.length (q7a s c o)) : Int) + (2 : Int) * (↑(List.length (q8T s c o)) : Int) + (5 : Int) * (↑(List.length (q9D s c o)) : Int)) = true) → qG3)
def qXU (s : q05) : Prop := ((VLe (q0C 1 s) (q0C 1 (q0B (q0C 1 s)))) ∧ (qP5 (q0B (q0C 1 s))))
def qUI (s : q05) : Prop := (VLe (q8m s) (q0C 1 (q0B (q8m s))))
def qRA (s : q05) (c : Int) (o : TOp) : Prop := ((q2j (qGU s c o) (1 : Int) != (1 : Int) + (5 : Int) * (↑(List.length (q7a s c o)) : Int) + (2 : Int) * (↑(List.length (q8T s c o)) : Int) + (5 : Int) * (↑(List.length (q9D s c o)) : Int)) = false)
noncomputable def qE5 (s : q05) : List q06 := (q05.sessions (qVb s))
noncomputable def qDw (s : q05) : List q03 := (q05.nodes (qVb s))
noncomputable def qG5 (s : q05) : Nat := (List.length (qDw s))
noncomputable def qF9 (s : q05) : Nat := (List.length (qE5 s))
noncomputable def qD5 (s : q05) : List q0L := (q05.marks (qVb s))
noncomputable def qEv (s : q05) : Nat := (List.length (qD5 s))
def qTQ (s : q05) : Prop := ((!decide ((1 : Int) + (5 : Int) * (↑(qG5 s) : Int) + (2 : Int) * (↑(qF9 s) : Int) + (5 : Int) * (↑(qEv s) : Int) < (0 : Int))) = true)
def qOQ (o : TOp) : Prop := ((VLe (q1E 1 o) (qMu o)) ∧ (qXx (q17 (q1E 1 o))))
def qRL (s : q05) (c : Int) (o : TOp) : Prop := ((VLe (qVS s c o) (q0b 1 (q0P (qVS s c o)))) ∧ (qUf (q0P (qVS s c o)) (1 : Int)))
def qTK (s : q05) (c : Int) (o : TOp) : Prop := ((qUI s) ∧ ((VLe (qMu o) (q1E 1 (q17 (qMu o)))) ∧ (qOh (q0B (q8m s)) c (q17 (qMu o)))))
theorem bd8 (s : q05) (c : Int) (o : TOp) (hpre : pr8 s c o) : q0f (cx8 s c o) Tryz.f8 0 [q0C 1 (s), .int .i64 (c), q1E 1 (o)] (fun rr => VLe rr (rs8 s c o)) := by
 have key : (((VLe (q0C 1 s) (q0C 1 (q0B (q0C 1 s)))) ∧ (x5q (q0B (q0C 1 s)) (1048576 : Int))) ∧ (((decide (q2Q (q0B (q0C 1 s)) (1048576 : Int) < (0 : Int)) = true) → (VLe (V.bool true) (V.bool true))) ∧ ((decide (q2Q (q0B (q0C 1 s)) (1048576 : Int) < (0 : Int)) = false) → (((VLe (q1E 1 o) (qMu o)) ∧ (qXz (q17 (q1E 1 o)) (q2Q (q0B (q0C 1 s)) (1048576 : Int)))) ∧ (((decide (q2J (ByteArray.size (TOp.path (q17 (q1E 1 o)))) (q2Q (q0B (q0C 1 s)) (1048576 : Int)) < (0 : Int)) = true) → (VLe (V.bool true) (V.bool true))) ∧ ((decide (q2J (ByteArray.size (TOp.path (q17 (q1E 1 o)))) (q2Q (q0B (q0C 1 s)) (1048576 : Int)) < (0 : Int)) = false) → ((qXU s) ∧ ((qOQ o) ∧ (((qUI s) ∧ ((VLe (qMu o) (q1E 1 (q17 (qMu o)))) ∧ (qY6 (q0B (q8m s)) c (q17 (qMu o))))) ∧ ((qXU s) ∧ ((qOQ o) ∧ ((qTK s c o) ∧ ((qXu s c o) ∧ ((((!decide (q0P (qDe s c o) = q0P (qOv s c o))) = true) → qG3) ∧ (((!decide (q0P (qDe s c o) = q0P (qOv s c o))) = false) → ((qXU s) ∧ (((qUI s) ∧ ((qUI s) ∧ (qKI (q0B (q8m s)) (q0B (q8m s))))) ∧ ((((!decide (q0B (q8m s) = q0B (q8m s))) = true) → qG3) ∧ (((!decide (q0B (q8m s) = q0B (q8m s))) = false) → ((((0 = 0) ∧ ((5 = 5) ∧ ((100 = 100) ∧ ((List.length (qDw s) = List.length (qDw s)) ∧ (∃ y : List q03, ((List.length y = List.length (qDw s)) ∧ (∀ i : Nat, ((i < List.length (qDw s)) → (ELe (q00 1 (List.getD (qDw s) i default)) (q00 1 (List.getD y i default))))))))))) ∧ (((1 = 1) ∧ ((2 = 2) ∧ ((100 = 100) ∧ ((List.length (qE5 s) = List.length (qE5 s)) ∧ (∃ y : List q06, ((List.length y = List.length (qE5 s)) ∧ (∀ i : Nat, ((i < List.length (qE5 s)) → (ELe (q02 1 (List.getD (qE5 s) i default)) (q02 1 (List.getD y i default))))))))))) ∧ (((2 = 2) ∧ ((5 = 5) ∧ ((100 = 100) ∧ ((List.length (qD5 s) = List.length (qD5 s)) ∧ (∃ y : List q0L, ((List.length y = List.length (qD5 s)) ∧ (∀ i : Nat, ((i < List.length (qD5 s)) → (ELe (q0A 1 (List.getD (qD5 s) i default)) (q0A 1 (List.getD y i default))))))))))) ∧ (qTj (qG5 s) (qF9 s) (qEv s) (1 : Int))))) ∧ ((List.length (qDw s) = List.length (qDw s)) ∧ ((List.length (qE5 s) = List.length (qE5 s)) ∧ ((List.length (qD5 s) = List.length (qD5 s)) ∧ ((tq (!decide ((1 : Int) + (5 : Int) * (↑(qG5 s) : Int) + (2 : Int) * (↑(qF9 s) : Int) + (5 : Int) * (↑(qEv s) : Int) < (0 : Int)))) ∧ ((tq (!decide ((1 : Int) + (5 : Int) * (↑(qG5 s) : Int) + (2 : Int) * (↑(qF9 s) : Int) + (5 : Int) * (↑(qEv s) : Int) < (0 : Int)))) ∧ (((qTQ s) → (qXu s c o)) ∧ ((tq (!decide ((1 : Int) + (5 : Int) * (↑(qG5 s) : Int) + (2 : Int) * (↑(qF9 s) : Int) + (5 : Int) * (↑(qEv s) : Int) < (0 : Int)))) ∧ (((true = true) → ((decide ((1 : Int) + (5 : Int) * (↑(qG5 s) : Int) + (2 : Int) * (↑(qF9 s) : Int) + (5 : Int) * (↑(qEv s) : Int) < (0 : Int)) = false) → (qTQ s))) ∧ (∀ b : Bool, ((b = bif decide ((1 : Int) + (5 : Int) * (↑(qG5 s) : Int) + (2 : Int) * (↑(qF9 s) : Int) + (5 : Int) * (↑(qEv s) : Int) < (0 : Int)) then true else !decide (q0P (qDe s c o) = q0P (qOv s c o))) → (((b = true) → qG3) ∧ ((b = false) → ((((0 = 0) ∧ ((5 = 5) ∧ ((100 = 100) ∧ ((List.length (q7a s c o) = List.length (q7a s c o)) ∧ (∃ y : List q03, ((List.length y = List.length (q7a s c o)) ∧ (∀ i : Nat, ((i < List.length (q7a s c o)) → (ELe (q00 1 (List.getD (q7a s c o) i default)) (q00 1 (List.getD y i default))))))))))) ∧ (((1 = 1) ∧ ((2 = 2) ∧ ((100 = 100) ∧ ((List.length (q8T s c o) = List.length (q8T s c o)) ∧ (∃ y : List q06, ((List.length y = List.length (q8T s c o)) ∧ (∀ i : Nat, ((i < List.length (q8T s c o)) → (ELe (q02 1 (List.getD (q8T s c o) i default)) (q02 1 (List.getD y i default))))))))))) ∧ (((2 = 2) ∧ ((5 = 5) ∧ ((100 = 100) ∧ ((List.length (q9D s c o) = List.length (q9D s c o)) ∧ (∃ y : List q0L, ((List.length y = List.length (q9D s c o)) ∧ (∀ i : Nat, ((i < List.length (q9D s c o)) → (ELe (q0A 1 (List.getD (q9D s c o) i default)) (q0A 1 (List.getD y i default))))))))))) ∧ (qVy (List.length (q7a s c o)) (List.length (q8T s c o)) (List.length (q9D s c o)) (1 : Int))))) ∧ ((List.length (q7a s c o) = List.length (q7a s c o)) ∧ ((List.length (q8T s c o) = List.length (q8T s c o)) ∧ ((List.length (q9D s c o) = List.length (q9D s c o)) ∧ ((qRL s c o) ∧ (((decide (q2j (qGU s c o) (1 : Int) < (0 : Int)) = true) → qG3) ∧ ((decide (q2j (qGU s c o) (1 : Int) < (0 : Int)) = false) → ((x3V s c o) ∧ ((qRA s c o) → ((qXU s) ∧ ((qOQ o) ∧ ((qTK s c o) ∧ ((qXu s c o) ∧ ((((!decide (q0P (qDe s c o) = q0P (qOv s c o))) = true) → qG3) ∧ (((!decide (q0P (qDe s c o) = q0P (qOv s c o))) = false) → ((qRL s c o) ∧ (((decide (q2j (qGU s c o) (1 : Int) < (0 : Int)) = true) → qG3) ∧ ((decide (q2j (qGU s c o) (1 : Int) < (0 : Int)) = false) → ((x3V s c o) ∧ ((qRA s c o) → (VLe (V.bool true) (V.bool true)))))))))))))))))))))))))))))))))))))))))))))))))))))) := by
  delta qTK; delta qRL; delta qOQ; delta qTQ; delta qEv; delta qD5; delta qF9; delta qG5; delta qDw; delta qE5; delta qRA; delta qUI; delta qXU; delta x3V; delta qG3; delta qGU; delta qXu; delta qDe; delta qOv; delta qVS; delta q9D; delta q8T; delta q7a; delta qUV; delta qRX; delta qMu; delta q8m; delta qVb; delta vi
  obtain ⟨hb, hc, ho⟩ := hpre
  have f1 := @qJG s 1048576
  have f2 := qGM s 1048576 (by omega)
  have hv : ∀ v, VLe v v := VLe.refl
  simp only [q2D, q5K]
  refine ⟨⟨VLe.refl _, by omega, by unfold q4I; omega, hb⟩, fun h => VLe.refl _, fun h => ?_⟩
  obtain ⟨l1, l2, l3⟩ := f1 (by omega) (of_decide_eq_false h)
  have h0 := of_decide_eq_false h
  have k1 : qXz o (q2Q s 1048576) := ⟨by omega, by unfold q4I; omega, ho⟩
  refine ⟨⟨VLe.refl _, k1⟩, fun h => VLe.refl _, fun h => ?_⟩
  have hl := qJ2 s c o
  have p1 : qP5 s := ⟨by unfold q4I; omega, by unfold q4I; omega, by unfold q4I; omega⟩
  have p2 : qKI s s := ⟨by unfold maxLen; omega, by unfold maxLen; omega, by unfold maxLen; omega⟩
  have p3 : qXx o := trivial
  have p4 : qY6 s c o := hb
  have p5 : qOh s c o := hb
  have p6 : qTj s.nodes.length s.sessions.length s.marks.length 1 := ⟨by omega, by omega⟩
  have q1 : decide (1 + 5 * (s.nodes.length : Int) + 2 * (s.sessions.length : Int) + 5 * (s.marks.length : Int) < 0) = false := by simp; omega
  clear f1 f2 h
  simp only [q4y, q4x, q4v, qOY, qLF, qGk, qDL, qDQ, q1]
  generalize q3P s c o = W at *
  have r1 : qY5 W W := ⟨by unfold maxLen; omega, by unfold maxLen; omega, by unfold maxLen; omega⟩
  have r2 : qVy W.state.nodes.length W.state.sessions.length W.state.marks.length 1 := ⟨by omega, by omega⟩
  have r3 : qUf ⟨W.code, W.reply, ⟨zMk 1 W.state.nodes.length, q77 (1 + 5 * W.state.nodes.length) W.state.sessions.length, W.state.now, q7D (1 + 5 * W.state.nodes.length + 2 * W.state.sessions.length) W.state.marks.length⟩⟩ 1 := ⟨by omega, by simp; omega⟩
  have q2 : decide (1 + 5 * (W.state.nodes.length : Int) + 2 * (W.state.sessions.length : Int) + 5 * (W.state.marks.length : Int) < 0) = false := by simp; omega
  simp [hv, p1, p2, p3, p4, p5, p6, r1, r2, r3, q2]
  exact ⟨⟨⟨s.nodes, rfl, fun _ _ => ELe.refl _⟩, ⟨s.sessions, rfl, fun _ _ => ELe.refl _⟩, ⟨s.marks, rfl, fun _ _ => ELe.refl _⟩⟩, q1, fun _ => ⟨⟨⟨W.state.nodes, rfl, fun _ _ => ELe.refl _⟩, ⟨W.state.sessions, rfl, fun _ _ => ELe.refl _⟩, ⟨W.state.marks, rfl, fun _ _ => ELe.refl _⟩⟩, qPT _ _ _ _ _ _ _ _ _ _ _⟩⟩
 exact Eq.mp (by kernel_rfl) key
theorem so8 : q0T Tryz.prog 8 (x6u Q8) := by
 refine q09 q1C (pol := 0) Tryz.func8 rfl (by kernel_rfl) fun args bin ob r bout hDe hob => ?_
 unfold x6u at hDe
 split at hDe
 ·cases hDe
  obtain ⟨s, c, o, hle, hpre⟩ := hob
  have hlen : args.length = 3 := hle.1.symm
  exact ⟨rfl, rfl, by rw [hlen]; exact Nat.le_of_ble_eq_true (by kernel_rfl), cx8 s c o, Eq.mp (by kernel_rfl) htt, Eq.mp (by kernel_rfl) da8, Eq.mp (by kernel_rfl) (q2K (P := Tryz.prog)), by kernel_rfl, _, hle, Eq.mp (by kernel_rfl) (bd8 s c o hpre)⟩
 ·cases hDe
theorem qJe : Tyd Tryz.prog 7 192 true (q00 1) q03.bd :=
 q4Y Tryz.underlying192 (q1G (qGn Tryz.underlying9) (q1G (q3B Tryz.underlying2) (q1G (q3B Tryz.underlying2) (q1G (q3B Tryz.underlying2) (q1G (q3B Tryz.underlying2) q6o))))) (fun y => ⟨y.1, y.2.1, y.2.2.1, y.2.2.2.1, y.2.2.2.2.1⟩) (fun _ => rfl) (fun y h => h.1) (fun x => ⟨_, rfl⟩)
theorem qFX : Tyd Tryz.prog 7 202 true (q02 1) (fun _ => True) :=
 q4Y Tryz.underlying202 (q1G (q3B Tryz.underlying2) (q1G (q3B Tryz.underlying2) q6o)) (fun y => ⟨y.1, y.2.1⟩) (fun _ => rfl) (fun y h => trivial) (fun x => ⟨_, rfl⟩)
theorem qJi : Tyd Tryz.prog 6 194 true (q0S 1) q0W.bd :=
 q4Y Tryz.underlying194 (q1G (q3B Tryz.underlying2) (q1G (q3B Tryz.underlying2) (q1G (qGn Tryz.underlying9) q6o))) (fun y => ⟨y.1, y.2.1, y.2.2.1⟩) (fun _ => rfl) (fun y h => h.2.2.1) (fun x => ⟨_, rfl⟩)
theorem qJ4 : Tyd Tryz.prog 7 196 true (q0A 1) q0L.bd :=
 q4Y Tryz.underlying196 (q1G (q3B Tryz.underlying2) (q1G (q3B Tryz.underlying2) (q1G qJi q6o))) (fun y => ⟨y.1, y.2.1, y.2.2.1⟩) (fun _ => rfl) (fun y h => h.2.2.1) (fun x => ⟨_, rfl⟩)
theorem qGb : Tyd Tryz.prog 9 58 true (q0C 1) q05.bd :=
 q4Y Tryz.underlying58 (q1G (qA2 Tryz.underlying54 (by kernel_rfl) qJe) (q1G (qA2 Tryz.underlying55 (by kernel_rfl) qFX) (q1G (q3B Tryz.underlying2) (q1G (qA2 Tryz.underlying56 (by kernel_rfl) qJ4) q6o)))) (fun y => ⟨y.1, y.2.1, y.2.2.1, y.2.2.2.1⟩) (fun _ => rfl) (fun y h => ⟨h.1, h.2.1.1, h.2.2.2.1⟩) (fun x => ⟨_, rfl⟩)
theorem ta_TState : Tyd Tryz.prog 9 58 true (q0C 1) q05.bd := qGb
theorem ta_int : Tyd Tryz.prog 9 2 false (fun x : Int => .int .i64 x) (fun x => (Lit.int .i64 x).wf = true) := (q3B Tryz.underlying2)
theorem qOP : Tyd Tryz.prog 9 87 true (q1E 1) TOp.bd :=
 q4Y Tryz.underlying87 (q1G (q3B Tryz.underlying2) (q1G (qGn Tryz.underlying9) (q1G (q3B Tryz.underlying2) (q1G (q3B Tryz.underlying2) (q1G (qHu Tryz.underlying4) (q1G (qHu Tryz.underlying4) q6o)))))) (fun y => ⟨y.1, y.2.1, y.2.2.1, y.2.2.2.1, y.2.2.2.2.1, y.2.2.2.2.2.1⟩) (fun _ => rfl) (fun y h => h.2.1) (fun x => ⟨_, rfl⟩)
theorem ta_TOp : Tyd Tryz.prog 9 87 true (q1E 1) TOp.bd := qOP
end Go.Av
