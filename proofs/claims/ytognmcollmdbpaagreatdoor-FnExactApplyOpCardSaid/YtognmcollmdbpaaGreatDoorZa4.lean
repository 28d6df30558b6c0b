/- The proof's texts, joined, without what the row does not reach: part 4. -/
import Derived.Test.YtognmcollmdbpaaGreatDoorZa3
namespace Go.Av
open Go.Proofs
set_option maxRecDepth 100000
set_option maxHeartbeats 4000000
set_option linter.unusedVariables false
set_option linter.unusedSimpArgs false
theorem qKZ {g h : Nat → V} : q2n 0 g h = h := by funext i; simp [q2n]
theorem qGf (l : List Int) : q2d q24 (.ptr [q0H q2l 1 l] 0 1) = l := qKt (fun _ => rfl) 1 l
def qFf (xs : List q06) : Prop := xs.length ≤ 1000
noncomputable def q2i (xs : List q06) : List q06 := xs
noncomputable def qQI (xs : List q06) : List Blk := [(.arr 2 (q2i xs).length (gL (q02 1) (q2i xs)) q0i)]
noncomputable def qQ2 (xs : List q06) : V := .osl 0 (q2i xs).length
noncomputable def qEe : q0G := fun args bin => match args, bin with
 | [a0], [] => some (VLe a0 (q0H (q02 1) 1 (((q0M q08) a0))) ∧ qFf ((q0M q08) a0), qQ2 ((q0M q08) a0), qQI ((q0M q08) a0))
 | _, _ => none
noncomputable def qUC : Nat → Option (Fl × q0G) := lk []
theorem qUd : q0D Tryz.prog qUC := q07
noncomputable def qWc (xs : List q06) : Cx := ⟨tt, qUC, Tryz.f163.ntmps, [0, 2, 4], [], [], fun _ => none, [1], noM, []⟩
theorem qXl (xs : List q06) (hpre : qFf xs) : q3H (qWc xs) Tryz.f163 [(0, 2)] [q0H (q02 1) 1 (xs)] [] (fun rr bs => VLe rr (qQ2 xs) ∧ q1d bs (qQI xs)) := by
 have key : (∀ b : Bool, (((b = true) → (List.length xs = 0)) → (((b = true) → ((VLe (V.osl 0 0) (V.osl 0 (List.length (q2i xs)))) ∧ ((BLe (Blk.arr 2 0 (fun (x : Nat) ↦ V.undef) 100) (Blk.arr 2 (List.length (q2i xs)) (gL (q02 1) (q2i xs)) 100)) ∧ (True)))) ∧ ((b = false) → ((0 = 0) ∧ ((0 + List.length xs ≤ 1073741824) ∧ ((q0r 2 (List.length xs) (gL (q02 1) xs)) ∧ ((∀ i : Nat, ((i < List.length xs) → (q69 (q02 1 (List.getD xs i default)) = true))) ∧ ((VLe (V.osl 0 (0 + List.length xs)) (V.osl 0 (List.length (q2i xs)))) ∧ ((BLe (Blk.arr 2 (0 + List.length xs) (q2n 0 (q2o []) (gL (q02 1) xs)) 100) (Blk.arr 2 (List.length (q2i xs)) (gL (q02 1) (q2i xs)) 100)) ∧ (True))))))))))) := by
  have hl : xs.length ≤ 1000 := hpre
  unfold q2i
  refine fun b hb => ⟨fun h => ?_, fun h => ⟨rfl, by omega, fun k hk => ⟨rfl, rfl⟩, fun k hk => rfl, ?_⟩⟩
  ·have : xs = [] := List.length_eq_zero_iff.1 (hb h)
   subst this
   exact ⟨VLe.refl _, q2h _, trivial⟩
  ·rw [Nat.zero_add, qKZ]
   exact ⟨VLe.refl _, BLe.refl _, trivial⟩
 exact Eq.mp (by kernel_rfl) key
theorem qN4 : q0T Tryz.prog 163 qEe := by
 refine q0V q1C (tpl := [(0, 2)]) Tryz.func163 rfl (by kernel_rfl) fun args bin ob r bout hDe hob => ?_
 unfold qEe at hDe
 split at hDe
 ·rename_i a0
  cases hDe
  exact okQ (qXl ((q0M q08) a0) (hob.2)) qUd (args_of_vles ⟨hob.1, trivial⟩) trivial
 ·cases hDe
def qAX (xs : List q03) : Prop := xs.length ≤ 1000
noncomputable def q0g (xs : List q03) : List q03 := xs
noncomputable def qQ9 (xs : List q03) : List Blk := [(.arr 5 (q0g xs).length (gL (q00 1) (q0g xs)) q0i)]
noncomputable def qPz (xs : List q03) : V := .osl 0 (q0g xs).length
noncomputable def qBD : q0G := fun args bin => match args, bin with
 | [a0], [] => some (VLe a0 (q0H (q00 1) 1 (((q0M q04) a0))) ∧ qAX ((q0M q04) a0), qPz ((q0M q04) a0), qQ9 ((q0M q04) a0))
 | _, _ => none
noncomputable def qVq : Nat → Option (Fl × q0G) := lk []
theorem qWl : q0D Tryz.prog qVq := q07
noncomputable def qTm (xs : List q03) : Cx := ⟨tt, qVq, Tryz.f162.ntmps, [0, 2, 4], [], [], fun _ => none, [1], noM, []⟩
theorem qVz (xs : List q03) (hpre : qAX xs) : q3H (qTm xs) Tryz.f162 [(0, 5)] [q0H (q00 1) 1 (xs)] [] (fun rr bs => VLe rr (qPz xs) ∧ q1d bs (qQ9 xs)) := by
 have key : (∀ b : Bool, (((b = true) → (List.length xs = 0)) → (((b = true) → ((VLe (V.osl 0 0) (V.osl 0 (List.length (q0g xs)))) ∧ ((BLe (Blk.arr 5 0 (fun (x : Nat) ↦ V.undef) 100) (Blk.arr 5 (List.length (q0g xs)) (gL (q00 1) (q0g xs)) 100)) ∧ (True)))) ∧ ((b = false) → ((0 = 0) ∧ ((0 + List.length xs ≤ 1073741824) ∧ ((q0r 5 (List.length xs) (gL (q00 1) xs)) ∧ ((∀ i : Nat, ((i < List.length xs) → (q69 (q00 1 (List.getD xs i default)) = true))) ∧ ((VLe (V.osl 0 (0 + List.length xs)) (V.osl 0 (List.length (q0g xs)))) ∧ ((BLe (Blk.arr 5 (0 + List.length xs) (q2n 0 (q2o []) (gL (q00 1) xs)) 100) (Blk.arr 5 (List.length (q0g xs)) (gL (q00 1) (q0g xs)) 100)) ∧ (True))))))))))) := by
  have hl : xs.length ≤ 1000 := hpre
  unfold q0g
  refine fun b hb => ⟨fun h => ?_, fun h => ⟨rfl, by omega, fun k hk => ⟨rfl, rfl⟩, fun k hk => rfl, ?_⟩⟩
  ·have : xs = [] := List.length_eq_zero_iff.1 (hb h)
   subst this
   exact ⟨VLe.refl _, q2h _, trivial⟩
  ·rw [Nat.zero_add, qKZ]
   exact ⟨VLe.refl _, BLe.refl _, trivial⟩
 exact Eq.mp (by kernel_rfl) key
theorem qG2 : q0T Tryz.prog 162 qBD := by
 refine q0V q1C (tpl := [(0, 5)]) Tryz.func162 rfl (by kernel_rfl) fun args bin ob r bout hDe hob => ?_
 unfold qBD at hDe
 split at hDe
 ·rename_i a0
  cases hDe
  exact okQ (qVz ((q0M q04) a0) (hob.2)) qWl (args_of_vles ⟨hob.1, trivial⟩) trivial
 ·cases hDe
def qKl (xs : List q0L) : Prop := xs.length ≤ 1000
noncomputable def q5M (xs : List q0L) : List q0L := xs
noncomputable def qPw (xs : List q0L) : List Blk := [(.arr 5 (q5M xs).length (gL (q0A 1) (q5M xs)) q0i)]
noncomputable def qPl (xs : List q0L) : V := .osl 0 (q5M xs).length
noncomputable def qLq : q0G := fun args bin => match args, bin with
 | [a0], [] => some (VLe a0 (q0H (q0A 1) 1 (((q0M q0K) a0))) ∧ qKl ((q0M q0K) a0), qPl ((q0M q0K) a0), qPw ((q0M q0K) a0))
 | _, _ => none
noncomputable def qXB : Nat → Option (Fl × q0G) := lk []
theorem qUl : q0D Tryz.prog qXB := q07
noncomputable def qVs (xs : List q0L) : Cx := ⟨tt, qXB, Tryz.f161.ntmps, [0, 2, 4], [], [], fun _ => none, [1], noM, []⟩
theorem qWP (xs : List q0L) (hpre : qKl xs) : q3H (qVs xs) Tryz.f161 [(0, 5)] [q0H (q0A 1) 1 (xs)] [] (fun rr bs => VLe rr (qPl xs) ∧ q1d bs (qPw xs)) := by
 have key : (∀ b : Bool, (((b = true) → (List.length xs = 0)) → (((b = true) → ((VLe (V.osl 0 0) (V.osl 0 (List.length (q5M xs)))) ∧ ((BLe (Blk.arr 5 0 (fun (x : Nat) ↦ V.undef) 100) (Blk.arr 5 (List.length (q5M xs)) (gL (q0A 1) (q5M xs)) 100)) ∧ (True)))) ∧ ((b = false) → ((0 = 0) ∧ ((0 + List.length xs ≤ 1073741824) ∧ ((q0r 5 (List.length xs) (gL (q0A 1) xs)) ∧ ((∀ i : Nat, ((i < List.length xs) → (q69 (q0A 1 (List.getD xs i default)) = true))) ∧ ((VLe (V.osl 0 (0 + List.length xs)) (V.osl 0 (List.length (q5M xs)))) ∧ ((BLe (Blk.arr 5 (0 + List.length xs) (q2n 0 (q2o []) (gL (q0A 1) xs)) 100) (Blk.arr 5 (List.length (q5M xs)) (gL (q0A 1) (q5M xs)) 100)) ∧ (True))))))))))) := by
  have hl : xs.length ≤ 1000 := hpre
  unfold q5M
  refine fun b hb => ⟨fun h => ?_, fun h => ⟨rfl, by omega, fun k hk => ⟨rfl, rfl⟩, fun k hk => rfl, ?_⟩⟩
  ·have : xs = [] := List.length_eq_zero_iff.1 (hb h)
   subst this
   exact ⟨VLe.refl _, q2h _, trivial⟩
  ·rw [Nat.zero_add, qKZ]
   exact ⟨VLe.refl _, BLe.refl _, trivial⟩
 exact Eq.mp (by kernel_rfl) key
theorem qXk : q0T Tryz.prog 161 qLq := by
 refine q0V q1C (tpl := [(0, 5)]) Tryz.func161 rfl (by kernel_rfl) fun args bin ob r bout hDe hob => ?_
 unfold qLq at hDe
 split at hDe
 ·rename_i a0
  cases hDe
  exact okQ (qWP ((q0M q0K) a0) (hob.2)) qUl (args_of_vles ⟨hob.1, trivial⟩) trivial
 ·cases hDe
def qAD (xs : List q03) (ids : List Int) : Prop := xs.length ≤ maxLen ∧ (ids.length ≤ maxLen)
noncomputable def qFx (xs : List q03) (ids : List Int) : V := .int .i64 (q4h (fun s => q0t ids s) xs)
noncomputable def qBX : q0G := fun args bin => match args, bin with
 | [a0, .fn 226 [a1]], [] => some (VLe a0 (q0H (q00 1) 1 (((q0M q04) a0))) ∧ VLe a1 (q4l q2l 1 (((q2d q24) a1))) ∧ qAD ((q0M q04) a0) ((q2d q24) a1), qFx ((q0M q04) a0) ((q2d q24) a1), [])
 | _, _ => none
noncomputable def qHL (xs : List q03) (ids : List Int) : q0O :=
 ⟨Nat, fun i => ⟨[(0, q0H (q00 1) 1 xs), (1, .fn 226 [q4l q2l 1 (ids)]), (7, .int .i64 xs.length), (8, .int .i64 i)], []⟩,
  fun i => i ≤ xs.length ∧ ∀ j, j < i → (fun s => q0t ids s) (xs.getD j default) = false, fun i => xs.length - i⟩
noncomputable def qNZ (xs : List q03) (ids : List Int) : Nat → Option q0O := fun rg_ => match rg_ with
 | 2 => some (qHL xs ids)
 | _ => none
noncomputable def qHz : Nat → Option (Fl × q0G) := lk [(226, (.ro, qOK))]
theorem qLY : q0D Tryz.prog qHz := q01 qX7 (q07)
noncomputable def qL5 (xs : List q03) (ids : List Int) : Cx := ⟨tt, qHz, Tryz.f262.ntmps, [0, 1, 4, 5, 7, 8, 9, 16], [(2, ⟨[(0, none), (1, none), (7, none), (8, none)], []⟩)], [], qNZ xs ids, [], noM, []⟩
noncomputable def q4e (xs : List q03) (x : Nat) : V := (q00 1 (List.getD xs (Int.toNat (↑x : Int)) default))
theorem qK8 (xs : List q03) (ids : List Int) (hpre : qAD xs ids) : q0f (qL5 xs ids) Tryz.f262 0 [q0H (q00 1) 1 (xs), .fn 226 [q4l q2l 1 (ids)]] (fun rr => VLe rr (qFx xs ids)) := by
 have key : ((∃ x : Nat, ((SLe (AS.mk [(0, q0H (q00 1) 1 xs), (1, V.fn (226 : FuncId) [q4l q2l 1 ids]), (7, vi (↑(List.length xs) : Int)), (8, vi 0)] []) (AS.mk [(0, q0H (q00 1) 1 xs), (1, V.fn (226 : FuncId) [q4l q2l 1 ids]), (7, vi (↑(List.length xs) : Int)), (8, vi (↑x : Int))] [])) ∧ ((x ≤ List.length xs) ∧ (∀ j : Nat, ((j < x) → (q0t ids (List.getD xs j default) = false)))))) ∧ (∀ x : Nat, (((x ≤ List.length xs) ∧ (∀ j : Nat, ((j < x) → (q0t ids (List.getD xs j default) = false)))) → (((decide ((↑x : Int) < (↑(List.length xs) : Int)) = true) → ((((0 : Int) ≤ (↑x : Int)) ∧ ((↑x : Int) < (↑(List.length xs) : Int))) ∧ (((VLe (q4e xs x) (q00 1 (q04 (q4e xs x)))) ∧ ((VLe (V.ptr [q0H q2l 1 ids] 0 1) (q4l q2l 1 (q2d q24 (V.ptr [q0H q2l 1 ids] 0 1)))) ∧ (qPO (q04 (q4e xs x)) (q2d q24 (V.ptr [q0H q2l 1 ids] 0 1))))) ∧ (((q0t (q2d q24 (V.ptr [q0H q2l 1 ids] 0 1)) (q04 (q4e xs x)) = true) → (VLe (vi (↑x : Int)) (vi (q4h (fun (s : q03) ↦ q0t ids s) xs)))) ∧ ((q0t (q2d q24 (V.ptr [q0H q2l 1 ids] 0 1)) (q04 (q4e xs x)) = false) → ((inK IntKind.i64 ((↑x : Int) + (1 : Int))) ∧ (∃ y : Nat, ((SLe (AS.mk [(0, q0H (q00 1) 1 xs), (1, V.fn (226 : FuncId) [q4l q2l 1 ids]), (7, vi (↑(List.length xs) : Int)), (8, vi ((↑x : Int) + (1 : Int)))] []) (AS.mk [(0, q0H (q00 1) 1 xs), (1, V.fn (226 : FuncId) [q4l q2l 1 ids]), (7, vi (↑(List.length xs) : Int)), (8, vi (↑y : Int))] [])) ∧ (((y ≤ List.length xs) ∧ (∀ j : Nat, ((j < y) → (q0t ids (List.getD xs j default) = false)))) ∧ (List.length xs - y < List.length xs - x)))))))))) ∧ ((decide ((↑x : Int) < (↑(List.length xs) : Int)) = false) → (VLe (vi (-1)) (vi (q4h (fun (s : q03) ↦ q0t ids s) xs)))))))) := by
  delta q4e; delta vi
  obtain ⟨hlen, hp⟩ := hpre
  unfold maxLen at hlen
  refine ⟨⟨0, SLe.refl _, by omega, fun j hj => absurd hj (Nat.not_lt_zero j)⟩, ?_⟩
  rintro i ⟨hi, hj⟩
  refine ⟨fun h => ?_, fun h => ?_⟩
  ·have hlt : i < xs.length := by simpa using h
   have hin : xs.getD i default ∈ xs := by simp [hlt]
   simp only [Int.toNat_natCast, q11, q7O, qGf]
   refine ⟨⟨by omega, by omega⟩, ⟨VLe.refl _, VLe.refl _, hp⟩, fun h2 => q0J (q33 hlt hj h2).symm, fun h2 => ⟨q0U (by omega), i + 1, SLe.refl _, ⟨by omega, fun j h3 => ?_⟩, by omega⟩⟩
   rcases Nat.lt_or_ge j i with h4 | h4
   ·exact hj j h4
   ·have : j = i := by omega
    subst this
    exact h2
  ·have hge : i = xs.length := by simp at h; omega
   exact q0J (q3h fun j h3 => hj j (by omega)).symm
 exact Eq.mp (by kernel_rfl) key
theorem qKJ : q0T Tryz.prog 262 qBX := by
 refine q09 q1C (pol := 0) Tryz.func262 rfl (by kernel_rfl) fun args bin ob r bout hDe hob => ?_
 unfold qBX at hDe
 split at hDe
 ·rename_i a0 a1
  cases hDe
  exact okB (qK8 ((q0M q04) a0) ((q2d q24) a1) (hob.2.2)) qLY (args_of_vles ⟨hob.1, qF2 ⟨hob.2.1, trivial⟩, trivial⟩)
 ·cases hDe
def qAH (l : List q03) (ids : List Int) : Prop := l.length ≤ 1000 ∧ ids.length ≤ 1000
noncomputable def q23 (l : List q03) (ids : List Int) : List q03 := l.filter fun s => !q0t ids s
noncomputable def qGI (l : List q03) (ids : List Int) : List Blk := [(.arr 5 (q23 l ids).length (gL (q00 1) (q23 l ids)) q0i)]
noncomputable def qEp (l : List q03) (ids : List Int) : V := .osl 0 (q23 l ids).length
noncomputable def qAb : q0G := fun args bin => match args, bin with
 | [.osl i0 m0, .fn 226 [a1]], [.arr s0 n0 g0 t0] => some ((i0 = 0 ∧ s0 = 5 ∧ t0 = q0i ∧ n0 = m0 ∧ ∀ i, i < n0 → ELe (g0 i) (gL (q00 1) ((q0M q04) (.sl n0 g0 1)) i)) ∧ VLe a1 (q4l q2l 1 (((q2d q24) a1))) ∧ qAH ((q0M q04) (.sl n0 g0 1)) ((q2d q24) a1), qEp ((q0M q04) (.sl n0 g0 1)) ((q2d q24) a1), qGI ((q0M q04) (.sl n0 g0 1)) ((q2d q24) a1))
 | _, _ => none
noncomputable def qGw (l : List q03) (ids : List Int) : q0O :=
 ⟨Nat × Nat × List q03, fun p => ⟨[(0, .osl (q1l 0) l.length), (1, .fn 226 [q4l q2l 1 ids]), (5, .int .i64 p.1), (6, .int .i64 p.2.1)], [(q1l 0, .arr 5 l.length (gL (q00 1) p.2.2) q0i)]⟩, fun p => qGK (q0t ids) l p.1 p.2.1 p.2.2, fun p => l.length - p.2.1⟩
noncomputable def qKU (l : List q03) (ids : List Int) : Nat → Option q0O := fun rg_ => match rg_ with
 | 5 => some (qGw l ids)
 | _ => none
noncomputable def qHa : Nat → Option (Fl × q0G) := lk [(262, (.ro, qBX)), (226, (.ro, qOK))]
theorem qLd : q0D Tryz.prog qHa := q01 qKJ (q01 qX7 (q07))
noncomputable def qEn (l : List q03) (ids : List Int) : Cx := ⟨tt, qHa, Tryz.f225.ntmps, [0, 1, 4, 5, 6, 7, 12, 19, 29], [(5, ⟨[(0, some 5), (1, none), (5, none), (6, none)], []⟩)], [], qKU l ids, [], noM, []⟩
noncomputable def q3o (x : Nat × Nat × List q03) : V := (q00 1 (List.getD x.2.2 (Int.toNat (↑x.2.1 : Int)) default))
noncomputable def q1m (ids : List Int) : V := (V.ptr [q0H q2l 1 ids] 0 1)
noncomputable def q3N (l : List q03) : List q03 := (q0M q04 (q0H (q00 1) 1 l))
noncomputable def q8e (l : List q03) (ids : List Int) (y : Nat × Nat × List q03) : AS := (AS.mk [(0, V.osl 32000064 (List.length l)), (1, V.fn (226 : FuncId) [q4l q2l 1 ids]), (5, vi (↑y.1 : Int)), (6, vi (↑y.2.1 : Int))] [(32000064, Blk.arr 5 (List.length l) (gL (q00 1) y.2.2) 100)])
theorem qMJ (l : List q03) (ids : List Int) (hpre : qAH l ids) : q8A (qEn l ids) Tryz.f225 [(0, 5)] [.osl 25600000 (l).length, .fn 226 [q4l q2l 1 (ids)]] [(25600000, .arr 5 l.length (gL (q00 1) l) q0i)] (fun rr bs => VLe rr (qEp l ids) ∧ q1d bs (qGI l ids)) := by
 have key : (((VLe (q0H (q00 1) 1 l) (q0H (q00 1) 1 (q3N l))) ∧ ((VLe (q1m ids) (q4l q2l 1 (q2d q24 (q1m ids)))) ∧ (qAD (q3N l) (q2d q24 (q1m ids))))) ∧ ((((q4h (fun (s : q03) ↦ q0t (q2d q24 (q1m ids)) s) (q3N l) == (-1)) = true) → ((VLe (V.osl 0 (List.length l)) (V.osl 0 (List.length (q23 l ids)))) ∧ ((BLe (Blk.arr 5 (List.length l) (gL (q00 1) l) 100) (Blk.arr 5 (List.length (q23 l ids)) (gL (q00 1) (q23 l ids)) 100)) ∧ (True)))) ∧ (((q4h (fun (s : q03) ↦ q0t (q2d q24 (q1m ids)) s) (q3N l) == (-1)) = false) → ((inK IntKind.i64 (q4h (fun (s : q03) ↦ q0t (q2d q24 (q1m ids)) s) (q3N l) + (1 : Int))) ∧ ((∃ x : Nat × Nat × List q03, ((SLe (AS.mk [(0, V.osl 32000064 (List.length l)), (1, V.fn (226 : FuncId) [V.ptr [q0H q2l 1 ids] 0 1]), (5, vi (q4h (fun (s : q03) ↦ q0t (q2d q24 (q1m ids)) s) (q3N l))), (6, vi (q4h (fun (s : q03) ↦ q0t (q2d q24 (q1m ids)) s) (q3N l) + (1 : Int)))] [(32000064, Blk.arr 5 (List.length l) (gL (q00 1) l) 100)]) (AS.mk [(0, V.osl 32000064 (List.length l)), (1, V.fn (226 : FuncId) [q4l q2l 1 ids]), (5, vi (↑x.1 : Int)), (6, vi (↑x.2.1 : Int))] [(32000064, Blk.arr 5 (List.length l) (gL (q00 1) x.2.2) 100)])) ∧ (qGK (q0t ids) l x.1 x.2.1 x.2.2))) ∧ (∀ x : Nat × Nat × List q03, ((qGK (q0t ids) l x.1 x.2.1 x.2.2) → (((decide ((↑x.2.1 : Int) < (↑(List.length l) : Int)) = true) → ((((0 : Int) ≤ (↑x.2.1 : Int)) ∧ ((↑x.2.1 : Int) < (↑(List.length l) : Int))) ∧ ((Int.toNat (↑x.2.1 : Int) < List.length l) ∧ (((VLe (q3o x) (q00 1 (q04 (q3o x)))) ∧ ((VLe (q1m ids) (q4l q2l 1 (q2d q24 (q1m ids)))) ∧ (qPO (q04 (q3o x)) (q2d q24 (q1m ids))))) ∧ ((((!q0t (q2d q24 (q1m ids)) (q04 (q3o x))) = true) → ((((0 : Int) ≤ (↑x.1 : Int)) ∧ ((↑x.1 : Int) < (↑(List.length l) : Int))) ∧ ((Int.toNat (↑x.1 : Int) < List.length l) ∧ ((inK IntKind.i64 ((↑x.1 : Int) + (1 : Int))) ∧ ((inK IntKind.i64 ((↑x.2.1 : Int) + (1 : Int))) ∧ (∃ y : Nat × Nat × List q03, ((SLe (AS.mk [(0, V.osl 32000064 (List.length l)), (1, V.fn (226 : FuncId) [q4l q2l 1 ids]), (5, vi ((↑x.1 : Int) + (1 : Int))), (6, vi ((↑x.2.1 : Int) + (1 : Int)))] [(32000064, Blk.arr 5 (List.length l) (q5d (gL (q00 1) x.2.2) (Int.toNat (↑x.1 : Int)) (q3o x)) 100)]) (q8e l ids y)) ∧ ((qGK (q0t ids) l y.1 y.2.1 y.2.2) ∧ (List.length l - Prod.fst y.2 < List.length l - Prod.fst x.2))))))))) ∧ (((!q0t (q2d q24 (q1m ids)) (q04 (q3o x))) = false) → ((inK IntKind.i64 ((↑x.2.1 : Int) + (1 : Int))) ∧ (∃ y : Nat × Nat × List q03, ((SLe (AS.mk [(0, V.osl 32000064 (List.length l)), (1, V.fn (226 : FuncId) [q4l q2l 1 ids]), (5, vi (↑x.1 : Int)), (6, vi ((↑x.2.1 : Int) + (1 : Int)))] [(32000064, Blk.arr 5 (List.length l) (gL (q00 1) x.2.2) 100)]) (q8e l ids y)) ∧ ((qGK (q0t ids) l y.1 y.2.1 y.2.2) ∧ (List.length l - Prod.fst y.2 < List.length l - Prod.fst x.2))))))))))) ∧ ((decide ((↑x.2.1 : Int) < (↑(List.length l) : Int)) = false) → ((((0 : Int) ≤ (↑x.1 : Int)) ∧ (((↑x.1 : Int) ≤ Option.getD none (↑(List.length l) : Int)) ∧ (Option.getD none (↑(List.length l) : Int) ≤ (↑(List.length l) : Int)))) ∧ ((((0 : Int) ≤ (↑x.1 : Int)) ∧ ((↑x.1 : Int) ≤ (↑(List.length l) : Int))) ∧ ((VLe (V.osl 0 (Int.toNat (↑x.1 : Int))) (V.osl 0 (List.length (q23 l ids)))) ∧ ((BLe (Blk.arr 5 (Int.toNat (↑x.1 : Int)) (q2f (gL (q00 1) x.2.2) (Int.toNat (↑x.1 : Int)) (Int.toNat (Option.getD none (↑(List.length l) : Int)) - Int.toNat (↑x.1 : Int)) fun (x : Nat) ↦ V.agg [V.str (ByteArray.mk #[]), vi 0, vi 0, vi 0, vi 0]) 100) (Blk.arr 5 (List.length (q23 l ids)) (gL (q00 1) (q23 l ids)) 100)) ∧ (True)))))))))))))) := by
  delta q8e; delta q3N; delta q1m; delta q3o; delta vi
  obtain ⟨hl, hi⟩ := hpre
  have hi' : ids.length ≤ maxLen := by unfold maxLen; omega
  simp only [q0s, q11, qGf, Option.getD_none]
  refine ⟨⟨VLe.refl _, VLe.refl _, by unfold maxLen; omega, hi'⟩, fun h => ?_, fun h => ?_⟩
  ·have e : q23 l ids = l := qHl (q := fun s => q0t ids s) (eq_of_beq h)
   rw [e]
   exact ⟨VLe.refl _, BLe.refl _, trivial⟩
  ·obtain ⟨i0, hi0⟩ := qLX h
   have hlt := (q9q hi0).1
   simp only [hi0]
   have v0 : ((i0 : Nat) : Int) + 1 = ((i0 + 1 : Nat) : Int) := by omega
   refine ⟨q0U (by omega), ⟨(i0, i0 + 1, l), q1X ⟨rfl, VLe.refl _, rfl, VLe.refl _, rfl, VLe.refl _, rfl, q0J v0, trivial⟩ ⟨rfl, BLe.refl _, trivial⟩, qG9 hi0⟩, ?_⟩
   rintro ⟨i, j, ys⟩ hd
   simp only at hd ⊢
   have hd1 := hd.1
   have hd2 := hd.2.1
   have hd3 := hd.2.2.1
   have v1 : ((i : Nat) : Int) + 1 = ((i + 1 : Nat) : Int) := by omega
   have v2 : ((j : Nat) : Int) + 1 = ((j + 1 : Nat) : Int) := by omega
   simp only [Int.toNat_natCast]
   refine ⟨fun h => ?_, fun h => ?_⟩
   ·have hj : j < l.length := by have := of_decide_eq_true h; omega
    have hy : ys.getD j default = l.getD j default := hd.2.2.2.2 j (Nat.le_refl j) hj
    rw [hy]
    refine ⟨⟨by omega, by omega⟩, hj, ⟨VLe.refl _, VLe.refl _, hi'⟩, fun h2 => ?_, fun h2 => ?_⟩
    ·have hq : q0t ids (l.getD j default) = false := by
      cases hb : q0t ids (l.getD j default) with
      | false => rfl
      | true => rw [hb] at h2; cases h2
     have hi : i < ys.length := by omega
     exact ⟨⟨by omega, by omega⟩, by omega, q0U (by omega), q0U (by omega), (i + 1, j + 1, ys.set i (l.getD j default)), q1X ⟨rfl, VLe.refl _, rfl, VLe.refl _, rfl, q0J v1, rfl, q0J v2, trivial⟩ ⟨rfl, qI9 hi rfl, trivial⟩, qHi hd hj hq, by simp only; omega⟩
    ·have hq : q0t ids (l.getD j default) = true := by
      cases hb : q0t ids (l.getD j default) with
      | true => rfl
      | false => rw [hb] at h2; cases h2
     exact ⟨q0U (by omega), (i, j + 1, ys), q1X ⟨rfl, VLe.refl _, rfl, VLe.refl _, rfl, VLe.refl _, rfl, q0J v2, trivial⟩ ⟨rfl, BLe.refl _, trivial⟩, qHm hd hj hq, by simp only; omega⟩
   ·have hj : j = l.length := by have := of_decide_eq_false h; omega
    subst hj
    have e : ys.take i = q23 l ids := qLk hd
    have el : i = (q23 l ids).length := by rw [← e, List.length_take]; omega
    refine ⟨⟨by omega, by omega, by omega⟩, ⟨by omega, by omega⟩, VLe.of_eq ?_, qNR e (by omega), trivial⟩
    rw [← el]
 exact Eq.mp (by kernel_rfl) key
theorem qKB : q6N Tryz.prog 225 qAb := by
 refine q2q q1C (tpl := [(0, 5)]) Tryz.func225 rfl (by kernel_rfl) fun args bin ob r bout hDe hob => ?_
 unfold qAb at hDe
 split at hDe
 ·rename_i i0 m0 a1 s0 n0 g0 t0
  cases hDe
  obtain ⟨⟨rfl, rfl, rfl, rfl, hg0⟩, hv1, hpre⟩ := hob
  exact ⟨Nat.le_of_ble_eq_true (by kernel_rfl), qEn ((q0M q04) (.sl n0 g0 1)) ((q2d q24) a1), Eq.mp (by kernel_rfl) htt, Eq.mp (by kernel_rfl) qLd, Eq.mp (by kernel_rfl) (q2K (P := Tryz.prog)), by kernel_rfl, false, n0, 5, q0i, g0, gL (q00 1) ((q0M q04) (.sl n0 g0 1)), [.fn 226 [a1]], [.fn 226 [q4l q2l 1 (((q2d q24) a1))]], [], [], rfl, rfl, args_of_vles (l' := [.fn 226 [q4l q2l 1 (((q2d q24) a1))]]) ⟨qF2 ⟨hv1, trivial⟩, trivial⟩, rfl, q1B (fun i hi => hg0 i hi) (Or.inl rfl), trivial, rfl, (((q0M q04) (.sl n0 g0 1))).length, (q57 _ _ _ _).symm, .inr (Eq.mp (by kernel_rfl) (qMJ ((q0M q04) (.sl n0 g0 1)) ((q2d q24) a1) hpre))⟩
 ·cases hDe
def qPA (l : List q03) (i : Int) (v : List q03) : Prop := 0 ≤ i ∧ i ≤ l.length ∧ 0 < v.length ∧ l.length + v.length ≤ 1000
noncomputable def q68 (l : List q03) (i : Int) (v : List q03) : List q03 := l.take i.toNat ++ v ++ l.drop i.toNat
noncomputable def qWY (l : List q03) (i : Int) (v : List q03) : List Blk := [(.arr 5 (q68 l i v).length (gL (q00 1) (q68 l i v)) q0i)]
noncomputable def qWb (l : List q03) (i : Int) (v : List q03) : V := .osl 0 (q68 l i v).length
noncomputable def qRN : q0G := fun args bin => match args, bin with
 | [.osl i0 m0, .int .i64 a1, .osl i2 m2], [.arr s0 n0 g0 t0, .arr s2 n2 g2 t2] => some ((i0 = 0 ∧ s0 = 5 ∧ t0 = q0i ∧ n0 = m0 ∧ ∀ i, i < n0 → ELe (g0 i) (gL (q00 1) ((q0M q04) (.sl n0 g0 1)) i)) ∧ (i2 = 1 ∧ s2 = 5 ∧ t2 = q0i ∧ n2 = m2 ∧ ∀ i, i < n2 → ELe (g2 i) (gL (q00 1) ((q0M q04) (.sl n2 g2 1)) i)) ∧ qPA ((q0M q04) (.sl n0 g0 1)) a1 ((q0M q04) (.sl n2 g2 1)), qWb ((q0M q04) (.sl n0 g0 1)) a1 ((q0M q04) (.sl n2 g2 1)), qWY ((q0M q04) (.sl n0 g0 1)) a1 ((q0M q04) (.sl n2 g2 1)))
 | _, _ => none
noncomputable def x7z : Nat → Option (Fl × q0G) := lk [(273, (.rw, qYp)), (274, (.ro, noD (.int .i64 0)))]
theorem x4P : q0D Tryz.prog x7z := q01 x4L (q01 qHd (q07))
noncomputable def qWg (l : List q03) (i : Int) (v : List q03) : Cx := ⟨tt, x7z, Tryz.f241.ntmps, [0, 1, 2, 6, 7, 8, 9, 16, 22, 31, 68], [], [], fun _ => none, [], noM, []⟩
noncomputable def q0a (l : List q03) : Int := (↑(List.length l) : Int)
noncomputable def q14 (v : List q03) : Int := (↑(List.length v) : Int)
def qIB (l : List q03) (v : List q03) (cp_ : Nat) : Prop := ((Option.getD none (↑(Int.toNat (Option.getD (some ((q0a l) + (q14 v))) (q0a l)) - 0) : Int) ≤ (↑(cp_ - Int.toNat (Option.getD none (0 : Int))) : Int)) ∧ (0 + Int.toNat (Option.getD none (↑(Int.toNat (Option.getD (some ((q0a l) + (q14 v))) (q0a l)) - 0) : Int)) ≤ cp_))
def qIK (l : List q03) (i : Int) (v : List q03) (cp_ : Nat) : Prop := (((0 : Int) ≤ Option.getD (some i) (0 : Int)) ∧ ((Option.getD (some i) (0 : Int) ≤ Option.getD none (↑(Int.toNat (Option.getD (some ((q0a l) + (q14 v))) (q0a l)) - 0) : Int)) ∧ (qIB l v cp_)))
noncomputable def qGF (l : List q03) (i : Int) : Nat → V := (q29 (q6q 5 (List.length l) (gL (q00 1) l)) (match some i with | none => 0 | some l => 0 + Int.toNat l))
noncomputable def qCp (l : List q03) (i : Int) (v : List q03) : Blk := (Blk.arr 5 (List.length (q68 l i v)) (gL (q00 1) (q68 l i v)) 100)
def qMH (l : List q03) (i : Int) (cp_ : Nat) : Prop := (((0 : Int) ≤ Option.getD (some i) (0 : Int)) ∧ ((Option.getD (some i) (0 : Int) ≤ Option.getD none (q0a l)) ∧ ((Option.getD none (q0a l) ≤ (↑cp_ : Int)) ∧ (0 + Int.toNat (Option.getD none (q0a l)) ≤ cp_))))
def qMp (l : List q03) (i : Int) (v : List q03) : Prop := (Option.getD none (↑(Int.toNat (Option.getD (some i) (q0a l)) - 0 + Int.toNat ((q0a l) + (q14 v) - i)) : Int) ≤ (↑(Int.toNat (Option.getD (some i) (q0a l)) - 0 + Int.toNat ((q0a l) + (q14 v) - i)) : Int))
def qMj (l : List q03) (i : Int) (v : List q03) (cp_ : Nat) : Prop := (((0 : Int) ≤ Option.getD (some (i + (q14 v))) (0 : Int)) ∧ ((Option.getD (some (i + (q14 v))) (0 : Int) ≤ Option.getD none (↑(Int.toNat (Option.getD (some ((q0a l) + (q14 v))) (q0a l)) - 0) : Int)) ∧ (qIB l v cp_)))
theorem x1v (l : List q03) (i : Int) (v : List q03) (cp_ : Nat) (hcp_ : l.length ≤ cp_) (hpre : qPA l i v) : q8A (qWg l i v) Tryz.f241 [(0, 5)] [.oss 25600000 0 (l).length cp_ true, .int .i64 (i), .osl 25600064 (v).length] [(25600000, .arr 5 cp_ (q6q 5 l.length (gL (q00 1) l)) q0i), (25600064, .arr 5 v.length (gL (q00 1) v) q0i)] (fun rr bs => VLe rr (qWb l i v) ∧ q1d bs (qWY l i v)) := by
 have key : ((qMH l i cp_) ∧ (((((q14 v) == (0 : Int)) = true) → ((VLe (V.osl 0 (List.length l)) (V.osl 0 (List.length (q68 l i v)))) ∧ ((BLe (Blk.arr 5 (List.length l) (q6q 5 (List.length l) (gL (q00 1) l)) 100) (qCp l i v)) ∧ (True)))) ∧ ((((q14 v) == (0 : Int)) = false) → ((((i == (q0a l)) = true) → ((List.length l ≤ cp_) ∧ ((List.length l + List.length v ≤ 1073741824) ∧ ((q0r 5 (List.length v) (gL (q00 1) v)) ∧ ((VLe (V.osl 0 (List.length l + List.length v)) (V.osl 0 (List.length (q68 l i v)))) ∧ ((BLe (Blk.arr 5 (List.length l + List.length v) (q2n (List.length l) (q6q 5 (List.length l) (gL (q00 1) l)) (gL (q00 1) v)) 100) (qCp l i v)) ∧ (True))))))) ∧ (((i == (q0a l)) = false) → ((inK IntKind.i64 ((q0a l) + (q14 v))) ∧ (((decide ((q0a l) + (q14 v) > (↑cp_ : Int)) = true) → ((((0 : Int) ≤ Option.getD none (0 : Int)) ∧ ((Option.getD none (0 : Int) ≤ Option.getD (some i) (q0a l)) ∧ ((Option.getD (some i) (q0a l) ≤ (↑cp_ : Int)) ∧ (0 + Int.toNat (Option.getD (some i) (q0a l)) ≤ cp_)))) ∧ ((inK IntKind.i64 ((q0a l) + (q14 v))) ∧ ((inK IntKind.i64 ((q0a l) + (q14 v) - i)) ∧ (((0 : Int) ≤ (q0a l) + (q14 v) - i) ∧ ((Int.toNat (Option.getD (some i) (q0a l)) - 0 ≤ cp_) ∧ ((cp_ - Int.toNat (Option.getD none (0 : Int)) < Int.toNat (Option.getD (some i) (q0a l)) - 0 + Int.toNat ((q0a l) + (q14 v) - i)) ∧ ((Int.toNat (Option.getD (some i) (q0a l)) - 0 + Int.toNat ((q0a l) + (q14 v) - i) ≤ 1073741824) ∧ ((((0 : Int) ≤ i) ∧ ((i ≤ Option.getD none (↑(Int.toNat (Option.getD (some i) (q0a l)) - 0 + Int.toNat ((q0a l) + (q14 v) - i)) : Int)) ∧ (qMp l i v))) ∧ ((q0r 5 (min (Int.toNat (Option.getD none (↑(Int.toNat (Option.getD (some i) (q0a l)) - 0 + Int.toNat ((q0a l) + (q14 v) - i)) : Int)) - Int.toNat i) (List.length v)) (gL (q00 1) v)) ∧ ((inK IntKind.i64 (i + (q14 v))) ∧ ((((0 : Int) ≤ i + (q14 v)) ∧ ((i + (q14 v) ≤ Option.getD none (↑(Int.toNat (Option.getD (some i) (q0a l)) - 0 + Int.toNat ((q0a l) + (q14 v) - i)) : Int)) ∧ (qMp l i v))) ∧ ((qMH l i cp_) ∧ ((q0r 5 (min (Int.toNat (Option.getD none (↑(Int.toNat (Option.getD (some i) (q0a l)) - 0 + Int.toNat ((q0a l) + (q14 v) - i)) : Int)) - Int.toNat (i + (q14 v))) (Int.toNat (Option.getD none (q0a l)) - Int.toNat (Option.getD (some i) (0 : Int)))) (qGF l i)) ∧ ((VLe (V.osl 0 (Int.toNat (Option.getD (some i) (q0a l)) - 0 + Int.toNat ((q0a l) + (q14 v) - i))) (V.osl 0 (List.length (q68 l i v)))) ∧ ((BLe (Blk.arr 5 (Int.toNat (Option.getD (some i) (q0a l)) - 0 + Int.toNat ((q0a l) + (q14 v) - i)) (q2f (q2f (q2n (Int.toNat (Option.getD (some i) (q0a l)) - 0) (q6q 5 (List.length l) (gL (q00 1) l)) fun (x : Nat) ↦ V.agg [V.str (ByteArray.mk #[]), vi 0, vi 0, vi 0, vi 0]) (Int.toNat i) (min (Int.toNat (Option.getD none (↑(Int.toNat (Option.getD (some i) (q0a l)) - 0 + Int.toNat ((q0a l) + (q14 v) - i)) : Int)) - Int.toNat i) (List.length v)) (gL (q00 1) v)) (Int.toNat (i + (q14 v))) (min (Int.toNat (Option.getD none (↑(Int.toNat (Option.getD (some i) (q0a l)) - 0 + Int.toNat ((q0a l) + (q14 v) - i)) : Int)) - Int.toNat (i + (q14 v))) (Int.toNat (Option.getD none (q0a l)) - Int.toNat (Option.getD (some i) (0 : Int)))) (qGF l i)) 100) (qCp l i v)) ∧ (True))))))))))))))))) ∧ ((decide ((q0a l) + (q14 v) > (↑cp_ : Int)) = false) → ((inK IntKind.i64 ((q0a l) + (q14 v))) ∧ ((((0 : Int) ≤ Option.getD none (0 : Int)) ∧ ((Option.getD none (0 : Int) ≤ Option.getD (some ((q0a l) + (q14 v))) (q0a l)) ∧ ((Option.getD (some ((q0a l) + (q14 v))) (q0a l) ≤ (↑cp_ : Int)) ∧ (0 + Int.toNat (Option.getD (some ((q0a l) + (q14 v))) (q0a l)) ≤ cp_)))) ∧ ((inK IntKind.i64 (i + (q14 v))) ∧ ((qMj l i v cp_) ∧ ((5 = 5) ∧ ((List.length v = List.length v) ∧ ((cp_ = cp_) ∧ ((((!false) = true) → ((inK IntKind.i64 (i + (q14 v))) ∧ ((qMj l i v cp_) ∧ ((qIK l i v cp_) ∧ ((q0r 5 (min (Int.toNat (Option.getD none (↑(Int.toNat (Option.getD (some ((q0a l) + (q14 v))) (q0a l)) - 0) : Int)) - Int.toNat (Option.getD (some (i + (q14 v))) (0 : Int))) (Int.toNat (Option.getD none (↑(Int.toNat (Option.getD (some ((q0a l) + (q14 v))) (q0a l)) - 0) : Int)) - Int.toNat (Option.getD (some i) (0 : Int)))) (qGF l i)) ∧ ((qIK l i v cp_) ∧ ((q0r 5 (min (Int.toNat (Option.getD none (↑(Int.toNat (Option.getD (some ((q0a l) + (q14 v))) (q0a l)) - 0) : Int)) - Int.toNat (Option.getD (some i) (0 : Int))) (List.length v)) (gL (q00 1) v)) ∧ ((VLe (V.osl 0 (Int.toNat (Option.getD (some ((q0a l) + (q14 v))) (q0a l)) - 0)) (V.osl 0 (List.length (q68 l i v)))) ∧ ((BLe (Blk.arr 5 (Int.toNat (Option.getD (some ((q0a l) + (q14 v))) (q0a l)) - 0) (q2f (q2f (q6q 5 (List.length l) (gL (q00 1) l)) (match some (i + (q14 v)) with | none => 0 | some l => 0 + Int.toNat l) (min (Int.toNat (Option.getD none (↑(Int.toNat (Option.getD (some ((q0a l) + (q14 v))) (q0a l)) - 0) : Int)) - Int.toNat (Option.getD (some (i + (q14 v))) (0 : Int))) (Int.toNat (Option.getD none (↑(Int.toNat (Option.getD (some ((q0a l) + (q14 v))) (q0a l)) - 0) : Int)) - Int.toNat (Option.getD (some i) (0 : Int)))) (qGF l i)) (match some i with | none => 0 | some l => 0 + Int.toNat l) (min (Int.toNat (Option.getD none (↑(Int.toNat (Option.getD (some ((q0a l) + (q14 v))) (q0a l)) - 0) : Int)) - Int.toNat (Option.getD (some i) (0 : Int))) (List.length v)) (gL (q00 1) v)) 100) (qCp l i v)) ∧ (True)))))))))) ∧ (((!false) = false) → ((((0 : Int) ≤ Option.getD (some (q0a l)) (0 : Int)) ∧ ((Option.getD (some (q0a l)) (0 : Int) ≤ Option.getD none (↑(Int.toNat (Option.getD (some ((q0a l) + (q14 v))) (q0a l)) - 0) : Int)) ∧ (qIB l v cp_))) ∧ ((q0r 5 (min (Int.toNat (Option.getD none (↑(Int.toNat (Option.getD (some ((q0a l) + (q14 v))) (q0a l)) - 0) : Int)) - Int.toNat (Option.getD (some (q0a l)) (0 : Int))) (List.length v)) (gL (q00 1) v)) ∧ ((qIK l i v cp_) ∧ ((False) ∧ ((VLe (V.osl 0 (Int.toNat (Option.getD (some ((q0a l) + (q14 v))) (q0a l)) - 0)) (V.osl 0 (List.length (q68 l i v)))) ∧ ((BLe (Blk.arr 5 (Int.toNat (Option.getD (some ((q0a l) + (q14 v))) (q0a l)) - 0) (q2f (q6q 5 (List.length l) (gL (q00 1) l)) (match some (q0a l) with | none => 0 | some l => 0 + Int.toNat l) (min (Int.toNat (Option.getD none (↑(Int.toNat (Option.getD (some ((q0a l) + (q14 v))) (q0a l)) - 0) : Int)) - Int.toNat (Option.getD (some (q0a l)) (0 : Int))) (List.length v)) (gL (q00 1) v)) 100) (qCp l i v)) ∧ (True)))))))))))))))))))))))) := by
  delta qMj; delta qMp; delta qMH; delta qCp; delta qGF; delta qIK; delta qIB; delta q14; delta q0a; delta vi
  obtain ⟨h1, h2, h3, h4⟩ := hpre
  obtain ⟨k, rfl⟩ := Int.eq_ofNat_of_zero_le h1
  have hk : k ≤ l.length := by omega
  have e0 : q68 l (k : Int) v = l.take k ++ v ++ l.drop k := rfl
  have el : (q68 l (k : Int) v).length = l.length + v.length := by rw [e0, qLa hk]
  have t1 : ((l.length : Int) + (v.length : Int) - (k : Int)).toNat = l.length + v.length - k := by omega
  have t2 : k + (l.length + v.length - k) = l.length + v.length := by omega
  have t3 : ((k : Int) + (v.length : Int)).toNat = k + v.length := by omega
  have t4 : ((l.length : Int) + (v.length : Int)).toNat = l.length + v.length := by omega
  have t5 : l.length + v.length - (k + v.length) = l.length - k := by omega
  have t6 : min (l.length + v.length - k) v.length = v.length := by omega
  have t7 : min (l.length - k) (l.length - k) = l.length - k := by omega
  have t8 : min (l.length - k) (l.length + v.length - k) = l.length - k := by omega
  have enc1 : ∀ x : q03, (q00 1 x).cells.length = 5 ∧ q65 (q00 1 x) = true := fun x => ⟨rfl, rfl⟩
  simp only [Option.getD_some, Option.getD_none, Int.toNat_natCast, Nat.sub_zero, Nat.zero_add, t1, t2, t3, t4, t5, t6, t7, t8, Int.toNat_zero, el]
  refine ⟨⟨by omega, by omega, by omega, by omega⟩, fun h => ?_, fun _ => ⟨fun h => ?_, fun h => ⟨q0U (by omega), fun h5 => ?_, fun h5 => ?_⟩⟩⟩
  ·have := eq_of_beq h
   omega
  ·have hkn : k = l.length := by have := eq_of_beq h; omega
   subst hkn
   refine ⟨by omega, by omega, q6i enc1, VLe.refl _, ?_, trivial⟩
   rw [← el]
   exact q5k rfl fun j hj => by rw [el] at hj; exact x61 j hj
  ·have h6 := of_decide_eq_true h5
   refine ⟨⟨by omega, by omega, by omega, by omega⟩, q0U (by omega), q0U (by omega), by omega, by omega, by omega, by omega, ⟨by omega, by omega, by omega⟩, q6i enc1, q0U (by omega), ⟨by omega, by omega, by omega⟩, ⟨by omega, by omega, by omega, by omega⟩, q5c enc1 (by omega), VLe.refl _, ?_, trivial⟩
   rw [← el]
   exact q5k rfl fun j hj => by rw [el] at hj; exact x5x hk j hj
  ·have h6 := of_decide_eq_false h5
   refine ⟨q0U (by omega), ⟨by omega, by omega, by omega, by omega⟩, q0U (by omega), ⟨by omega, by omega, by omega, by omega⟩, trivial, trivial, trivial, fun _ => ?_, fun h7 => absurd h7 (by decide)⟩
   refine ⟨q0U (by omega), ⟨by omega, by omega, by omega, by omega⟩, ⟨by omega, by omega, by omega, by omega⟩, q5c enc1 (by omega), ⟨by omega, by omega, by omega, by omega⟩, q6i enc1, VLe.refl _, ?_, trivial⟩
   rw [← el]
   exact q5k rfl fun j hj => by rw [el] at hj; exact x7L hk j hj
 exact Eq.mp (by kernel_rfl) key
theorem x4I : q6N Tryz.prog 241 qRN := by
 refine q2q q1C (tpl := [(0, 5)]) Tryz.func241 rfl (by kernel_rfl) fun args bin ob r bout hDe hob => ?_
 unfold qRN at hDe
 split at hDe
 ·rename_i i0 m0 a1 i2 m2 s0 n0 g0 t0 s2 n2 g2 t2
  cases hDe
  obtain ⟨⟨rfl, rfl, rfl, rfl, hg0⟩, ⟨rfl, rfl, rfl, rfl, hg2⟩, hpre⟩ := hob
  exact ⟨Nat.le_of_ble_eq_true (by kernel_rfl), qWg ((q0M q04) (.sl n0 g0 1)) a1 ((q0M q04) (.sl n2 g2 1)), Eq.mp (by kernel_rfl) htt, Eq.mp (by kernel_rfl) x4P, Eq.mp (by kernel_rfl) (q2K (P := Tryz.prog)), by kernel_rfl, true, n0, 5, q0i, g0, gL (q00 1) ((q0M q04) (.sl n0 g0 1)), [.int .i64 a1, .osl 1 n2], [.int .i64 (a1), .osl 1 (((q0M q04) (.sl n2 g2 1))).length], [.arr 5 n2 g2 q0i], [.arr 5 (((q0M q04) (.sl n2 g2 1))).length (gL (q00 1) ((q0M q04) (.sl n2 g2 1))) q0i], rfl, rfl, args_of_vles (l' := [.int .i64 (a1), .osl 1 (((q0M q04) (.sl n2 g2 1))).length]) ⟨VLe.refl _, VLe.of_eq (by rw [q57]), trivial⟩, rfl, q1B (fun i hi => hg0 i hi) (Or.inl rfl), ⟨qHh hg2, trivial⟩, rfl, (((q0M q04) (.sl n0 g0 1))).length, (q57 _ _ _ _).symm, .inl fun cp_ hcp_ => Eq.mp (by kernel_rfl) (x1v ((q0M q04) (.sl n0 g0 1)) a1 ((q0M q04) (.sl n2 g2 1)) cp_ hcp_ hpre)⟩
 ·cases hDe
theorem qX5 {xs : List ByteArray} {k : Nat} (h : k < xs.tail.length) : q29 (gL q3M xs) 1 k = q3M xs.tail[k] := by
 have h2 : 1 + k < xs.length := by rw [List.length_tail] at h; omega
 have h3 : k + 1 < xs.length := by omega
 simp [q29, gL, h3, List.getElem_tail, Nat.add_comm]
def qHW (s : ByteArray) : Prop := True
noncomputable def qWZ (s : ByteArray) : V := .int .i64 (q10 s)
noncomputable def qJQ : q0G := fun args bin => match args, bin with
 | [.str a0], [] => some (qHW a0, qWZ a0, [])
 | _, _ => none
noncomputable def qTM (s : ByteArray) : q0O :=
 ⟨Nat, fun i => ⟨[(28, q0H q3M 217 (q1i s).tail), (29, .int .i64 (q1i s).tail.length), (30, .int .i64 i)], []⟩,
  fun i => i ≤ (q1i s).tail.length ∧ ∀ j, j < i → q4C ((q1i s).tail.getD j default), fun i => (q1i s).tail.length - i⟩
noncomputable def x0L (s : ByteArray) : Nat → Option q0O := fun rg_ => match rg_ with
 | 9 => some (qTM s)
 | _ => none
noncomputable def x6b : Nat → Option (Fl × q0G) := lk [(232, (.ro, qO0)), (233, (.ro, qSa)), (234, (.ro, qPH))]
theorem x2O : q0D Tryz.prog x6b := q01 qXZ (q01 x0H (q01 qU9 (q07)))
noncomputable def x1E (s : ByteArray) : Cx := ⟨tt, x6b, Tryz.f175.ntmps, [0, 2, 3, 5, 13, 15, 26, 28, 29, 30, 31, 36], [(9, ⟨[(28, none), (29, none), (30, none)], []⟩)], [], x0L s, [], noM, []⟩
noncomputable def q4t (s : ByteArray) : Nat := (List.length (q1i s))
noncomputable def qB0 (s : ByteArray) : Nat := (List.length (List.tail (q1i s)))
def qMz (s : ByteArray) (x : Nat) : Prop := ((x ≤ List.length (List.tail (q1i s))) ∧ (∀ j : Nat, ((j < x) → (q4C (List.getD (List.tail (q1i s)) j default)))))
noncomputable def qBA (s : ByteArray) : Int := (↑(ByteArray.size s) : Int)
theorem x2r (s : ByteArray) (hpre : qHW s) : q0f (x1E s) Tryz.f175 0 [.str (s)] (fun rr => VLe rr (qWZ s)) := by
 have key : ((tq (!decide ((qBA s) > (24 : Int)))) ∧ ((((!decide ((qBA s) > (24 : Int))) = true) → (qJc s (ByteArray.mk #[(47 : UInt8)]))) ∧ ((tq (!decide ((qBA s) > (24 : Int)))) ∧ (((true = true) → ((decide ((qBA s) > (24 : Int)) = false) → ((!decide ((qBA s) > (24 : Int))) = true))) ∧ (∀ b : Bool, ((b = bif decide ((qBA s) > (24 : Int)) then true else decide ((↑(cnt s) : Int) > (4 : Int))) → (((b = true) → (VLe (vi 2) (vi (q10 s)))) ∧ ((b = false) → (((q1R s (ByteArray.mk #[(47 : UInt8)]) = true) → (VLe (vi 0) (vi (q10 s)))) ∧ ((q1R s (ByteArray.mk #[(47 : UInt8)]) = false) → ((qK9 s (ByteArray.mk #[(47 : UInt8)])) ∧ ((tq (!decide ((↑(q4t s) : Int) < (2 : Int)))) ∧ ((((!decide ((↑(q4t s) : Int) < (2 : Int))) = true) → (((0 : Int) ≤ (0 : Int)) ∧ ((0 : Int) < (↑(q4t s) : Int)))) ∧ ((tq (!decide ((↑(q4t s) : Int) < (2 : Int)))) ∧ ((tq (!decide ((↑(q4t s) : Int) < (2 : Int)))) ∧ (((true = true) → ((decide ((↑(q4t s) : Int) < (2 : Int)) = false) → ((!decide ((↑(q4t s) : Int) < (2 : Int))) = true))) ∧ (∀ b_1 : Bool, ((b_1 = bif decide ((↑(q4t s) : Int) < (2 : Int)) then true else !q1R (List.getD (q1i s) 0 default) (ByteArray.mk #[])) → (((b_1 = true) → (VLe (vi 5) (vi (q10 s)))) ∧ ((b_1 = false) → ((((0 : Int) ≤ Option.getD (some (1 : Int)) (0 : Int)) ∧ ((Option.getD (some (1 : Int)) (0 : Int) ≤ Option.getD none (↑(q4t s) : Int)) ∧ (Option.getD none (↑(q4t s) : Int) ≤ (↑(q4t s) : Int)))) ∧ ((q0r 1 (q4t s) (gL q3M (q1i s))) ∧ ((∃ x : Nat, ((SLe (AS.mk [(28, V.sl (Int.toNat (Option.getD none (↑(q4t s) : Int)) - 1) (match (motive := Option Int → Nat → V) some (1 : Int) with | none => gL q3M (q1i s) | some val => q29 (gL q3M (q1i s)) 1) 217), (29, vi (↑(Int.toNat (Option.getD none (↑(q4t s) : Int)) - 1) : Int)), (30, vi 0)] []) (AS.mk [(28, q0H q3M 217 (List.tail (q1i s))), (29, vi (↑(qB0 s) : Int)), (30, vi (↑x : Int))] [])) ∧ (qMz s x))) ∧ (∀ x : Nat, ((qMz s x) → (((decide ((↑x : Int) < (↑(qB0 s) : Int)) = true) → ((((0 : Int) ≤ (↑x : Int)) ∧ ((↑x : Int) < (↑(qB0 s) : Int))) ∧ ((qF0 (List.getD (List.tail (q1i s)) (Int.toNat (↑x : Int)) default)) ∧ ((((!decide (q4C (List.getD (List.tail (q1i s)) (Int.toNat (↑x : Int)) default))) = true) → (VLe (vi 5) (vi (q10 s)))) ∧ (((!decide (q4C (List.getD (List.tail (q1i s)) (Int.toNat (↑x : Int)) default))) = false) → ((inK IntKind.i64 ((↑x : Int) + (1 : Int))) ∧ (∃ y : Nat, ((SLe (AS.mk [(28, q0H q3M 217 (List.tail (q1i s))), (29, vi (↑(qB0 s) : Int)), (30, vi ((↑x : Int) + (1 : Int)))] []) (AS.mk [(28, q0H q3M 217 (List.tail (q1i s))), (29, vi (↑(qB0 s) : Int)), (30, vi (↑y : Int))] [])) ∧ (((y ≤ List.length (List.tail (q1i s))) ∧ (∀ j : Nat, ((j < y) → (q4C (List.getD (List.tail (q1i s)) j default))))) ∧ (List.length (List.tail (q1i s)) - y < List.length (List.tail (q1i s)) - x)))))))))) ∧ ((decide ((↑x : Int) < (↑(qB0 s) : Int)) = false) → (VLe (vi 0) (vi (q10 s)))))))))))))))))))))))))))))) := by
  delta qBA; delta qMz; delta qB0; delta q4t; delta vi
  repeat (first | (refine And.intro (fun h _ => h) ?_) | (refine And.intro (fun _ h => h) ?_) | (refine And.intro ?aa ?_; case aa => (exact (fun h => ⟨rfl, by simp at h; omega⟩))) | (refine And.intro ?aa ?_; case aa => (intros; simp_all [qJc, qK9, qF0]; done)) | (refine And.intro ?aa ?_; case aa => (intros; exact q0U (by omega))) | (refine And.intro ?aa ?_; case aa => (intros; simp only [decide_eq_true_eq] at *; omega)) | (intro q hq))
  have e0 : q = decide (24 < s.size ∨ 4 < cnt s) := by
   subst_vars
   rw [Bool.eq_iff_iff, decide_eq_true_eq]
   by_cases a1 : (s.size : Int) > 24 <;> by_cases a2 : (cnt s : Int) > 4 <;> simp [a1, a2] <;> omega
  clear hq
  simp only [q16] at *
  refine ⟨fun h => ?_, fun h => ⟨fun h2 => ?_, fun h2 => ?_⟩⟩
  ·rw [e0] at h; exact q0J (by unfold q10; rw [if_pos (of_decide_eq_true h)])
  ·rw [e0] at h
   exact q0J (by unfold q10; rw [if_neg (of_decide_eq_false h), if_pos (Or.inl (of_decide_eq_true h2))])
  rw [e0] at h
  have h1 := of_decide_eq_false h
  have e1 : q10 s = if s = top ∨ q56 s then 0 else 5 := if_neg h1
  clear e0 h
  have hne := of_decide_eq_false h2
  have hsz : s.size ≤ 24 := by omega
  have hlen : (q1i s).length ≤ 5 := by rw [q9v]; omega
  refine ⟨⟨rfl, by omega⟩, ?_⟩
  repeat (first | (refine And.intro (fun h _ => h) ?_) | (refine And.intro (fun _ h => h) ?_) | (refine And.intro ?aa ?_; case aa => (exact (fun h => ⟨by omega, by simp at h; omega⟩))) | (refine And.intro ?aa ?_; case aa => (intros; simp_all [qJc, qK9, qF0]; done)) | (refine And.intro ?aa ?_; case aa => (intros; exact q0U (by omega))) | (refine And.intro ?aa ?_; case aa => (intros; simp only [decide_eq_true_eq] at *; omega)) | (intro q hq))
  have e2 : q = decide (¬ (2 ≤ (q1i s).length ∧ (q1i s).getD 0 default = q1Q)) := by
   subst_vars
   rw [Bool.eq_iff_iff, decide_eq_true_eq]
   by_cases a1 : ((q1i s).length : Int) < 2
   ·simp only [a1, decide_true, cond_true, true_iff]; omega
   ·by_cases a2 : (q1i s).getD 0 default = q1Q
    ·simp only [a1, a2, decide_false, cond_false, decide_true, Bool.not_true, Bool.false_eq_true, false_iff, and_true]; omega
    ·simp only [a1, a2, decide_false, cond_false, Bool.not_false, and_false, not_false_eq_true]
  clear hq
  refine ⟨fun h3 => ?_, fun h3 => ?_⟩
  ·rw [e2] at h3
   exact q0J (by rw [e1, if_neg fun g => g.elim hne fun g => of_decide_eq_true h3 ⟨g.1, g.2.1⟩])
  rw [e2] at h3
  have h4 := Classical.not_not.1 (of_decide_eq_false h3)
  have hl := h4.1
  have ht : (q1i s).tail.length = (q1i s).length - 1 := List.length_tail
  refine ⟨⟨by simp, by simp; omega, by simp⟩, fun i hi => ⟨rfl, rfl⟩, ⟨0, ?_, by omega, fun j hj => by omega⟩, ?_⟩
  ·exact q1X ⟨rfl, q3A (by simp) (fun k hk => qX5 hk) (Or.inl rfl), rfl, q0J (by simp), rfl, VLe.refl _, trivial⟩ trivial
  rintro i ⟨hi, hj⟩
  refine ⟨fun h => ?_, fun h => ?_⟩
  ·have hlt : i < (q1i s).tail.length := by simp only [decide_eq_true_eq] at h; omega
   have hin : (q1i s).tail.getD i default ∈ (q1i s).tail := by
    rw [List.getD_eq_getElem?_getD, List.getElem?_eq_getElem hlt]
    exact List.getElem_mem hlt
   rw [Int.toNat_natCast]
   refine ⟨⟨by omega, by omega⟩, ?_, fun h5 => ?_, fun h5 => ⟨q0U (by omega), i + 1, SLe.refl _, ⟨by omega, fun j h6 => ?_⟩, by omega⟩⟩
   ·have := qNf (List.mem_of_mem_tail hin)
    show ByteArray.size _ ≤ 1000
    omega
   ·refine q0J ?_
    rw [e1, if_neg]
    rintro (g | g)
    ·exact hne g
    ·have := g.2.2 _ hin
     rw [decide_eq_true this] at h5
     cases h5
   ·rcases Nat.lt_or_ge j i with h7 | h7
    ·exact hj j h7
    ·have : j = i := by omega
     subst this
     exact Classical.byContradiction fun g => by
      rw [decide_eq_false g] at h5
      cases h5
  ·have hge : i = (q1i s).tail.length := by simp only [decide_eq_false_iff_not] at h; omega
   refine q0J ?_
   rw [e1, if_pos]
   refine Or.inr ⟨h4.1, h4.2, fun p hp => ?_⟩
   obtain ⟨j, hj2, rfl⟩ := List.getElem_of_mem hp
   have := hj j (by omega)
   rwa [List.getD_eq_getElem?_getD, List.getElem?_eq_getElem hj2] at this
 exact Eq.mp (by kernel_rfl) key
theorem qOa : q0T Tryz.prog 175 qJQ := by
 refine q09 q1C (pol := 0) Tryz.func175 rfl (by kernel_rfl) fun args bin ob r bout hDe hob => ?_
 unfold qJQ at hDe
 split at hDe
 ·rename_i a0
  cases hDe
  exact okB (x2r a0 (hob)) x2O (args_of_vles ⟨VLe.refl _, trivial⟩)
 ·cases hDe
def qOg (s : ByteArray) : Prop := s.size ≤ 24
noncomputable def qXE (s : ByteArray) : V := .tup [q0H q3M 2 (qCd s), .bool (decide (s = top ∨ q56 s))]
noncomputable def qSn : q0G := fun args bin => match args, bin with
 | [.str a0], [] => some (qOg a0, qXE a0, [])
 | _, _ => none
noncomputable def qRE (s : ByteArray) : q0O :=
 ⟨Nat, fun i => ⟨[(0, .str s), (4, q0H q3M 210 (q1i s)), (5, .int .i64 (i + 1))], []⟩,
  fun i => i + 1 ≤ (q1i s).length ∧ ∀ j, j < i → q4C ((q1i s).tail.getD j default), fun i => (q1i s).tail.length - i⟩
noncomputable def x3v (s : ByteArray) : Nat → Option q0O := fun rg_ => match rg_ with
 | 7 => some (qRE s)
 | _ => none
noncomputable def x7s : Nat → Option (Fl × q0G) := lk [(246, (.ro, qOx)), (251, (.ro, qNt))]
theorem x3i : q0D Tryz.prog x7s := q01 qWF (q01 qWo (q07))
noncomputable def x5h (s : ByteArray) : Cx := ⟨tt, x7s, Tryz.f247.ntmps, [0, 2, 3, 4, 5, 7, 19, 23, 31], [(7, ⟨[(0, none), (4, none), (5, none)], []⟩)], [], x3v s, [], noM, []⟩
noncomputable def qEk (s : ByteArray) : V := (V.tup [q0H q3M 2 (qCd s), V.bool (decide (s = top ∨ q56 s))])
noncomputable def q45 (s : ByteArray) : Nat := (List.length (q1i s))
def qKE (s : ByteArray) (x : Nat) : Prop := ((x + 1 ≤ List.length (q1i s)) ∧ (∀ j : Nat, ((j < x) → (q4C (List.getD (List.tail (q1i s)) j default)))))
theorem x5B (s : ByteArray) (hpre : qOg s) : q0f (x5h s) Tryz.f247 1 [.str (s)] (fun rr => VLe rr (qXE s)) := by
 have key : (((q1R s (ByteArray.mk #[(47 : UInt8)]) = true) → (VLe (V.tup [V.sl 0 (q2o []) 2, V.bool true]) (qEk s))) ∧ ((q1R s (ByteArray.mk #[(47 : UInt8)]) = false) → ((qJo s (47 : Int)) ∧ ((tq (!decide ((↑(q45 s) : Int) < (2 : Int)))) ∧ ((((!decide ((↑(q45 s) : Int) < (2 : Int))) = true) → (((0 : Int) ≤ (0 : Int)) ∧ ((0 : Int) < (↑(q45 s) : Int)))) ∧ ((tq (!decide ((↑(q45 s) : Int) < (2 : Int)))) ∧ ((tq (!decide ((↑(q45 s) : Int) < (2 : Int)))) ∧ (((true = true) → ((decide ((↑(q45 s) : Int) < (2 : Int)) = false) → ((!decide ((↑(q45 s) : Int) < (2 : Int))) = true))) ∧ (∀ b : Bool, ((b = bif decide ((↑(q45 s) : Int) < (2 : Int)) then true else !q1R (List.getD (q1i s) 0 default) (ByteArray.mk #[])) → (((b = true) → (VLe (V.tup [V.nil, V.bool false]) (qEk s))) ∧ ((b = false) → ((∃ x : Nat, ((SLe (AS.mk [(0, V.str s), (4, q0H q3M 210 (q1i s)), (5, vi 1)] []) (AS.mk [(0, V.str s), (4, q0H q3M 210 (q1i s)), (5, vi ((↑x : Int) + (1 : Int)))] [])) ∧ (qKE s x))) ∧ (∀ x : Nat, ((qKE s x) → (((decide ((↑x : Int) + (1 : Int) < (↑(q45 s) : Int)) = true) → ((((0 : Int) ≤ (↑x : Int) + (1 : Int)) ∧ ((↑x : Int) + (1 : Int) < (↑(q45 s) : Int))) ∧ ((qIt (List.getD (q1i s) (Int.toNat ((↑x : Int) + (1 : Int))) default)) ∧ ((((!decide (q4C (List.getD (q1i s) (Int.toNat ((↑x : Int) + (1 : Int))) default))) = true) → (VLe (V.tup [V.nil, V.bool false]) (qEk s))) ∧ (((!decide (q4C (List.getD (q1i s) (Int.toNat ((↑x : Int) + (1 : Int))) default))) = false) → ((inK IntKind.i64 ((↑x : Int) + (1 : Int) + (1 : Int))) ∧ (∃ y : Nat, ((SLe (AS.mk [(0, V.str s), (4, q0H q3M 210 (q1i s)), (5, vi ((↑x : Int) + (1 : Int) + (1 : Int)))] []) (AS.mk [(0, V.str s), (4, q0H q3M 210 (q1i s)), (5, vi ((↑y : Int) + (1 : Int)))] [])) ∧ (((y + 1 ≤ List.length (q1i s)) ∧ (∀ j : Nat, ((j < y) → (q4C (List.getD (List.tail (q1i s)) j default))))) ∧ (List.length (List.tail (q1i s)) - y < List.length (List.tail (q1i s)) - x)))))))))) ∧ ((decide ((↑x : Int) + (1 : Int) < (↑(q45 s) : Int)) = false) → ((((0 : Int) ≤ Option.getD (some (1 : Int)) (0 : Int)) ∧ ((Option.getD (some (1 : Int)) (0 : Int) ≤ Option.getD none (↑(q45 s) : Int)) ∧ (Option.getD none (↑(q45 s) : Int) ≤ (↑(q45 s) : Int)))) ∧ ((q0r 1 (q45 s) (gL q3M (q1i s))) ∧ (VLe (V.tup [V.sl (Int.toNat (Option.getD none (↑(q45 s) : Int)) - 1) (match (motive := Option Int → Nat → V) some (1 : Int) with | none => gL q3M (q1i s) | some val => q29 (gL q3M (q1i s)) 1) 2, V.bool true]) (qEk s))))))))))))))))))))) := by
  delta qKE; delta q45; delta qEk; delta vi
  have hs : s.size ≤ 24 := hpre
  simp only [q16]
  have dn : ∀ {a b : Bool}, a = b → VLe (.bool a) (.bool b) := q0e
  refine ⟨fun h => ?_, fun h => ?_⟩
  ·have h1 := of_decide_eq_true h
   have e1 : qCd s = [] := if_pos (Or.inl h1)
   rw [e1]
   exact q97 ⟨q3A rfl (fun k hk => absurd hk (Nat.not_lt_zero k)) (Or.inl rfl), q0e (decide_eq_true (Or.inl h1)).symm, trivial⟩
  have hne := of_decide_eq_false h
  have bad : ¬ q56 s → VLe (.tup [.nil, .bool false]) (.tup [q0H q3M 2 (qCd s), .bool (decide (s = top ∨ q56 s))]) := fun g => by
   have e1 : qCd s = [] := if_pos (Or.inr g)
   rw [e1]
   exact q97 ⟨qOL _ _, q0e (decide_eq_false fun k => k.elim hne g).symm, trivial⟩
  refine ⟨⟨rfl, by omega⟩, ?_⟩
  have hlen : (q1i s).length ≤ 25 := by
   rw [q9v]
   have : cnt s ≤ s.size := by unfold cnt; rw [q2W]; exact List.count_le_length
   omega
  repeat (first | (refine And.intro (fun h _ => h) ?_) | (refine And.intro (fun _ h => h) ?_) | (refine And.intro ?aa ?_; case aa => (exact (fun h => ⟨by omega, by simp at h; omega⟩))) | (refine And.intro ?aa ?_; case aa => (intros; simp_all [qJo, qIt]; done)) | (refine And.intro ?aa ?_; case aa => (intros; exact q0U (by omega))) | (refine And.intro ?aa ?_; case aa => (intros; simp only [decide_eq_true_eq] at *; omega)) | (intro q hq))
  have e2 : q = decide (¬ (2 ≤ (q1i s).length ∧ (q1i s).getD 0 default = q1Q)) := by
   subst_vars
   rw [Bool.eq_iff_iff, decide_eq_true_eq]
   by_cases a1 : ((q1i s).length : Int) < 2
   ·simp only [a1, decide_true, cond_true, true_iff]; omega
   ·by_cases a2 : (q1i s).getD 0 default = q1Q
    ·simp only [a1, a2, decide_false, cond_false, decide_true, Bool.not_true, Bool.false_eq_true, false_iff, and_true]; omega
    ·simp only [a1, a2, decide_false, cond_false, Bool.not_false, and_false, not_false_eq_true]
  clear hq
  refine ⟨fun h3 => ?_, fun h3 => ?_⟩
  ·rw [e2] at h3
   exact bad fun g => of_decide_eq_true h3 ⟨g.1, g.2.1⟩
  rw [e2] at h3
  have h4 := Classical.not_not.1 (of_decide_eq_false h3)
  have hl := h4.1
  have ht : (q1i s).tail.length = (q1i s).length - 1 := List.length_tail
  refine ⟨⟨0, q1X ⟨rfl, VLe.refl _, rfl, VLe.refl _, rfl, q0J (by simp), trivial⟩ trivial, by omega, fun j hj => by omega⟩, ?_⟩
  rintro i ⟨hi, hj⟩
  have et : (q1i s).getD (i + 1) default = (q1i s).tail.getD i default := by
   rw [List.getD_eq_getElem?_getD, List.getD_eq_getElem?_getD, List.getElem?_tail]
  refine ⟨fun h5 => ?_, fun h5 => ?_⟩
  ·have hlt : i < (q1i s).tail.length := by simp only [decide_eq_true_eq] at h5; omega
   have hin : (q1i s).tail.getD i default ∈ (q1i s).tail := by
    rw [List.getD_eq_getElem?_getD, List.getElem?_eq_getElem hlt]
    exact List.getElem_mem hlt
   have n1 : ((i : Int) + 1).toNat = i + 1 := by omega
   rw [n1, et]
   refine ⟨⟨by omega, by omega⟩, ?_, fun h5 => ?_, fun h5 => ⟨q0U (by omega), i + 1, q1X ⟨rfl, VLe.refl _, rfl, VLe.refl _, rfl, q0J (by omega), trivial⟩ trivial, ⟨by omega, fun j h6 => ?_⟩, by omega⟩⟩
   ·have := qNf (List.mem_of_mem_tail hin)
    show ByteArray.size _ ≤ 1000
    omega
   ·refine bad fun g => ?_
    have := g.2.2 _ hin
    rw [decide_eq_true this] at h5
    cases h5
   ·rcases Nat.lt_or_ge j i with h7 | h7
    ·exact hj j h7
    ·have : j = i := by omega
     subst this
     exact Classical.byContradiction fun g => by
      rw [decide_eq_false g] at h5
      cases h5
  ·have hge : i = (q1i s).tail.length := by simp only [decide_eq_false_iff_not] at h5; omega
   have hok : q56 s := by
    refine ⟨h4.1, h4.2, fun p hp => ?_⟩
    obtain ⟨j, hj2, rfl⟩ := List.getElem_of_mem hp
    have := hj j (by omega)
    rwa [List.getD_eq_getElem?_getD, List.getElem?_eq_getElem hj2] at this
   have e1 : qCd s = (q1i s).tail := if_neg fun g => g.elim hne fun g => g hok
   rw [e1]
   refine ⟨⟨by simp, by simp; omega, by simp⟩, fun i hi => ⟨rfl, rfl⟩, q97 ⟨q3A (by simp) (fun k hk => qX5 hk) (Or.inl rfl), q0e (decide_eq_true (Or.inr hok)).symm, trivial⟩⟩
 exact Eq.mp (by kernel_rfl) key
theorem qZ8 : q0T Tryz.prog 247 qSn := by
 refine q09 q1C (pol := 1) Tryz.func247 rfl (by kernel_rfl) fun args bin ob r bout hDe hob => ?_
 unfold qSn at hDe
 split at hDe
 ·rename_i a0
  cases hDe
  exact okB (x5B a0 (hob)) x3i (args_of_vles ⟨VLe.refl _, trivial⟩)
 ·cases hDe
def qGj (s : ByteArray) : Prop := True
noncomputable def qXa (s : ByteArray) : V := .int .i64 (q10 s)
noncomputable def qKq : q0G := fun args bin => match args, bin with
 | [.str a0], [] => some (qGj a0, qXa a0, [])
 | _, _ => none
noncomputable def x7R : Nat → Option (Fl × q0G) := lk [(246, (.ro, qOx)), (247, (.ro, qSn))]
theorem x0O : q0D Tryz.prog x7R := q01 qWF (q01 qZ8 (q07))
noncomputable def x5H (s : ByteArray) : Cx := ⟨tt, x7R, Tryz.f191.ntmps, [0, 2, 4, 17, 24], [], [], fun _ => none, [], noM, []⟩
noncomputable def q51 (s : ByteArray) : Int := (↑(ByteArray.size s) : Int)
theorem x0w (s : ByteArray) (hpre : qGj s) : q0f (x5H s) Tryz.f191 0 [.str (s)] (fun rr => VLe rr (qXa s)) := by
 have key : ((tq (!decide ((q51 s) > (24 : Int)))) ∧ ((tq (!decide ((q51 s) > (24 : Int)))) ∧ ((tq (!decide ((q51 s) > (24 : Int)) && !q1R s (ByteArray.mk #[(47 : UInt8)]))) ∧ ((((!decide ((q51 s) > (24 : Int)) && !q1R s (ByteArray.mk #[(47 : UInt8)])) = true) → (qJo s (47 : Int))) ∧ ((tq (!decide ((q51 s) > (24 : Int)) && !q1R s (ByteArray.mk #[(47 : UInt8)]))) ∧ ((tq (!decide ((q51 s) > (24 : Int)) && !q1R s (ByteArray.mk #[(47 : UInt8)]))) ∧ ((tq (!decide ((q51 s) > (24 : Int)))) ∧ ((((!decide ((q51 s) > (24 : Int))) = true) → (((!decide ((q51 s) > (24 : Int))) = true) → (((!q1R s (ByteArray.mk #[(47 : UInt8)])) = true) → ((!decide ((q51 s) > (24 : Int)) && !q1R s (ByteArray.mk #[(47 : UInt8)])) = true)))) ∧ (∀ b : Bool, ((b = bif !q1R s (ByteArray.mk #[(47 : UInt8)]) then decide ((↑(List.length (q1i s)) : Int) > (5 : Int)) else false) → (((true = true) → ((decide ((q51 s) > (24 : Int)) = false) → ((!decide ((q51 s) > (24 : Int))) = true))) ∧ (∀ b_1 : Bool, ((b_1 = bif decide ((q51 s) > (24 : Int)) then true else b) → (((b_1 = true) → (VLe (vi 2) (vi (q10 s)))) ∧ ((b_1 = false) → ((qOg s) ∧ ((((!decide (s = top ∨ q56 s)) = true) → (VLe (vi 5) (vi (q10 s)))) ∧ (((!decide (s = top ∨ q56 s)) = false) → (VLe (vi 0) (vi (q10 s))))))))))))))))))))) := by
  delta q51; delta vi
  repeat (first | (refine And.intro (fun h _ => h) ?_) | (refine And.intro (fun _ h => h) ?_) | (refine And.intro ?aa ?_; case aa => (exact (fun h => ⟨rfl, by simp at h; omega⟩))) | (refine And.intro ?aa ?_; case aa => (intros; simp_all [qJo, qOg]; done)) | (refine And.intro ?aa ?_; case aa => (intros; exact q0U (by omega))) | (refine And.intro ?aa ?_; case aa => (intros; simp only [decide_eq_true_eq] at *; omega)) | (intro q hq))
  have hc := q9v s
  have e0 : q = decide (24 < s.size ∨ s ≠ top ∧ 4 < cnt s) := by
   subst_vars
   simp only [q16]
   rw [Bool.eq_iff_iff, decide_eq_true_eq]
   by_cases a1 : (s.size : Int) > 24
   ·simp [a1]; omega
   ·by_cases a2 : s = top
    ·simp [a1, a2]
     omega
    ·by_cases a3 : ((q1i s).length : Int) > 5 <;> simp [a1, a2, a3] <;> omega
  clear hq
  have htop : s = top → cnt s = 1 := fun e => by rw [e]; rfl
  have e3 : q = decide (24 < s.size ∨ 4 < cnt s) := by
   rw [e0, decide_eq_decide]
   by_cases a2 : s = top
   ·have := htop a2
    simp [a2, this]
    rw [a2] at this
    omega
   ·simp [a2]
  refine ⟨fun h => ?_, fun h => ?_⟩
  ·rw [e3] at h
   exact q0J (by unfold q10; rw [if_pos (of_decide_eq_true h)])
  rw [e3] at h
  have h1 := of_decide_eq_false h
  have e1 : q10 s = if s = top ∨ q56 s then 0 else 5 := if_neg h1
  refine ⟨by show s.size ≤ 24; omega, fun h2 => ?_, fun h2 => ?_⟩
  ·have h3 : ¬ (s = top ∨ q56 s) := by simpa using h2
   exact q0J (by rw [e1, if_neg h3])
  ·have h3 : s = top ∨ q56 s := Classical.byContradiction fun g => by
    rw [decide_eq_false g] at h2
    cases h2
   exact q0J (by rw [e1, if_pos h3])
 exact Eq.mp (by kernel_rfl) key
theorem qT3 : q0T Tryz.prog 191 qKq := by
 refine q09 q1C (pol := 0) Tryz.func191 rfl (by kernel_rfl) fun args bin ob r bout hDe hob => ?_
 unfold qKq at hDe
 split at hDe
 ·rename_i a0
  cases hDe
  exact okB (x0w a0 (hob)) x0O (args_of_vles ⟨VLe.refl _, trivial⟩)
 ·cases hDe
def qRR (s : ByteArray) (c : Int) : Prop := c = 47 ∧ s.size ≤ 1000 ∧ q73 s
noncomputable def qWv (s : ByteArray) (c : Int) : V := .int .i64 (q1S s)
noncomputable def qSN : q0G := fun args bin => match args, bin with
 | [.str a0, .int .u8 a1], [] => some (qRR a0 a1, qWv a0 a1, [])
 | _, _ => none
noncomputable def qRg (s : ByteArray) (c : Int) : q0O :=
 ⟨Nat, fun k => ⟨[(0, .str s), (1, .int .u8 47), (5, .int .i64 ((k : Int) - 1))], []⟩,
  fun k => 1 ≤ k ∧ k ≤ s.size ∧ q2a s k = q1S s, fun k => k⟩
noncomputable def x48 (s : ByteArray) (c : Int) : Nat → Option q0O := fun rg_ => match rg_ with
 | 2 => some (qRg s c)
 | _ => none
noncomputable def x7T : Nat → Option (Fl × q0G) := lk []
theorem x2T : q0D Tryz.prog x7T := q07
noncomputable def qZz (s : ByteArray) (c : Int) : Cx := ⟨tt, x7T, Tryz.f277.ntmps, [0, 1, 4, 5, 10, 17], [(2, ⟨[(0, none), (1, none), (5, none)], []⟩)], [], x48 s c, [], noM, []⟩
theorem qYy (s : ByteArray) (c : Int) (hpre : qRR s c) : q0f (qZz s c) Tryz.f277 0 [.str (s), .int .u8 (c)] (fun rr => VLe rr (qWv s c)) := by
 have key : ((inK IntKind.i64 ((↑(ByteArray.size s) : Int) - (1 : Int))) ∧ ((∃ x : Nat, ((SLe (AS.mk [(0, V.str s), (1, V.int IntKind.u8 c), (5, vi ((↑(ByteArray.size s) : Int) - (1 : Int)))] []) (AS.mk [(0, V.str s), (1, V.int IntKind.u8 (47 : Int)), (5, vi ((↑x : Int) - (1 : Int)))] [])) ∧ ((1 ≤ x) ∧ ((x ≤ ByteArray.size s) ∧ (q2a s x = q1S s))))) ∧ (∀ x : Nat, (((1 ≤ x) ∧ ((x ≤ ByteArray.size s) ∧ (q2a s x = q1S s))) → (((decide ((↑x : Int) - (1 : Int) ≥ (0 : Int)) = true) → ((((0 : Int) ≤ (↑x : Int) - (1 : Int)) ∧ ((↑x : Int) - (1 : Int) < (↑(ByteArray.size s) : Int))) ∧ ((((q0c s ((↑x : Int) - (1 : Int)) == 47) = true) → (VLe (vi ((↑x : Int) - (1 : Int))) (vi (↑(q1S s) : Int)))) ∧ (((q0c s ((↑x : Int) - (1 : Int)) == 47) = false) → ((inK IntKind.i64 ((↑x : Int) - (1 : Int) - (1 : Int))) ∧ (∃ y : Nat, ((SLe (AS.mk [(0, V.str s), (1, V.int IntKind.u8 (47 : Int)), (5, vi ((↑x : Int) - (1 : Int) - (1 : Int)))] []) (AS.mk [(0, V.str s), (1, V.int IntKind.u8 (47 : Int)), (5, vi ((↑y : Int) - (1 : Int)))] [])) ∧ (((1 ≤ y) ∧ ((y ≤ ByteArray.size s) ∧ (q2a s y = q1S s))) ∧ (y < x))))))))) ∧ ((decide ((↑x : Int) - (1 : Int) ≥ (0 : Int)) = false) → (VLe (vi (-1)) (vi (↑(q1S s) : Int))))))))) := by
  delta vi
  obtain ⟨rfl, hs, hh⟩ := hpre
  obtain ⟨h0, hb⟩ := q4b hh
  refine ⟨q0U (by omega), ⟨s.size, SLe.refl _, by omega, Nat.le_refl _, rfl⟩, ?_⟩
  rintro k ⟨h1, h2, h3⟩
  obtain ⟨k, rfl⟩ : ∃ j, k = j + 1 := ⟨k - 1, by omega⟩
  have n1 : ((k + 1 : Nat) : Int) - 1 = k := by omega
  simp only [n1]
  have e : q2a s (k + 1) = if q0c s k = 47 then k else q2a s k := rfl
  refine ⟨fun _ => ⟨⟨by omega, by omega⟩, fun h => ?_, fun h => ?_⟩, fun h => ?_⟩
  ·have := eq_of_beq h
   rw [if_pos this] at e
   exact q0J (by rw [← h3, e])
  ·have hne : ¬ q0c s k = 47 := by simpa using h
   rw [if_neg hne] at e
   have hk : k ≠ 0 := fun g => by subst g; exact hne hb
   exact ⟨q0U (by omega), k, SLe.refl _, ⟨by omega, by omega, by rw [← e, h3]⟩, by omega⟩
  ·have := of_decide_eq_false h
   omega
 exact Eq.mp (by kernel_rfl) key
theorem x3h : q0T Tryz.prog 277 qSN := by
 refine q09 q1C (pol := 0) Tryz.func277 rfl (by kernel_rfl) fun args bin ob r bout hDe hob => ?_
 unfold qSN at hDe
 split at hDe
 ·rename_i a0 a1
  cases hDe
  exact okB (qYy a0 a1 (hob)) x2T (args_of_vles ⟨VLe.refl _, VLe.refl _, trivial⟩)
 ·cases hDe
def qRw (s : ByteArray) (sub : ByteArray) : Prop := sub = top ∧ s.size ≤ 1000 ∧ q73 s
noncomputable def qVZ (s : ByteArray) (sub : ByteArray) : V := .int .i64 (q1S s)
noncomputable def qR7 : q0G := fun args bin => match args, bin with
 | [.str a0, .str a1], [] => some (qRw a0 a1, qVZ a0 a1, [])
 | _, _ => none
noncomputable def x6J : Nat → Option (Fl × q0G) := lk [(277, (.ro, qSN))]
theorem x2H : q0D Tryz.prog x6J := q01 x3h (q07)
noncomputable def x1z (s : ByteArray) (sub : ByteArray) : Cx := ⟨tt, x6J, Tryz.f256.ntmps, [0, 1, 4, 5, 8, 13, 20, 27, 28], [], [3, 6], fun _ => none, [], noM, []⟩
theorem qZs (s : ByteArray) (sub : ByteArray) (hpre : qRw s sub) : q0f (x1z s sub) Tryz.f256 0 [.str (s), .str (sub)] (fun rr => VLe rr (qVZ s sub)) := by
 have key : (((((↑(ByteArray.size sub) : Int) == (0 : Int)) = true) → (False)) ∧ ((((↑(ByteArray.size sub) : Int) == (0 : Int)) = false) → (((((↑(ByteArray.size sub) : Int) == (1 : Int)) = true) → ((((0 : Int) ≤ (0 : Int)) ∧ ((0 : Int) < (↑(ByteArray.size sub) : Int))) ∧ ((qRR s (q0c sub (0 : Int))) ∧ (VLe (vi (↑(q1S s) : Int)) (vi (↑(q1S s) : Int)))))) ∧ ((((↑(ByteArray.size sub) : Int) == (1 : Int)) = false) → (False))))) := by
  delta vi
  obtain ⟨rfl, hs, hh⟩ := hpre
  simp only [qE0, qNO]
  exact ⟨fun h => by simp at h, fun h => ⟨fun h => ⟨by simp, ⟨rfl, hs, hh⟩, VLe.refl _⟩, fun h => by simp at h⟩⟩
 exact Eq.mp (by kernel_rfl) key
theorem x0M : q0T Tryz.prog 256 qR7 := by
 refine q09 q1C (pol := 0) Tryz.func256 rfl (by kernel_rfl) fun args bin ob r bout hDe hob => ?_
 unfold qR7 at hDe
 split at hDe
 ·rename_i a0 a1
  cases hDe
  exact okB (qZs a0 a1 (hob)) x2H (args_of_vles ⟨VLe.refl _, VLe.refl _, trivial⟩)
 ·cases hDe
def qHK (s : ByteArray) : Prop := s.size ≤ 1000 ∧ q73 s
noncomputable def qVn (s : ByteArray) : V := .tup [.str (upF s), .str (q35 s)]
noncomputable def qMR : q0G := fun args bin => match args, bin with
 | [.str a0], [] => some (qHK a0, qVn a0, [])
 | _, _ => none
noncomputable def x76 : Nat → Option (Fl × q0G) := lk [(256, (.ro, qR7))]
theorem qZu : q0D Tryz.prog x76 := q01 x0M (q07)
noncomputable def x40 (s : ByteArray) : Cx := ⟨tt, x76, Tryz.f204.ntmps, [0, 2, 3, 4], [], [], fun _ => none, [], noM, []⟩
noncomputable def q82 (s : ByteArray) : Int := (↑(ByteArray.size s) : Int)
theorem qYs (s : ByteArray) (hpre : qHK s) : q0f (x40 s) Tryz.f204 0 [.str (s)] (fun rr => VLe rr (qVn s)) := by
 have key : ((qRw s (ByteArray.mk #[(47 : UInt8)])) ∧ ((((0 : Int) ≤ Option.getD none (0 : Int)) ∧ ((Option.getD none (0 : Int) ≤ Option.getD (some (if (1 : Int) > (↑(q1S s) : Int) then (1 : Int) else (↑(q1S s) : Int))) (q82 s)) ∧ (Option.getD (some (if (1 : Int) > (↑(q1S s) : Int) then (1 : Int) else (↑(q1S s) : Int))) (q82 s) ≤ (q82 s)))) ∧ ((inK IntKind.i64 ((↑(q1S s) : Int) + (1 : Int))) ∧ ((((0 : Int) ≤ Option.getD (some ((↑(q1S s) : Int) + (1 : Int))) (0 : Int)) ∧ ((Option.getD (some ((↑(q1S s) : Int) + (1 : Int))) (0 : Int) ≤ Option.getD none (q82 s)) ∧ (Option.getD none (q82 s) ≤ (q82 s)))) ∧ (VLe (V.tup [V.str (ByteArray.extract s 0 (Int.toNat (Option.getD (some (if (1 : Int) > (↑(q1S s) : Int) then (1 : Int) else (↑(q1S s) : Int))) (q82 s)))), V.str (ByteArray.extract s (Int.toNat (Option.getD (some ((↑(q1S s) : Int) + (1 : Int))) (0 : Int))) (Int.toNat (Option.getD none (q82 s))))]) (V.tup [V.str (upF s), V.str (q35 s)])))))) := by
  delta q82
  obtain ⟨hs, hh⟩ := hpre
  obtain ⟨h0, hb⟩ := q4b hh
  have hl : q1S s < s.size := q6O _ h0
  have n1 : (if (1 : Int) > (q1S s : Int) then 1 else (q1S s : Int)) = ((max (q1S s) 1 : Nat) : Int) := by
   split <;> omega
  have n2 : ((q1S s : Int) + 1).toNat = q1S s + 1 := by omega
  simp only [n1, n2, Option.getD_some, Option.getD_none, Int.toNat_natCast]
  refine ⟨⟨rfl, hs, hh⟩, ⟨by omega, by omega, by omega⟩, q0U (by omega), ⟨by omega, by omega, by omega⟩, q97 ⟨q5r (x1x hh), VLe.refl _, trivial⟩⟩
 exact Eq.mp (by kernel_rfl) key
theorem qRP : q0T Tryz.prog 204 qMR := by
 refine q09 q1C (pol := 0) Tryz.func204 rfl (by kernel_rfl) fun args bin ob r bout hDe hob => ?_
 unfold qMR at hDe
 split at hDe
 ·rename_i a0
  cases hDe
  exact okB (qYs a0 (hob)) qZu (args_of_vles ⟨VLe.refl _, trivial⟩)
 ·cases hDe
def qKH (s : ByteArray) : Prop := s.size ≤ 1000
noncomputable def qXT (s : ByteArray) : V := .int .i64 (q1S s)
noncomputable def qLB : q0G := fun args bin => match args, bin with
 | [.str a0], [] => some (qKH a0, qXT a0, [])
 | _, _ => none
noncomputable def qS4 (s : ByteArray) : q0O :=
 ⟨Nat, fun i => ⟨[(0, .str s), (3, .int .i64 (q2a s i)), (4, .int .i64 i)], []⟩,
  fun i => i ≤ s.size, fun i => s.size - i⟩
noncomputable def x4u (s : ByteArray) : Nat → Option q0O := fun rg_ => match rg_ with
 | 3 => some (qS4 s)
 | _ => none
noncomputable def x6q : Nat → Option (Fl × q0G) := lk []
theorem qZT : q0D Tryz.prog x6q := q07
noncomputable def qZF (s : ByteArray) : Cx := ⟨tt, x6q, Tryz.f250.ntmps, [0, 2, 3, 4, 8, 14], [(3, ⟨[(0, none), (3, none), (4, none)], []⟩)], [], x4u s, [], noM, []⟩
theorem x5L (s : ByteArray) (hpre : qKH s) : q0f (qZF s) Tryz.f250 0 [.str (s)] (fun rr => VLe rr (qXT s)) := by
 have key : ((∃ x : Nat, ((SLe (AS.mk [(0, V.str s), (3, vi 0), (4, vi 0)] []) (AS.mk [(0, V.str s), (3, vi (↑(q2a s x) : Int)), (4, vi (↑x : Int))] [])) ∧ (x ≤ ByteArray.size s))) ∧ (∀ x : Nat, ((x ≤ ByteArray.size s) → (((decide ((↑x : Int) < (↑(ByteArray.size s) : Int)) = true) → ((((0 : Int) ≤ (↑x : Int)) ∧ ((↑x : Int) < (↑(ByteArray.size s) : Int))) ∧ ((((q0c s (↑x : Int) == (47 : Int)) = true) → ((inK IntKind.i64 ((↑x : Int) + (1 : Int))) ∧ (∃ y : Nat, ((SLe (AS.mk [(0, V.str s), (3, vi (↑x : Int)), (4, vi ((↑x : Int) + (1 : Int)))] []) (AS.mk [(0, V.str s), (3, vi (↑(q2a s y) : Int)), (4, vi (↑y : Int))] [])) ∧ ((y ≤ ByteArray.size s) ∧ (ByteArray.size s - y < ByteArray.size s - x)))))) ∧ (((q0c s (↑x : Int) == (47 : Int)) = false) → ((inK IntKind.i64 ((↑x : Int) + (1 : Int))) ∧ (∃ y : Nat, ((SLe (AS.mk [(0, V.str s), (3, vi (↑(q2a s x) : Int)), (4, vi ((↑x : Int) + (1 : Int)))] []) (AS.mk [(0, V.str s), (3, vi (↑(q2a s y) : Int)), (4, vi (↑y : Int))] [])) ∧ ((y ≤ ByteArray.size s) ∧ (ByteArray.size s - y < ByteArray.size s - x))))))))) ∧ ((decide ((↑x : Int) < (↑(ByteArray.size s) : Int)) = false) → (VLe (vi (↑(q2a s x) : Int)) (vi (↑(q1S s) : Int)))))))) := by
  delta vi
  have hs : s.size ≤ 1000 := hpre
  refine ⟨⟨0, SLe.refl _, by omega⟩, ?_⟩
  intro i hi
  have e : q2a s (i + 1) = if q0c s i = 47 then i else q2a s i := rfl
  refine ⟨fun h => ?_, fun h => ?_⟩
  ·have hlt : i < s.size := by simpa using h
   refine ⟨⟨by omega, by omega⟩, fun h => ⟨q0U (by omega), i + 1, ?_, by omega, by omega⟩, fun h => ⟨q0U (by omega), i + 1, ?_, by omega, by omega⟩⟩
   ·rw [e, if_pos (eq_of_beq h)]
    exact SLe.refl _
   ·rw [e, if_neg (by simpa using h)]
    exact SLe.refl _
  ·have : i = s.size := by simp at h; omega
   subst this
   exact VLe.refl _
 exact Eq.mp (by kernel_rfl) key
theorem qRf : q0T Tryz.prog 250 qLB := by
 refine q09 q1C (pol := 0) Tryz.func250 rfl (by kernel_rfl) fun args bin ob r bout hDe hob => ?_
 unfold qLB at hDe
 split at hDe
 ·rename_i a0
  cases hDe
  exact okB (x5L a0 (hob)) qZT (args_of_vles ⟨VLe.refl _, trivial⟩)
 ·cases hDe
def qDg (s : ByteArray) : Prop := s.size ≤ 1000
noncomputable def qWW (s : ByteArray) : V := .str (upF s)
noncomputable def qMi : q0G := fun args bin => match args, bin with
 | [.str a0], [] => some (qDg a0, qWW a0, [])
 | _, _ => none
noncomputable def x83 : Nat → Option (Fl × q0G) := lk [(250, (.ro, qLB))]
theorem x2B : q0D Tryz.prog x83 := q01 qRf (q07)
noncomputable def x2l (s : ByteArray) : Cx := ⟨tt, x83, Tryz.f221.ntmps, [0, 2, 3, 7], [], [], fun _ => none, [], noM, []⟩
theorem x0y (s : ByteArray) (hpre : qDg s) : q0f (x2l s) Tryz.f221 0 [.str (s)] (fun rr => VLe rr (qWW s)) := by
 have key : ((qKH s) ∧ (((((↑(q1S s) : Int) == (0 : Int)) = true) → (VLe (V.str (ByteArray.mk #[(47 : UInt8)])) (V.str (upF s)))) ∧ ((((↑(q1S s) : Int) == (0 : Int)) = false) → ((((0 : Int) ≤ Option.getD none (0 : Int)) ∧ ((Option.getD none (0 : Int) ≤ Option.getD (some (↑(q1S s) : Int)) (↑(ByteArray.size s) : Int)) ∧ (Option.getD (some (↑(q1S s) : Int)) (↑(ByteArray.size s) : Int) ≤ (↑(ByteArray.size s) : Int)))) ∧ (VLe (V.str (ByteArray.extract s 0 (Int.toNat (Option.getD (some (↑(q1S s) : Int)) (↑(ByteArray.size s) : Int))))) (V.str (upF s))))))) := by
  have hs : s.size ≤ 1000 := hpre
  have hl : q1S s ≤ s.size := q86 _ _
  refine ⟨hs, fun h => ?_, fun h => ?_⟩
  ·have : q1S s = 0 := by simpa using h
   exact q5r (by unfold upF; rw [if_pos this])
  ·have : ¬ q1S s = 0 := by simpa using h
   simp only [Option.getD_some, Option.getD_none, Int.toNat_natCast]
   exact ⟨⟨by omega, by omega, by omega⟩, q5r (by unfold upF; rw [if_neg this])⟩
 exact Eq.mp (by kernel_rfl) key
theorem qTN : q0T Tryz.prog 221 qMi := by
 refine q09 q1C (pol := 0) Tryz.func221 rfl (by kernel_rfl) fun args bin ob r bout hDe hob => ?_
 unfold qMi at hDe
 split at hDe
 ·rename_i a0
  cases hDe
  exact okB (x0y a0 (hob)) x2B (args_of_vles ⟨VLe.refl _, trivial⟩)
 ·cases hDe
theorem tqI (x : Bool) : tq x := fun h _ => h
theorem qXh {n : Int} (h : 0 ≤ n ∧ n ≤ 18446744073709551615) : inK .u64 n := Go.IntWalk.u64_in _ h
theorem x89 (i j : Nat) : ((i : Int) + (j : Int)).fdiv (2 ^ (Int.toNat 1)) = (((i + j) / 2 : Nat) : Int) := by
 rw [Int.fdiv_eq_ediv_of_nonneg _ (by decide)]
 show ((i : Int) + j) / 2 = _
 omega
def qTH (a : ByteArray) (b : ByteArray) : Prop := True
noncomputable def qUp (a : ByteArray) (b : ByteArray) : V := .int .i64 (qJ0 a b)
noncomputable def qSq : q0G := fun args bin => match args, bin with
 | [.str a0, .str a1], [] => some (qTH a0 a1, qUp a0 a1, [])
 | _, _ => none
noncomputable def x6T : Nat → Option (Fl × q0G) := lk [(296, (.ro, qXb))]
theorem x4s : q0D Tryz.prog x6T := q01 x5i (q07)
noncomputable def qZG (a : ByteArray) (b : ByteArray) : Cx := ⟨tt, x6T, Tryz.f289.ntmps, [0, 1, 4], [], [], fun _ => none, [], noM, []⟩
theorem qYP (a : ByteArray) (b : ByteArray) (hpre : qTH a b) : q0f (qZG a b) Tryz.f289 0 [.str (a), .str (b)] (fun rr => VLe rr (qUp a b)) := by
 have key : ((True) ∧ (VLe (vi (Lib.compareBytes (Array.toList (ByteArray.data a)) (Array.toList (ByteArray.data b)))) (vi (qJ0 a b)))) := by
  delta vi
  exact ⟨trivial, VLe.refl _⟩
 exact Eq.mp (by kernel_rfl) key
theorem x4K : q0T Tryz.prog 289 qSq := by
 refine q09 q1C (pol := 0) Tryz.func289 rfl (by kernel_rfl) fun args bin ob r bout hDe hob => ?_
 unfold qSq at hDe
 split at hDe
 ·rename_i a0 a1
  cases hDe
  exact okB (qYP a0 a1 (hob)) x4s (args_of_vles ⟨VLe.refl _, VLe.refl _, trivial⟩)
 ·cases hDe
def qSl (a : ByteArray) (b : ByteArray) : Prop := True
noncomputable def qWS (a : ByteArray) (b : ByteArray) : V := .int .i64 (qJ0 a b)
noncomputable def qRs : q0G := fun args bin => match args, bin with
 | [.str a0, .str a1], [] => some (qSl a0 a1, qWS a0 a1, [])
 | _, _ => none
noncomputable def x7D : Nat → Option (Fl × q0G) := lk [(289, (.ro, qSq))]
theorem x5F : q0D Tryz.prog x7D := q01 x4K (q07)
noncomputable def x4J (a : ByteArray) (b : ByteArray) : Cx := ⟨tt, x7D, Tryz.f275.ntmps, [0, 1, 4], [], [], fun _ => none, [], noM, []⟩
theorem qZD (a : ByteArray) (b : ByteArray) (hpre : qSl a b) : q0f (x4J a b) Tryz.f275 0 [.str (a), .str (b)] (fun rr => VLe rr (qWS a b)) := by
 have key : ((qTH a b) ∧ (VLe (vi (qJ0 a b)) (vi (qJ0 a b)))) := by
  delta vi
  exact ⟨trivial, VLe.refl _⟩
 exact Eq.mp (by kernel_rfl) key
theorem x3L : q0T Tryz.prog 275 qRs := by
 refine q09 q1C (pol := 0) Tryz.func275 rfl (by kernel_rfl) fun args bin ob r bout hDe hob => ?_
 unfold qRs at hDe
 split at hDe
 ·rename_i a0 a1
  cases hDe
  exact okB (qZD a0 a1 (hob)) x5F (args_of_vles ⟨VLe.refl _, VLe.refl _, trivial⟩)
 ·cases hDe
def qLu (z : q03) (t : ByteArray) : Prop := True
noncomputable def qVc (z : q03) (t : ByteArray) : V := .int .i64 (qJ0 z.path t)
noncomputable def qQU : q0G := fun args bin => match args, bin with
 | [a0, .str a1], [] => some (VLe a0 (q00 1 ((q04 a0))) ∧ qLu (q04 a0) a1, qVc (q04 a0) a1, [])
 | _, _ => none
noncomputable def x84 : Nat → Option (Fl × q0G) := lk [(275, (.ro, qRs))]
theorem qYl : q0D Tryz.prog x84 := q01 x3L (q07)
noncomputable def qYH (z : q03) (t : ByteArray) : Cx := ⟨tt, x84, Tryz.f245.ntmps, [0, 1, 2, 4], [], [], fun _ => none, [], noM, []⟩
theorem x1w (z : q03) (t : ByteArray) (hpre : qLu z t) : q0f (qYH z t) Tryz.f245 0 [q00 1 (z), .str (t)] (fun rr => VLe rr (qVc z t)) := by
 have key : ((qSl (q03.path z) t) ∧ (VLe (vi (qJ0 (q03.path z) t)) (vi (qJ0 (q03.path z) t)))) := by
  delta vi
  exact ⟨trivial, VLe.refl _⟩
 exact Eq.mp (by kernel_rfl) key
theorem x4d : q0T Tryz.prog 245 qQU := by
 refine q09 q1C (pol := 0) Tryz.func245 rfl (by kernel_rfl) fun args bin ob r bout hDe hob => ?_
 unfold qQU at hDe
 split at hDe
 ·rename_i a0 a1
  cases hDe
  exact okB (x1w (q04 a0) a1 (hob.2)) qYl (args_of_vles ⟨hob.1, VLe.refl _, trivial⟩)
 ·cases hDe
def qBZ (l : List q03) (t : ByteArray) : Prop := q3Z l ∧ l.length ≤ 1000
noncomputable def qFR (l : List q03) (t : ByteArray) : V := .tup [.int .i64 (q20 l t), .bool (isZ l t)]
noncomputable def qAA : q0G := fun args bin => match args, bin with
 | [a0, .str a1, .fn 245 []], [] => some (VLe a0 (q0H (q00 1) 1 (((q0M q04) a0))) ∧ qBZ ((q0M q04) a0) a1, qFR ((q0M q04) a0) a1, [])
 | _, _ => none
noncomputable def qGc (l : List q03) (t : ByteArray) : q0O :=
 ⟨Nat × Nat, fun p => ⟨[(0, q0H (q00 1) 1 l), (1, .str t), (2, .fn 245 []), (8, .int .i64 l.length), (9, .int .i64 p.1), (10, .int .i64 p.2)], []⟩,
  fun p => p.1 ≤ p.2 ∧ p.2 ≤ l.length ∧ (∀ k, k < p.1 → lt (atZ l k).path t) ∧ (p.2 < l.length → ¬ lt (atZ l p.2).path t), fun p => p.2 - p.1⟩
noncomputable def qKa (l : List q03) (t : ByteArray) : Nat → Option q0O := fun rg_ => match rg_ with
 | 3 => some (qGc l t)
 | _ => none
noncomputable def qIn : Nat → Option (Fl × q0G) := lk [(245, (.ro, qQU))]
theorem qNM : q0D Tryz.prog qIn := q01 x4d (q07)
noncomputable def qLU (l : List q03) (t : ByteArray) : Cx := ⟨tt, qIn, Tryz.f244.ntmps, [0, 1, 2, 6, 7, 8, 9, 10, 11, 17, 31], [(3, ⟨[(0, none), (1, none), (2, none), (8, none), (9, none), (10, none)], []⟩)], [], qKa l t, [], noM, []⟩
noncomputable def q4c (l : List q03) (x : Nat × Nat) : V := (q00 1 (List.getD l (Int.toNat (Int.fdiv ((↑x.1 : Int) + (↑x.2 : Int)) ((2 : Int) ^ Int.toNat (1 : Int)))) default))
noncomputable def q1f (l : List q03) : Int := (↑(List.length l) : Int)
def q9E (l : List q03) (t : ByteArray) (x : Nat × Nat) (y : Nat × Nat) : Prop := (((Prod.fst y ≤ Prod.snd y) ∧ ((Prod.snd y ≤ List.length l) ∧ ((∀ k : Nat, ((k < Prod.fst y) → (lt (q03.path (atZ l k)) t))) ∧ ((Prod.snd y < List.length l) → (¬lt (q03.path (atZ l y.2)) t))))) ∧ (Prod.snd y - Prod.fst y < Prod.snd x - Prod.fst x))
def q8g (l : List q03) (t : ByteArray) (x : Nat × Nat) : Prop := ((Prod.fst x ≤ Prod.snd x) ∧ ((Prod.snd x ≤ List.length l) ∧ ((∀ k : Nat, ((k < Prod.fst x) → (lt (q03.path (atZ l k)) t))) ∧ ((Prod.snd x < List.length l) → (¬lt (q03.path (atZ l x.2)) t)))))
noncomputable def q3O (l : List q03) (x : Nat × Nat) : Bool := (decide ((↑x.1 : Int) < (q1f l)))
noncomputable def q5T (l : List q03) (x : Nat × Nat) : V := (q00 1 (List.getD l (Int.toNat (↑x.1 : Int)) default))
noncomputable def q8X (l : List q03) (t : ByteArray) (y : Nat × Nat) : AS := (AS.mk [(0, q0H (q00 1) 1 l), (1, V.str t), (2, V.fn (245 : FuncId) []), (8, vi (q1f l)), (9, vi (↑y.1 : Int)), (10, vi (↑y.2 : Int))] [])
theorem qL0 (l : List q03) (t : ByteArray) (hpre : qBZ l t) : q0f (qLU l t) Tryz.f244 0 [q0H (q00 1) 1 (l), .str (t), .fn 245 []] (fun rr => VLe rr (qFR l t)) := by
 have key : ((∃ x : Nat × Nat, ((SLe (AS.mk [(0, q0H (q00 1) 1 l), (1, V.str t), (2, V.fn (245 : FuncId) []), (8, vi (q1f l)), (9, vi 0), (10, vi (q1f l))] []) (AS.mk [(0, q0H (q00 1) 1 l), (1, V.str t), (2, V.fn (245 : FuncId) []), (8, vi (q1f l)), (9, vi (↑x.1 : Int)), (10, vi (↑x.2 : Int))] [])) ∧ (q8g l t x))) ∧ (∀ x : Nat × Nat, ((q8g l t x) → (((decide ((↑x.1 : Int) < (↑x.2 : Int)) = true) → ((inK IntKind.i64 ((↑x.1 : Int) + (↑x.2 : Int))) ∧ ((inK IntKind.u64 ((↑x.1 : Int) + (↑x.2 : Int))) ∧ ((((0 : Int) ≤ (1 : Int)) ∧ (Int.toNat (1 : Int) ≤ IntKind.bits IntKind.u64)) ∧ ((inK IntKind.i64 (Int.fdiv ((↑x.1 : Int) + (↑x.2 : Int)) ((2 : Int) ^ Int.toNat (1 : Int)))) ∧ ((((0 : Int) ≤ Int.fdiv ((↑x.1 : Int) + (↑x.2 : Int)) ((2 : Int) ^ Int.toNat (1 : Int))) ∧ (Int.fdiv ((↑x.1 : Int) + (↑x.2 : Int)) ((2 : Int) ^ Int.toNat (1 : Int)) < (q1f l))) ∧ (((VLe (q4c l x) (q00 1 (q04 (q4c l x)))) ∧ (qLu (q04 (q4c l x)) t)) ∧ (((decide (qJ0 (q03.path (q04 (q4c l x))) t < (0 : Int)) = true) → ((inK IntKind.i64 (Int.fdiv ((↑x.1 : Int) + (↑x.2 : Int)) ((2 : Int) ^ Int.toNat (1 : Int)) + (1 : Int))) ∧ (∃ y : Nat × Nat, ((SLe (AS.mk [(0, q0H (q00 1) 1 l), (1, V.str t), (2, V.fn (245 : FuncId) []), (8, vi (q1f l)), (9, vi (Int.fdiv ((↑x.1 : Int) + (↑x.2 : Int)) ((2 : Int) ^ Int.toNat (1 : Int)) + (1 : Int))), (10, vi (↑x.2 : Int))] []) (q8X l t y)) ∧ (q9E l t x y))))) ∧ ((decide (qJ0 (q03.path (q04 (q4c l x))) t < (0 : Int)) = false) → (∃ y : Nat × Nat, ((SLe (AS.mk [(0, q0H (q00 1) 1 l), (1, V.str t), (2, V.fn (245 : FuncId) []), (8, vi (q1f l)), (9, vi (↑x.1 : Int)), (10, vi (Int.fdiv ((↑x.1 : Int) + (↑x.2 : Int)) ((2 : Int) ^ Int.toNat (1 : Int))))] []) (q8X l t y)) ∧ (q9E l t x y)))))))))))) ∧ ((decide ((↑x.1 : Int) < (↑x.2 : Int)) = false) → ((tq (q3O l x)) ∧ ((tq (q3O l x)) ∧ (((decide ((↑x.1 : Int) < (q1f l)) = true) → (((0 : Int) ≤ (↑x.1 : Int)) ∧ ((↑x.1 : Int) < (q1f l)))) ∧ ((tq (q3O l x)) ∧ ((tq (q3O l x)) ∧ ((tq (q3O l x)) ∧ ((tq (q3O l x)) ∧ (((decide ((↑x.1 : Int) < (q1f l)) = true) → ((VLe (q5T l x) (q00 1 (q04 (q5T l x)))) ∧ (qLu (q04 (q5T l x)) t))) ∧ ((tq (q3O l x)) ∧ (((true = true) → ((decide ((↑x.1 : Int) < (q1f l)) = true) → (decide ((↑x.1 : Int) < (q1f l)) = true))) ∧ (∀ b : Bool, ((b = bif decide ((↑x.1 : Int) < (q1f l)) then qJ0 (q03.path (q04 (q5T l x))) t == 0 else false) → (VLe (V.tup [vi (↑x.1 : Int), V.bool b]) (V.tup [vi (↑(q20 l t) : Int), V.bool (isZ l t)]))))))))))))))))))) := by
  delta q8X; delta q5T; delta q3O; delta q8g; delta q9E; delta q1f; delta q4c; delta vi
  obtain ⟨hr, hl⟩ := hpre
  simp only [q11, x89]
  refine ⟨⟨(0, l.length), SLe.refl _, by simp, by simp, fun k hk => absurd hk (Nat.not_lt_zero k), fun h => absurd h (Nat.lt_irrefl _)⟩, ?_⟩
  rintro ⟨i, j⟩ ⟨h1, h2, h3, h4⟩
  simp only at h1 h2 h3 h4 ⊢
  refine ⟨fun h => ?_, fun h => ?_⟩
  ·have hlt : i < j := by have := of_decide_eq_true h; omega
   have m1 : i ≤ (i + j) / 2 ∧ (i + j) / 2 < j := by omega
   have m2 : i + j ≤ 2000 := by omega
   generalize (i + j) / 2 = m at *
   simp only [Int.toNat_natCast]
   refine ⟨q0U (by omega), qXh (by omega), by decide, q0U (by omega), ⟨by omega, by omega⟩, ⟨VLe.refl _, trivial⟩, fun h5 => ?_, fun h5 => ?_⟩
   ·have h6 : lt (atZ l m).path t := (qL6 _ _).1 (of_decide_eq_true h5)
    refine ⟨q0U (by omega), (m + 1, j), SLe.refl _, ⟨by simp only; omega, h2, fun k hk => ?_, h4⟩, by simp only; omega⟩
    by_cases e : k = m
    ·subst e; exact h6
    ·exact lt_trans (hr k m (by simp only at hk; omega) (by omega)) h6
   ·have h6 : ¬ lt (atZ l m).path t := fun g => of_decide_eq_false h5 ((qL6 _ _).2 g)
    exact ⟨(i, m), SLe.refl _, ⟨by simp only; omega, by simp only; omega, h3, fun _ => h6⟩, by simp only; omega⟩
  ·have hij : i = j := by have := of_decide_eq_false h; omega
   subst hij
   have hp : q20 l t = i := qAm h2 h3 h4
   repeat (first | (refine And.intro (fun h _ => h) ?_) | (refine And.intro (fun _ h => h) ?_) | (refine And.intro ?aa ?_; case aa => (exact (tqI _))) | (refine And.intro ?aa ?_; case aa => (exact (fun h => ⟨by omega, by have := of_decide_eq_true h; omega⟩))) | (refine And.intro ?aa ?_; case aa => (exact fun _ => ⟨VLe.refl _, trivial⟩)) | (refine And.intro ?aa ?_; case aa => (intros; simp_all [qLu]; done)) | (refine And.intro ?aa ?_; case aa => (intros; exact q0U (by omega))) | (refine And.intro ?aa ?_; case aa => (intros; simp only [decide_eq_true_eq] at *; omega)) | (intro q hq))
   refine q97 ⟨q0J (by rw [hp]), q0e ?_, trivial⟩
   rw [hq]
   unfold isZ
   rw [hp, Bool.eq_iff_iff, decide_eq_true_eq]
   by_cases a1 : i < l.length
   ·have a2 : decide ((i : Int) < (l.length : Int)) = true := decide_eq_true (by omega)
    rw [a2]
    simp only [cond_true, beq_iff_eq, qRr, Int.toNat_natCast, a1, true_and]
   ·have a2 : decide ((i : Int) < (l.length : Int)) = false := decide_eq_false (by omega)
    rw [a2]
    simp [a1]
 exact Eq.mp (by kernel_rfl) key
theorem qMa : q0T Tryz.prog 244 qAA := by
 refine q09 q1C (pol := 0) Tryz.func244 rfl (by kernel_rfl) fun args bin ob r bout hDe hob => ?_
 unfold qAA at hDe
 split at hDe
 ·rename_i a0 a1
  cases hDe
  exact okB (qL0 ((q0M q04) a0) a1 (hob.2)) qNM (args_of_vles ⟨hob.1, VLe.refl _, VLe.refl _, trivial⟩)
 ·cases hDe
def q7z (l : List q03) (t : ByteArray) : Prop := q3Z l ∧ l.length ≤ 1000
noncomputable def qV0 (l : List q03) (t : ByteArray) : V := .tup [.int .i64 (q20 l t), .bool (isZ l t)]
noncomputable def qDP : q0G := fun args bin => match args, bin with
 | [a0, .str a1], [] => some (VLe a0 (q0H (q00 1) 1 (((q0M q04) a0))) ∧ q7z ((q0M q04) a0) a1, qV0 ((q0M q04) a0) a1, [])
 | _, _ => none
noncomputable def x7O : Nat → Option (Fl × q0G) := lk [(244, (.ro, qAA))]
theorem x1O : q0D Tryz.prog x7O := q01 qMa (q07)
noncomputable def x0K (l : List q03) (t : ByteArray) : Cx := ⟨tt, x7O, Tryz.f184.ntmps, [0, 1, 4, 5], [], [], fun _ => none, [], noM, []⟩
theorem x3u (l : List q03) (t : ByteArray) (hpre : q7z l t) : q0f (x0K l t) Tryz.f184 0 [q0H (q00 1) 1 (l), .str (t)] (fun rr => VLe rr (qV0 l t)) := by
 have key : (((VLe (q0H (q00 1) 1 l) (q0H (q00 1) 1 (q0M q04 (q0H (q00 1) 1 l)))) ∧ (qBZ (q0M q04 (q0H (q00 1) 1 l)) t)) ∧ (VLe (V.tup [vi (↑(q20 (q0M q04 (q0H (q00 1) 1 l)) t) : Int), V.bool (isZ (q0M q04 (q0H (q00 1) 1 l)) t)]) (V.tup [vi (↑(q20 l t) : Int), V.bool (isZ l t)]))) := by
  delta vi
  simp only [q0s]
  exact ⟨⟨VLe.refl _, hpre⟩, VLe.refl _⟩
 exact Eq.mp (by kernel_rfl) key
theorem qHP : q0T Tryz.prog 184 qDP := by
 refine q09 q1C (pol := 0) Tryz.func184 rfl (by kernel_rfl) fun args bin ob r bout hDe hob => ?_
 unfold qDP at hDe
 split at hDe
 ·rename_i a0 a1
  cases hDe
  exact okB (x3u ((q0M q04) a0) a1 (hob.2)) x1O (args_of_vles ⟨hob.1, VLe.refl _, trivial⟩)
 ·cases hDe
def qGQ (n : Int) : Prop := True
noncomputable def qWn (n : Int) : V := .bool (decide (inR n 0 9999))
noncomputable def qJ9 : q0G := fun args bin => match args, bin with
 | [.int .i64 a0], [] => some (qGQ a0, qWn a0, [])
 | _, _ => none
noncomputable def x7K : Nat → Option (Fl × q0G) := lk [(120, (.ro, q8i))]
theorem x1p : q0D Tryz.prog x7K := q01 qAW (q07)
noncomputable def x1e (n : Int) : Cx := ⟨tt, x7K, Tryz.f176.ntmps, [0, 2], [], [], fun _ => none, [], noM, []⟩
theorem qYR (n : Int) (hpre : qGQ n) : q0f (x1e n) Tryz.f176 0 [.int .i64 (n)] (fun rr => VLe rr (qWn n)) := by
 have key : ((q4w n (0 : Int) (9999 : Int)) ∧ (VLe (V.bool (decide (inR n 0 9999))) (V.bool (decide (inR n 0 9999))))) := by
  exact ⟨trivial, VLe.refl _⟩
 exact Eq.mp (by kernel_rfl) key
theorem qNu : q0T Tryz.prog 176 qJ9 := by
 refine q09 q1C (pol := 0) Tryz.func176 rfl (by kernel_rfl) fun args bin ob r bout hDe hob => ?_
 unfold qJ9 at hDe
 split at hDe
 ·rename_i a0
  cases hDe
  exact okB (qYR a0 (hob)) x1p (args_of_vles ⟨VLe.refl _, trivial⟩)
 ·cases hDe
def qKP (n : Int) : Prop := True
noncomputable def qV1 (n : Int) : V := .bool (decide (inR n 0 9))
noncomputable def qOq : q0G := fun args bin => match args, bin with
 | [.int .i64 a0], [] => some (qKP a0, qV1 a0, [])
 | _, _ => none
noncomputable def x6v : Nat → Option (Fl × q0G) := lk [(120, (.ro, q8i))]
theorem qZW : q0D Tryz.prog x6v := q01 qAW (q07)
noncomputable def x0D (n : Int) : Cx := ⟨tt, x6v, Tryz.f238.ntmps, [0, 2], [], [], fun _ => none, [], noM, []⟩
theorem x3a (n : Int) (hpre : qKP n) : q0f (x0D n) Tryz.f238 0 [.int .i64 (n)] (fun rr => VLe rr (qV1 n)) := by
 have key : ((q4w n (0 : Int) (9 : Int)) ∧ (VLe (V.bool (decide (inR n 0 9))) (V.bool (decide (inR n 0 9))))) := by
  exact ⟨trivial, VLe.refl _⟩
 exact Eq.mp (by kernel_rfl) key
theorem qW7 : q0T Tryz.prog 238 qOq := by
 refine q09 q1C (pol := 0) Tryz.func238 rfl (by kernel_rfl) fun args bin ob r bout hDe hob => ?_
 unfold qOq at hDe
 split at hDe
 ·rename_i a0
  cases hDe
  exact okB (x3a a0 (hob)) qZW (args_of_vles ⟨VLe.refl _, trivial⟩)
 ·cases hDe
def qFs (n : Int) : Prop := True
noncomputable def qWX (n : Int) : V := .bool (decide (inR n 0 9999))
noncomputable def qJ8 : q0G := fun args bin => match args, bin with
 | [.int .i64 a0], [] => some (qFs a0, qWX a0, [])
 | _, _ => none
noncomputable def x6i : Nat → Option (Fl × q0G) := lk [(151, (.ro, q9G))]
theorem x08 : q0D Tryz.prog x6i := q01 qAT (q07)
noncomputable def x1f (n : Int) : Cx := ⟨tt, x6i, Tryz.f192.ntmps, [0, 2], [], [], fun _ => none, [], noM, []⟩
theorem x0W (n : Int) (hpre : qFs n) : q0f (x1f n) Tryz.f192 0 [.int .i64 (n)] (fun rr => VLe rr (qWX n)) := by
 have key : ((q4f n (0 : Int) (9999 : Int)) ∧ (VLe (V.bool (decide (inR n 0 9999))) (V.bool (decide (inR n 0 9999))))) := by
  exact ⟨trivial, VLe.refl _⟩
 exact Eq.mp (by kernel_rfl) key
theorem qPK : q0T Tryz.prog 192 qJ8 := by
 refine q09 q1C (pol := 0) Tryz.func192 rfl (by kernel_rfl) fun args bin ob r bout hDe hob => ?_
 unfold qJ8 at hDe
 split at hDe
 ·rename_i a0
  cases hDe
  exact okB (x0W a0 (hob)) x08 (args_of_vles ⟨VLe.refl _, trivial⟩)
 ·cases hDe
def qJT (n : Int) : Prop := True
noncomputable def qX6 (n : Int) : V := .bool (decide (inR n 0 9))
noncomputable def qOz : q0G := fun args bin => match args, bin with
 | [.int .i64 a0], [] => some (qJT a0, qX6 a0, [])
 | _, _ => none
noncomputable def x81 : Nat → Option (Fl × q0G) := lk [(151, (.ro, q9G))]
theorem x0n : q0D Tryz.prog x81 := q01 qAT (q07)
noncomputable def qYv (n : Int) : Cx := ⟨tt, x81, Tryz.f220.ntmps, [0, 2], [], [], fun _ => none, [], noM, []⟩
theorem x5Z (n : Int) (hpre : qJT n) : q0f (qYv n) Tryz.f220 0 [.int .i64 (n)] (fun rr => VLe rr (qX6 n)) := by
 have key : ((q4f n (0 : Int) (9 : Int)) ∧ (VLe (V.bool (decide (inR n 0 9))) (V.bool (decide (inR n 0 9))))) := by
  exact ⟨trivial, VLe.refl _⟩
 exact Eq.mp (by kernel_rfl) key
theorem qWd : q0T Tryz.prog 220 qOz := by
 refine q09 q1C (pol := 0) Tryz.func220 rfl (by kernel_rfl) fun args bin ob r bout hDe hob => ?_
 unfold qOz at hDe
 split at hDe
 ·rename_i a0
  cases hDe
  exact okB (x5Z a0 (hob)) x0n (args_of_vles ⟨VLe.refl _, trivial⟩)
 ·cases hDe
def qMh (z : q03) : Prop := True
noncomputable def qVE (z : q03) : V := .int .i64 (q4O z)
noncomputable def qQl : q0G := fun args bin => match args, bin with
 | [a0], [] => some (VLe a0 (q00 1 ((q04 a0))) ∧ qMh (q04 a0), qVE (q04 a0), [])
 | _, _ => none
noncomputable def x7b : Nat → Option (Fl × q0G) := lk [(175, (.ro, qJQ)), (176, (.ro, qJ9)), (120, (.ro, q8i)), (238, (.ro, qOq))]
theorem qYA : q0D Tryz.prog x7b := q01 qOa (q01 qNu (q01 qAW (q01 qW7 (q07))))
noncomputable def qYh (z : q03) : Cx := ⟨tt, x7b, Tryz.f203.ntmps, [0, 1, 2, 3, 8, 31], [], [], fun _ => none, [], noM, []⟩
theorem x0Y (z : q03) (hpre : qMh z) : q0f (qYh z) Tryz.f203 0 [q00 1 (z)] (fun rr => VLe rr (qVE z)) := by
 have key : ((qHW (q03.path z)) ∧ ((((q10 (q03.path z) != 0) = true) → (VLe (vi (q10 (q03.path z))) (vi (q4O z)))) ∧ (((q10 (q03.path z) != 0) = false) → ((qGQ (q03.data z)) ∧ ((tq (!!decide (inR (q03.data z) 0 9999))) ∧ ((tq (!!decide (inR (q03.data z) 0 9999))) ∧ ((((!!decide (inR (q03.data z) 0 9999)) = true) → (q4w (q03.version z) (0 : Int) (999 : Int))) ∧ ((tq (!!decide (inR (q03.data z) 0 9999))) ∧ (((true = true) → (((!decide (inR (q03.data z) 0 9999)) = false) → ((!!decide (inR (q03.data z) 0 9999)) = true))) ∧ (∀ b : Bool, ((b = bif !decide (inR (q03.data z) 0 9999) then true else !decide (inR (q03.version z) 0 999)) → ((tq (!b)) ∧ ((tq (!b)) ∧ ((((!b) = true) → (qKP (q03.owner z))) ∧ ((tq (!b)) ∧ (((true = true) → ((b = false) → ((!b) = true))) ∧ (∀ b_1 : Bool, ((b_1 = bif b then true else !decide (inR (q03.owner z) 0 9)) → ((tq (!b_1)) ∧ ((tq (!b_1)) ∧ ((((!b_1) = true) → (q4w (q03.next z) (0 : Int) (100 : Int))) ∧ ((tq (!b_1)) ∧ (((true = true) → ((b_1 = false) → ((!b_1) = true))) ∧ (∀ b_2 : Bool, ((b_2 = bif b_1 then true else !decide (inR (q03.next z) 0 100)) → (((b_2 = true) → (VLe (vi 3) (vi (q4O z)))) ∧ ((b_2 = false) → (VLe (vi 0) (vi (q4O z)))))))))))))))))))))))))))))) := by
  delta vi
  refine ⟨trivial, fun h => q0J ?_, fun h => ?_⟩
  ·have h1 : q10 z.path ≠ 0 := by simpa using h
   unfold q4O
   rw [if_pos h1]
  have h1 : ¬ q10 z.path ≠ 0 := by simpa using h
  refine ⟨trivial, ?_⟩
  repeat (first | (refine And.intro (fun h _ => h) ?_) | (refine And.intro (fun _ h => h) ?_) | (refine And.intro ?aa ?_; case aa => (exact (tqI _))) | (refine And.intro ?aa ?_; case aa => (exact trivial)) | (refine And.intro ?aa ?_; case aa => (exact fun _ => trivial)) | (refine And.intro ?aa ?_; case aa => (intros; simp_all [qHW, qGQ, q4w, qKP]; done)) | (refine And.intro ?aa ?_; case aa => (intros; exact q0U (by omega))) | (refine And.intro ?aa ?_; case aa => (intros; simp only [decide_eq_true_eq] at *; omega)) | (intro q hq))
  have e0 : q = decide (¬ (inR z.data 0 9999 ∧ inR z.version 0 999 ∧ inR z.owner 0 9 ∧ inR z.next 0 100)) := by
   subst_vars
   rw [Bool.eq_iff_iff, decide_eq_true_eq]
   by_cases a1 : inR z.data 0 9999 <;> by_cases a2 : inR z.version 0 999 <;> by_cases a3 : inR z.owner 0 9 <;> by_cases a4 : inR z.next 0 100 <;> simp [a1, a2, a3, a4]
  clear hq
  rw [e0]
  refine ⟨fun h2 => q0J ?_, fun h2 => q0J ?_⟩
  ·unfold q4O
   rw [if_neg h1, if_pos (of_decide_eq_true h2)]
  ·unfold q4O
   rw [if_neg h1, if_neg (of_decide_eq_false h2)]
 exact Eq.mp (by kernel_rfl) key
theorem x3S : q0T Tryz.prog 203 qQl := by
 refine q09 q1C (pol := 0) Tryz.func203 rfl (by kernel_rfl) fun args bin ob r bout hDe hob => ?_
 unfold qQl at hDe
 split at hDe
 ·rename_i a0
  cases hDe
  exact okB (x0Y (q04 a0) (hob.2)) qYA (args_of_vles ⟨hob.1, trivial⟩)
 ·cases hDe
def q7w (l : List q03) (t : ByteArray) : Prop := l.length ≤ maxLen
noncomputable def qVm (l : List q03) (t : ByteArray) : V := .int .i64 (atN l t)
noncomputable def qFE : q0G := fun args bin => match args, bin with
 | [a0, .str a1], [] => some (VLe a0 (q0H (q00 1) 1 (((q0M q04) a0))) ∧ q7w ((q0M q04) a0) a1, qVm ((q0M q04) a0) a1, [])
 | _, _ => none
noncomputable def qRn (l : List q03) (t : ByteArray) : q0O :=
 ⟨Nat, fun i => ⟨[(0, q0H (q00 1) 1 l), (1, .str t), (5, .int .i64 i)], []⟩,
  fun i => i ≤ l.length ∧ ∀ j, j < i → q9R t (l.getD j default) = false, fun i => l.length - i⟩
noncomputable def x1H (l : List q03) (t : ByteArray) : Nat → Option q0O := fun rg_ => match rg_ with
 | 2 => some (qRn l t)
 | _ => none
noncomputable def x7X : Nat → Option (Fl × q0G) := lk []
theorem x0v : q0D Tryz.prog x7X := q07
noncomputable def x4H (l : List q03) (t : ByteArray) : Cx := ⟨tt, x7X, Tryz.f199.ntmps, [0, 1, 4, 5, 9, 18], [(2, ⟨[(0, none), (1, none), (5, none)], []⟩)], [], x1H l t, [], noM, []⟩
theorem x5C (l : List q03) (t : ByteArray) (hpre : q7w l t) : q0f (x4H l t) Tryz.f199 0 [q0H (q00 1) 1 (l), .str (t)] (fun rr => VLe rr (qVm l t)) := by
 have key : ((∃ x : Nat, ((SLe (AS.mk [(0, q0H (q00 1) 1 l), (1, V.str t), (5, vi 0)] []) (AS.mk [(0, q0H (q00 1) 1 l), (1, V.str t), (5, vi (↑x : Int))] [])) ∧ ((x ≤ List.length l) ∧ (∀ j : Nat, ((j < x) → (q9R t (List.getD l j default) = false)))))) ∧ (∀ x : Nat, (((x ≤ List.length l) ∧ (∀ j : Nat, ((j < x) → (q9R t (List.getD l j default) = false)))) → (((decide ((↑x : Int) < (↑(List.length l) : Int)) = true) → ((((0 : Int) ≤ (↑x : Int)) ∧ ((↑x : Int) < (↑(List.length l) : Int))) ∧ (((q1R (q03.path (List.getD l (Int.toNat (↑x : Int)) default)) t = true) → (VLe (vi (↑x : Int)) (vi (atN l t)))) ∧ ((q1R (q03.path (List.getD l (Int.toNat (↑x : Int)) default)) t = false) → ((inK IntKind.i64 ((↑x : Int) + (1 : Int))) ∧ (∃ y : Nat, ((SLe (AS.mk [(0, q0H (q00 1) 1 l), (1, V.str t), (5, vi ((↑x : Int) + (1 : Int)))] []) (AS.mk [(0, q0H (q00 1) 1 l), (1, V.str t), (5, vi (↑y : Int))] [])) ∧ (((y ≤ List.length l) ∧ (∀ j : Nat, ((j < y) → (q9R t (List.getD l j default) = false)))) ∧ (List.length l - y < List.length l - x))))))))) ∧ ((decide ((↑x : Int) < (↑(List.length l) : Int)) = false) → (VLe (vi (-1)) (vi (atN l t)))))))) := by
  delta vi
  have hl : l.length ≤ maxLen := hpre
  unfold maxLen at hl
  refine ⟨⟨0, SLe.refl _, by omega, fun j hj => absurd hj (Nat.not_lt_zero j)⟩, ?_⟩
  rintro i ⟨hi, hj⟩
  refine ⟨fun h => ?_, fun h => ?_⟩
  ·have hlt : i < l.length := by simpa using h
   rw [Int.toNat_natCast, q16]
   refine ⟨⟨by omega, by omega⟩, fun h2 => q0J (q33 hlt hj h2).symm, fun h2 => ⟨q0U (by omega), i + 1, SLe.refl _, ⟨by omega, fun j h3 => ?_⟩, by omega⟩⟩
   rcases Nat.lt_or_ge j i with h4 | h4
   ·exact hj j h4
   ·have : j = i := by omega
    subst this
    exact h2
  ·have hge : i = l.length := by simp at h; omega
   exact q0J (q3h fun j h3 => hj j (by omega)).symm
 exact Eq.mp (by kernel_rfl) key
theorem qJ1 : q0T Tryz.prog 199 qFE := by
 refine q09 q1C (pol := 0) Tryz.func199 rfl (by kernel_rfl) fun args bin ob r bout hDe hob => ?_
 unfold qFE at hDe
 split at hDe
 ·rename_i a0 a1
  cases hDe
  exact okB (x5C ((q0M q04) a0) a1 (hob.2)) x0v (args_of_vles ⟨hob.1, VLe.refl _, trivial⟩)
 ·cases hDe
theorem qUj {xs : List q03} {k : Nat} (h : k < xs.tail.length) : q29 (gL (q00 1) xs) 1 k = q00 1 xs.tail[k] := by
 have h3 : k + 1 < xs.length := by rw [List.length_tail] at h; omega
 simp [q29, gL, h3, List.getElem_tail, Nat.add_comm]
def qLG (l : List q03) : Prop := l.length ≤ maxLen
noncomputable def qTp (l : List q03) : V := .int .i64 (q0p l)
noncomputable def qPh : q0G := fun args bin => match args, bin with
 | [a0], [] => some (VLe a0 (q0H (q00 1) 1 (((q0M q04) a0))) ∧ qLG ((q0M q04) a0), qTp ((q0M q04) a0), [])
 | _, _ => none
noncomputable def qQq (l : List q03) : q0O :=
 ⟨Nat, fun i => ⟨[(0, q0H (q00 1) 1 l), (18, q0H (q00 1) 1 l), (19, .int .i64 l.length), (20, .int .i64 i)], []⟩,
  fun i => i ≤ l.length ∧ q1w (q3d l) i = 0, fun i => l.length - i⟩
noncomputable def qP2 (l : List q03) : q0O :=
 ⟨Nat, fun i => ⟨[(0, q0H (q00 1) 1 l), (8, .bool (q5F l i)), (57, q0H (q00 1) 1 l.tail), (58, .int .i64 l.tail.length), (59, .int .i64 i)], []⟩,
  fun i => i ≤ l.tail.length ∧ ∀ j, j < i → isZ l (upF (l.tail.getD j default).path) = true, fun i => l.tail.length - i⟩
noncomputable def qYX (l : List q03) : Nat → Option q0O := fun rg_ => match rg_ with
 | 4 => some (qQq l)
 | 17 => some (qP2 l)
 | _ => none
noncomputable def x8D : Nat → Option (Fl × q0G) := lk [(203, (.ro, qQl)), (184, (.ro, qDP)), (204, (.ro, qMR))]
theorem qZc : q0D Tryz.prog x8D := q01 x3S (q01 qHP (q01 qRP (q07)))
noncomputable def x5v (l : List q03) : Cx := ⟨tt, x8D, Tryz.f117.ntmps, [0, 2, 3, 4, 5, 7, 8, 10, 11, 13, 14, 17, 18, 19, 20, 21, 28, 42, 50, 57, 58, 59, 60, 76, 87], [(4, ⟨[(0, none), (18, none), (19, none), (20, none)], []⟩), (17, ⟨[(0, none), (8, none), (57, none), (58, none), (59, none)], []⟩)], [], qYX l, [], noM, []⟩
noncomputable def q9I (l : List q03) (x_1 : Nat) : ByteArray := (q03.path (List.getD (List.tail l) (Int.toNat (↑x_1 : Int)) default))
noncomputable def q62 (l : List q03) : List q03 := (q0M q04 (q0H (q00 1) 1 l))
noncomputable def q3n (l : List q03) : Int := (↑(List.length l) : Int)
noncomputable def qAZ (l : List q03) (x : Nat) : V := (q00 1 (List.getD l (Int.toNat (↑x : Int)) default))
noncomputable def q7v (x : Nat) : Bool := (decide ((↑x : Int) > (0 : Int)))
def qMP (l : List q03) (x_1 : Nat) : Prop := ((x_1 ≤ List.length (List.tail l)) ∧ (∀ j : Nat, ((j < x_1) → (isZ l (upF (q03.path (List.getD (List.tail l) j default))) = true))))
noncomputable def q8R (l : List q03) : Nat × V := (0, q0H (q00 1) 1 l)
def qFQ (x : Nat) : Prop := (decide ((↑x : Int) > (0 : Int)) = true)
theorem x5m (l : List q03) (hpre : qLG l) : q0f (x5v l) Tryz.f117 0 [q0H (q00 1) 1 (l)] (fun rr => VLe rr (qTp l)) := by
 have key : (((decide ((q3n l) > (20 : Int)) = true) → (VLe (vi 2) (vi (q0p l)))) ∧ ((decide ((q3n l) > (20 : Int)) = false) → ((∃ x : Nat, ((SLe (AS.mk [(q8R l), (18, q0H (q00 1) 1 l), (19, vi (q3n l)), (20, vi 0)] []) (AS.mk [(q8R l), (18, q0H (q00 1) 1 l), (19, vi (q3n l)), (20, vi (↑x : Int))] [])) ∧ ((x ≤ List.length l) ∧ (q1w (q3d l) x = (0 : Int))))) ∧ (∀ x : Nat, (((x ≤ List.length l) ∧ (q1w (q3d l) x = (0 : Int))) → (((decide ((↑x : Int) < (q3n l)) = true) → ((((0 : Int) ≤ (↑x : Int)) ∧ ((↑x : Int) < (q3n l))) ∧ (((VLe (qAZ l x) (q00 1 (q04 (qAZ l x)))) ∧ (qMh (q04 (qAZ l x)))) ∧ ((((q4O (q04 (qAZ l x)) != 0) = true) → (VLe (vi (q4O (q04 (qAZ l x)))) (vi (q0p l)))) ∧ (((q4O (q04 (qAZ l x)) != 0) = false) → ((tq (q7v x)) ∧ ((tq (q7v x)) ∧ (((qFQ x) → (inK IntKind.i64 ((↑x : Int) - (1 : Int)))) ∧ ((tq (q7v x)) ∧ ((tq (q7v x)) ∧ (((qFQ x) → (((0 : Int) ≤ (↑x : Int) - (1 : Int)) ∧ ((↑x : Int) - (1 : Int) < (q3n l)))) ∧ ((tq (q7v x)) ∧ ((tq (q7v x)) ∧ ((tq (q7v x)) ∧ ((tq (q7v x)) ∧ (((true = true) → ((qFQ x) → (qFQ x))) ∧ (∀ b : Bool, ((b = bif decide ((↑x : Int) > (0 : Int)) then qDx (q03.path (List.getD l (Int.toNat (↑x : Int)) default)) (q03.path (List.getD l (Int.toNat ((↑x : Int) - (1 : Int))) default)) || q1R (q03.path (List.getD l (Int.toNat (↑x : Int)) default)) (q03.path (List.getD l (Int.toNat ((↑x : Int) - (1 : Int))) default)) else false) → (((b = true) → (VLe (vi 1) (vi (q0p l)))) ∧ ((b = false) → ((inK IntKind.i64 ((↑x : Int) + (1 : Int))) ∧ (∃ y : Nat, ((SLe (AS.mk [(q8R l), (18, q0H (q00 1) 1 l), (19, vi (q3n l)), (20, vi ((↑x : Int) + (1 : Int)))] []) (AS.mk [(q8R l), (18, q0H (q00 1) 1 l), (19, vi (q3n l)), (20, vi (↑y : Int))] [])) ∧ (((y ≤ List.length l) ∧ (q1w (q3d l) y = (0 : Int))) ∧ (List.length l - y < List.length l - x))))))))))))))))))))))))) ∧ ((decide ((↑x : Int) < (q3n l)) = false) → (((VLe (q0H (q00 1) 1 l) (q0H (q00 1) 1 (q62 l))) ∧ (q7z (q62 l) (ByteArray.mk #[(47 : UInt8)]))) ∧ ((((!isZ (q62 l) (ByteArray.mk #[(47 : UInt8)])) = true) → (VLe (vi 4) (vi (q0p l)))) ∧ (((!isZ (q62 l) (ByteArray.mk #[(47 : UInt8)])) = false) → ((((0 : Int) ≤ (0 : Int)) ∧ ((0 : Int) < (q3n l))) ∧ ((((0 : Int) ≤ Option.getD (some (1 : Int)) (0 : Int)) ∧ ((Option.getD (some (1 : Int)) (0 : Int) ≤ Option.getD none (q3n l)) ∧ (Option.getD none (q3n l) ≤ (q3n l)))) ∧ ((q0r 5 (List.length l) (gL (q00 1) l)) ∧ ((∃ x_1 : Nat, ((SLe (AS.mk [(q8R l), (8, V.bool (q03.owner (List.getD l 0 default) != 0)), (57, V.sl (Int.toNat (Option.getD none (q3n l)) - 1) (match (motive := Option Int → Nat → V) some (1 : Int) with | none => gL (q00 1) l | some val => q29 (gL (q00 1) l) 1) 1), (58, vi (↑(Int.toNat (Option.getD none (q3n l)) - 1) : Int)), (59, vi 0)] []) (AS.mk [(q8R l), (8, V.bool (q5F l x_1)), (57, q0H (q00 1) 1 (List.tail l)), (58, vi (↑(List.length (List.tail l)) : Int)), (59, vi (↑x_1 : Int))] [])) ∧ (qMP l x_1))) ∧ (∀ x_1 : Nat, ((qMP l x_1) → (((decide ((↑x_1 : Int) < (↑(List.length (List.tail l)) : Int)) = true) → ((((0 : Int) ≤ (↑x_1 : Int)) ∧ ((↑x_1 : Int) < (↑(List.length (List.tail l)) : Int))) ∧ ((qHK (q9I l x_1)) ∧ (((VLe (q0H (q00 1) 1 l) (q0H (q00 1) 1 (q62 l))) ∧ (q7z (q62 l) (upF (q9I l x_1)))) ∧ ((((!isZ (q62 l) (upF (q9I l x_1))) = true) → (VLe (vi 4) (vi (q0p l)))) ∧ (((!isZ (q62 l) (upF (q9I l x_1))) = false) → ((tq (!q5F l x_1)) ∧ ((tq (!q5F l x_1)) ∧ ((((!q5F l x_1) = true) → (((0 : Int) ≤ (↑(q20 (q62 l) (upF (q9I l x_1))) : Int)) ∧ ((↑(q20 (q62 l) (upF (q9I l x_1))) : Int) < (q3n l)))) ∧ ((tq (!q5F l x_1)) ∧ ((tq (!q5F l x_1)) ∧ ((tq (!q5F l x_1)) ∧ (((true = true) → ((q5F l x_1 = false) → ((!q5F l x_1) = true))) ∧ (∀ b : Bool, ((b = bif q5F l x_1 then true else q03.owner (List.getD l (Int.toNat (↑(q20 (q62 l) (upF (q9I l x_1))) : Int)) default) != 0) → ((inK IntKind.i64 ((↑x_1 : Int) + (1 : Int))) ∧ (∃ y : Nat, ((SLe (AS.mk [(q8R l), (8, V.bool b), (57, q0H (q00 1) 1 (List.tail l)), (58, vi (↑(List.length (List.tail l)) : Int)), (59, vi ((↑x_1 : Int) + (1 : Int)))] []) (AS.mk [(q8R l), (8, V.bool (q5F l y)), (57, q0H (q00 1) 1 (List.tail l)), (58, vi (↑(List.length (List.tail l)) : Int)), (59, vi (↑y : Int))] [])) ∧ (((y ≤ List.length (List.tail l)) ∧ (∀ j : Nat, ((j < y) → (isZ l (upF (q03.path (List.getD (List.tail l) j default))) = true)))) ∧ (List.length (List.tail l) - y < List.length (List.tail l) - x_1)))))))))))))))))))) ∧ ((decide ((↑x_1 : Int) < (↑(List.length (List.tail l)) : Int)) = false) → (((q5F l x_1 = true) → (VLe (vi 1) (vi (q0p l)))) ∧ ((q5F l x_1 = false) → (VLe (vi 0) (vi (q0p l))))))))))))))))))))))) := by
  delta qFQ; delta q8R; delta qMP; delta q7v; delta qAZ; delta q3n; delta q62; delta q9I; delta vi
  have hl : l.length ≤ maxLen := hpre
  unfold maxLen at hl
  simp only [q11, q0s, qBO, q16]
  refine ⟨fun h => ?_, fun h => ?_⟩
  ·have h1 : 20 < l.length := by have := of_decide_eq_true h; omega
   exact q0J (by unfold q0p; rw [if_pos h1])
  have h1 : ¬ 20 < l.length := by have := of_decide_eq_false h; omega
  have e1 : q0p l = if q1w (q3d l) l.length ≠ 0 then q1w (q3d l) l.length else if atN l top < 0 then 4 else if qNh l then 4 else if qAo l then 1 else 0 := if_neg h1
  refine ⟨⟨0, SLe.refl _, by omega, rfl⟩, ?_⟩
  rintro i ⟨hi, hz⟩
  refine ⟨fun h2 => ?_, fun h2 => ?_⟩
  ·have hlt : i < l.length := by have := of_decide_eq_true h2; omega
   simp only [Int.toNat_natCast]
   have stop : ∀ c, c = q3d l i → c ≠ 0 → VLe (.int .i64 c) (.int .i64 (q0p l)) := fun c hc h0 => q0J (by
    have := q4X hz (by rw [← hc]; exact h0) _ hlt
    rw [e1, if_pos (by rw [this, ← hc]; exact h0), this, hc])
   refine ⟨⟨by omega, by omega⟩, ⟨VLe.refl _, trivial⟩, fun h3 => ?_, fun h3 => ?_⟩
   ·have h4 : q4O (l.getD i default) ≠ 0 := by simpa using h3
    exact stop _ (by unfold q3d; rw [if_pos h4]) h4
   have h4 : ¬ q4O (l.getD i default) ≠ 0 := by simpa using h3
   have e2 : q3d l i = if 0 < i ∧ ¬ lt (atZ l (i - 1)).path (atZ l i).path then 1 else 0 := if_neg h4
   repeat (first | (refine And.intro (fun h _ => h) ?_) | (refine And.intro (fun _ h => h) ?_) | (refine And.intro ?aa ?_; case aa => (exact (tqI _))) | (refine And.intro ?aa ?_; case aa => (exact (fun h => q0U (by omega)))) | (refine And.intro ?aa ?_; case aa => (exact (fun h => ⟨by have := of_decide_eq_true h; omega, by omega⟩))) | (refine And.intro ?aa ?_; case aa => (intros; simp_all [qMh, q7z, qHK]; done)) | (refine And.intro ?aa ?_; case aa => (intros; exact q0U (by omega))) | (refine And.intro ?aa ?_; case aa => (intros; simp only [decide_eq_true_eq] at *; omega)) | (intro q hq))
   have e3 : q = decide (0 < i ∧ ¬ lt (atZ l (i - 1)).path (atZ l i).path) := by
    rw [hq, Bool.eq_iff_iff, decide_eq_true_eq]
    by_cases a1 : 0 < i
    ·have n1 : ((i : Int) - 1).toNat = i - 1 := by omega
     have a2 : decide ((i : Int) > 0) = true := decide_eq_true (by omega)
     rw [a2, n1]
     simp only [cond_true, Bool.or_eq_true, decide_eq_true_eq, a1, true_and]
     refine ⟨fun g => g.elim qHc (fun g => by
      show ¬ lt _ (l.getD i default).path
      rw [g]
      exact lt_irrefl _), fun g => Classical.byContradiction fun k => ?_⟩
     exact k (Or.inr (qI3 (fun g2 => k (Or.inl g2)) g))
    ·have a2 : decide ((i : Int) > 0) = false := decide_eq_false (by omega)
     rw [a2]
     simp [a1]
   refine ⟨fun h5 => ?_, fun h5 => ?_⟩
   ·rw [e3] at h5
    exact stop _ (by rw [e2, if_pos (of_decide_eq_true h5)]) (by decide)
   ·rw [e3] at h5
    exact ⟨q0U (by omega), i + 1, SLe.refl _, ⟨by omega, q4U hz (by rw [e2, if_neg (of_decide_eq_false h5)])⟩, by omega⟩
  ·have hge : i = l.length := by have := of_decide_eq_false h2; omega
   rw [hge] at hz
   have hr := q3F hz
   have e2 : q0p l = if atN l top < 0 then 4 else if qNh l then 4 else if qAo l then 1 else 0 := by rw [e1, if_neg (not_not_intro hz)]
   refine ⟨⟨VLe.refl _, hr, by omega⟩, fun h3 => ?_, fun h3 => ?_⟩
   ·have : isZ l top = false := by simpa using h3
    exact q0J (by rw [e2, if_pos ((q3e hr _).2 this)])
   have ht : isZ l top = true := by simpa using h3
   obtain ⟨f1, f2⟩ := qAC hz ht
   have e3 : q0p l = if qNh l then 4 else if qAo l then 1 else 0 := by
    rw [e2, if_neg]
    intro g
    rw [(q3e hr _).1 g] at ht
    cases ht
   have hlt0 : l.tail.length = l.length - 1 := List.length_tail
   refine ⟨⟨by omega, by omega⟩, ⟨by simp, by simp; omega, by simp⟩, fun k hk => ⟨rfl, rfl⟩, ⟨0, ?_, by omega, fun j hj => by omega⟩, ?_⟩
   ·exact q1X ⟨rfl, VLe.refl _, rfl, VLe.refl _, rfl, q3A (by simp) (fun k hk => qUj hk) (Or.inl rfl), rfl, q0J (by simp), rfl, VLe.refl _, trivial⟩ trivial
   rintro i ⟨hi, hj⟩
   refine ⟨fun h5 => ?_, fun h5 => ?_⟩
   ·have hlt : i < l.tail.length := by have := of_decide_eq_true h5; omega
    simp only [Int.toNat_natCast]
    have hn : q4O (l.tail.getD i default) = 0 := by
     rw [q6H]
     exact q84 hz (by omega)
    have hp := q8P hn
    refine ⟨⟨by omega, by omega⟩, ⟨by have := q6g hp; omega, q3p hp⟩, ⟨VLe.refl _, hr, by omega⟩, fun h6 => ?_, fun h6 => ?_⟩
    ·have h7 : isZ l (upF (l.tail.getD i default).path) = false := by
      cases hc : isZ l (upF (l.tail.getD i default).path) with
      | false => rfl
      | true => rw [hc] at h6; cases h6
     exact q0J (by rw [e3, if_pos ((qI5 hz ht).2 ⟨i, hlt, h7⟩)])
    have h7 : isZ l (upF (l.tail.getD i default).path) = true := by
     cases hc : isZ l (upF (l.tail.getD i default).path) with
     | true => rfl
     | false => rw [hc] at h6; cases h6
    have h8 := (q5G hr h7).2.1
    repeat (first | (refine And.intro (fun h _ => h) ?_) | (refine And.intro (fun _ h => h) ?_) | (refine And.intro ?aa ?_; case aa => (exact (tqI _))) | (refine And.intro ?aa ?_; case aa => (exact (fun _ => ⟨by omega, by omega⟩))) | (refine And.intro ?aa ?_; case aa => (intros; simp_all [qMh, q7z, qHK]; done)) | (refine And.intro ?aa ?_; case aa => (intros; exact q0U (by omega))) | (refine And.intro ?aa ?_; case aa => (intros; simp only [decide_eq_true_eq] at *; omega)) | (intro q hq))
    refine ⟨i + 1, ?_, ⟨by omega, fun j h9 => ?_⟩, by omega⟩
    ·rw [hq]
     exact SLe.refl _
    ·by_cases e : j = i
     ·rw [e]; exact h7
     ·exact hj j (by omega)
   ·have hge : i = l.tail.length := by have := of_decide_eq_false h5; omega
    subst hge
    have hb := qKA hz ht hj
    have e4 : q0p l = if qAo l then 1 else 0 := by
     rw [e3, if_neg]
     intro g
     obtain ⟨j, h, k⟩ := (qI5 hz ht).1 g
     rw [hj j h] at k
     cases k
    refine ⟨fun h => q0J (by rw [e4, if_pos (hb.2 h)]), fun h => q0J ?_⟩
    rw [e4, if_neg]
    intro g
    rw [hb.1 g] at h
    cases h
 exact Eq.mp (by kernel_rfl) key
theorem qU7 : q0T Tryz.prog 117 qPh := by
 refine q09 q1C (pol := 0) Tryz.func117 rfl (by kernel_rfl) fun args bin ob r bout hDe hob => ?_
 unfold qPh at hDe
 split at hDe
 ·rename_i a0
  cases hDe
  exact okB (x5m ((q0M q04) a0) (hob.2)) qZc (args_of_vles ⟨hob.1, trivial⟩)
 ·cases hDe
def qO5 (l : List q03) : Prop := l.length ≤ maxLen
noncomputable def qUE (l : List q03) : V := .int .i64 (q0p l)
noncomputable def qQe : q0G := fun args bin => match args, bin with
 | [a0], [] => some (VLe a0 (q0H (q00 1) 1 (((q0M q04) a0))) ∧ qO5 ((q0M q04) a0), qUE ((q0M q04) a0), [])
 | _, _ => none
noncomputable def qRc (l : List q03) : q0O :=
 ⟨Nat, fun i => ⟨[(0, q0H (q00 1) 1 l), (3, .int .i64 i)], []⟩,
  fun i => i ≤ l.length ∧ q1w (q3d l) i = 0, fun i => l.length - i⟩
noncomputable def qOO (l : List q03) : q0O :=
 ⟨Nat, fun i => ⟨[(0, q0H (q00 1) 1 l), (6, .int .i64 i)], []⟩,
  fun i => i ≤ l.length ∧ ∀ j, j < i → ¬ atN l (upF (atZ l j).path) < 0, fun i => l.length - i⟩
noncomputable def qPI (l : List q03) : q0O :=
 ⟨Nat, fun i => ⟨[(0, q0H (q00 1) 1 l), (7, .int .i64 i)], []⟩,
  fun i => i ≤ l.length ∧ ∀ j, j < i → (atZ l (atN l (upF (atZ l j).path)).toNat).owner = 0, fun i => l.length - i⟩
noncomputable def x2n (l : List q03) : Nat → Option q0O := fun rg_ => match rg_ with
 | 4 => some (qRc l)
 | 17 => some (qOO l)
 | 22 => some (qPI l)
 | _ => none
noncomputable def x6x : Nat → Option (Fl × q0G) := lk [(191, (.ro, qKq)), (192, (.ro, qJ8)), (151, (.ro, q9G)), (220, (.ro, qOz)), (199, (.ro, qFE)), (221, (.ro, qMi))]
theorem x27 : q0D Tryz.prog x6x := q01 qT3 (q01 qPK (q01 qAT (q01 qWd (q01 qJ1 (q01 qTN (q07))))))
noncomputable def x3H (l : List q03) : Cx := ⟨tt, x6x, Tryz.f149.ntmps, [0, 2, 3, 4, 5, 6, 7, 10, 14, 26, 57, 72, 75, 79, 90, 94, 109], [(4, ⟨[(0, none), (3, none)], []⟩), (17, ⟨[(0, none), (6, none)], []⟩), (22, ⟨[(0, none), (7, none)], []⟩)], [], x2n l, [], noM, []⟩
noncomputable def q5q (x : Nat) : Nat := (Int.toNat (↑x : Int))
noncomputable def q6J (l : List q03) (x : Nat) : Int := (q03.data (List.getD l (q5q x) default))
noncomputable def q5U (l : List q03) : List q03 := (q0M q04 (q0H (q00 1) 1 l))
noncomputable def q6F (x : Nat) : Bool := (decide ((↑x : Int) > (0 : Int)))
noncomputable def qBG (l : List q03) (x : Nat) : ByteArray := (q03.path (List.getD l (q5q x) default))
noncomputable def qB1 (l : List q03) (x_2 : Nat) : ByteArray := (q03.path (List.getD l (Int.toNat (↑x_2 : Int)) default))
noncomputable def q50 (l : List q03) : Int := (↑(List.length l) : Int)
noncomputable def q5a (l : List q03) : Nat × V := (0, q0H (q00 1) 1 l)
def qIP (l : List q03) (j : Nat) : Prop := (q03.owner (atZ l (Int.toNat (atN l (upF (q03.path (atZ l j)))))) = (0 : Int))
noncomputable def qG7 (l : List q03) (x_1 : Nat) : ByteArray := (q03.path (List.getD l (Int.toNat (↑x_1 : Int)) default))
def qIp (l : List q03) : Prop := (VLe (q0H (q00 1) 1 l) (q0H (q00 1) 1 (q5U l)))
def qAP (x : Nat) : Prop := (decide ((↑x : Int) > (0 : Int)) = true)
theorem x0q (l : List q03) (hpre : qO5 l) : q0f (x3H l) Tryz.f149 0 [q0H (q00 1) 1 (l)] (fun rr => VLe rr (qUE l)) := by
 have key : (((decide ((q50 l) > (20 : Int)) = true) → (VLe (vi 2) (vi (q0p l)))) ∧ ((decide ((q50 l) > (20 : Int)) = false) → ((∃ x : Nat, ((SLe (AS.mk [(q5a l), (3, vi 0)] []) (AS.mk [(q5a l), (3, vi (↑x : Int))] [])) ∧ ((x ≤ List.length l) ∧ (q1w (q3d l) x = (0 : Int))))) ∧ (∀ x : Nat, (((x ≤ List.length l) ∧ (q1w (q3d l) x = (0 : Int))) → (((decide ((↑x : Int) < (q50 l)) = true) → ((((0 : Int) ≤ (↑x : Int)) ∧ ((↑x : Int) < (q50 l))) ∧ ((qGj (qBG l x)) ∧ ((((q10 (qBG l x) != 0) = true) → (VLe (vi (q10 (qBG l x))) (vi (q0p l)))) ∧ (((q10 (qBG l x) != 0) = false) → ((qFs (q6J l x)) ∧ ((tq (!!decide (inR (q6J l x) (0 : Int) (9999 : Int)))) ∧ ((tq (!!decide (inR (q6J l x) (0 : Int) (9999 : Int)))) ∧ ((tq (!!decide (inR (q6J l x) (0 : Int) (9999 : Int)))) ∧ ((tq (!!decide (inR (q6J l x) (0 : Int) (9999 : Int)))) ∧ ((((!!decide (inR (q6J l x) (0 : Int) (9999 : Int))) = true) → (q4f (q03.version (List.getD l (q5q x) default)) (0 : Int) (999 : Int))) ∧ ((tq (!!decide (inR (q6J l x) (0 : Int) (9999 : Int)))) ∧ (((true = true) → (((!decide (inR (q6J l x) (0 : Int) (9999 : Int))) = false) → ((!!decide (inR (q6J l x) (0 : Int) (9999 : Int))) = true))) ∧ (∀ b : Bool, ((b = bif !decide (inR (q6J l x) (0 : Int) (9999 : Int)) then true else !decide (inR (q03.version (List.getD l (q5q x) default)) (0 : Int) (999 : Int))) → ((tq (!b)) ∧ ((tq (!b)) ∧ ((tq (!b)) ∧ ((tq (!b)) ∧ ((((!b) = true) → (qJT (q03.owner (List.getD l (q5q x) default)))) ∧ ((tq (!b)) ∧ (((true = true) → ((b = false) → ((!b) = true))) ∧ (∀ b_1 : Bool, ((b_1 = bif b then true else !decide (inR (q03.owner (List.getD l (q5q x) default)) (0 : Int) (9 : Int))) → ((tq (!b_1)) ∧ ((tq (!b_1)) ∧ ((tq (!b_1)) ∧ ((tq (!b_1)) ∧ ((((!b_1) = true) → (q4f (q03.next (List.getD l (q5q x) default)) (0 : Int) (100 : Int))) ∧ ((tq (!b_1)) ∧ (((true = true) → ((b_1 = false) → ((!b_1) = true))) ∧ (∀ b_2 : Bool, ((b_2 = bif b_1 then true else !decide (inR (q03.next (List.getD l (q5q x) default)) (0 : Int) (100 : Int))) → (((b_2 = true) → (VLe (vi 3) (vi (q0p l)))) ∧ ((b_2 = false) → ((tq (q6F x)) ∧ ((tq (q6F x)) ∧ ((tq (q6F x)) ∧ ((tq (q6F x)) ∧ (((qAP x) → (inK IntKind.i64 ((↑x : Int) - (1 : Int)))) ∧ ((tq (q6F x)) ∧ ((tq (q6F x)) ∧ (((qAP x) → (((0 : Int) ≤ (↑x : Int) - (1 : Int)) ∧ ((↑x : Int) - (1 : Int) < (q50 l)))) ∧ ((tq (q6F x)) ∧ ((tq (q6F x)) ∧ ((tq (q6F x)) ∧ ((tq (q6F x)) ∧ (((true = true) → ((qAP x) → (qAP x))) ∧ (∀ b_3 : Bool, ((b_3 = bif decide ((↑x : Int) > (0 : Int)) then qDx (qBG l x) (q03.path (List.getD l (Int.toNat ((↑x : Int) - (1 : Int))) default)) || q1R (qBG l x) (q03.path (List.getD l (Int.toNat ((↑x : Int) - (1 : Int))) default)) else false) → (((b_3 = true) → (VLe (vi 1) (vi (q0p l)))) ∧ ((b_3 = false) → ((inK IntKind.i64 ((↑x : Int) + (1 : Int))) ∧ (∃ y : Nat, ((SLe (AS.mk [(q5a l), (3, vi ((↑x : Int) + (1 : Int)))] []) (AS.mk [(q5a l), (3, vi (↑y : Int))] [])) ∧ (((y ≤ List.length l) ∧ (q1w (q3d l) y = (0 : Int))) ∧ (List.length l - y < List.length l - x))))))))))))))))))))))))))))))))))))))))))))))))))))))))) ∧ ((decide ((↑x : Int) < (q50 l)) = false) → (((qIp l) ∧ (q7w (q5U l) (ByteArray.mk #[(47 : UInt8)]))) ∧ (((decide (atN (q5U l) (ByteArray.mk #[(47 : UInt8)]) < (0 : Int)) = true) → (VLe (vi 4) (vi (q0p l)))) ∧ ((decide (atN (q5U l) (ByteArray.mk #[(47 : UInt8)]) < (0 : Int)) = false) → ((∃ x_1 : Nat, ((SLe (AS.mk [(q5a l), (6, vi 0)] []) (AS.mk [(q5a l), (6, vi (↑x_1 : Int))] [])) ∧ ((x_1 ≤ List.length l) ∧ (∀ j : Nat, ((j < x_1) → (¬atN l (upF (q03.path (atZ l j))) < (0 : Int))))))) ∧ (∀ x_1 : Nat, (((x_1 ≤ List.length l) ∧ (∀ j : Nat, ((j < x_1) → (¬atN l (upF (q03.path (atZ l j))) < (0 : Int))))) → (((decide ((↑x_1 : Int) < (q50 l)) = true) → ((((0 : Int) ≤ (↑x_1 : Int)) ∧ ((↑x_1 : Int) < (q50 l))) ∧ ((qDg (qG7 l x_1)) ∧ (((qIp l) ∧ (q7w (q5U l) (upF (qG7 l x_1)))) ∧ (((decide (atN (q5U l) (upF (qG7 l x_1)) < (0 : Int)) = true) → (VLe (vi 4) (vi (q0p l)))) ∧ ((decide (atN (q5U l) (upF (qG7 l x_1)) < (0 : Int)) = false) → ((inK IntKind.i64 ((↑x_1 : Int) + (1 : Int))) ∧ (∃ y : Nat, ((SLe (AS.mk [(q5a l), (6, vi ((↑x_1 : Int) + (1 : Int)))] []) (AS.mk [(q5a l), (6, vi (↑y : Int))] [])) ∧ (((y ≤ List.length l) ∧ (∀ j : Nat, ((j < y) → (¬atN l (upF (q03.path (atZ l j))) < (0 : Int))))) ∧ (List.length l - y < List.length l - x_1))))))))))) ∧ ((decide ((↑x_1 : Int) < (q50 l)) = false) → ((∃ x_2 : Nat, ((SLe (AS.mk [(q5a l), (7, vi 0)] []) (AS.mk [(q5a l), (7, vi (↑x_2 : Int))] [])) ∧ ((x_2 ≤ List.length l) ∧ (∀ j : Nat, ((j < x_2) → (qIP l j)))))) ∧ (∀ x_2 : Nat, (((x_2 ≤ List.length l) ∧ (∀ j : Nat, ((j < x_2) → (qIP l j)))) → (((decide ((↑x_2 : Int) < (q50 l)) = true) → ((((0 : Int) ≤ (↑x_2 : Int)) ∧ ((↑x_2 : Int) < (q50 l))) ∧ ((qDg (qB1 l x_2)) ∧ (((qIp l) ∧ (q7w (q5U l) (upF (qB1 l x_2)))) ∧ ((((0 : Int) ≤ atN (q5U l) (upF (qB1 l x_2))) ∧ (atN (q5U l) (upF (qB1 l x_2)) < (q50 l))) ∧ ((((q03.owner (List.getD l (Int.toNat (atN (q5U l) (upF (qB1 l x_2)))) default) != 0) = true) → (VLe (vi 1) (vi (q0p l)))) ∧ (((q03.owner (List.getD l (Int.toNat (atN (q5U l) (upF (qB1 l x_2)))) default) != 0) = false) → ((inK IntKind.i64 ((↑x_2 : Int) + (1 : Int))) ∧ (∃ y : Nat, ((SLe (AS.mk [(q5a l), (7, vi ((↑x_2 : Int) + (1 : Int)))] []) (AS.mk [(q5a l), (7, vi (↑y : Int))] [])) ∧ (((y ≤ List.length l) ∧ (∀ j : Nat, ((j < y) → (qIP l j)))) ∧ (List.length l - y < List.length l - x_2)))))))))))) ∧ ((decide ((↑x_2 : Int) < (q50 l)) = false) → (VLe (vi 0) (vi (q0p l))))))))))))))))))))))) := by
  delta qAP; delta qIp; delta qG7; delta qIP; delta q5a; delta q50; delta qB1; delta qBG; delta q6F; delta q5U; delta q6J; delta q5q; delta vi
  have hl : l.length ≤ maxLen := hpre
  unfold maxLen at hl
  simp only [q11, q0s, qBO, q16]
  refine ⟨fun h => ?_, fun h => ?_⟩
  ·have h1 : 20 < l.length := by have := of_decide_eq_true h; omega
   exact q0J (by unfold q0p; rw [if_pos h1])
  have h1 : ¬ 20 < l.length := by have := of_decide_eq_false h; omega
  have e1 : q0p l = if q1w (q3d l) l.length ≠ 0 then q1w (q3d l) l.length else if atN l top < 0 then 4 else if qNh l then 4 else if qAo l then 1 else 0 := if_neg h1
  refine ⟨⟨0, SLe.refl _, by omega, rfl⟩, ?_⟩
  rintro i ⟨hi, hz⟩
  refine ⟨fun h2 => ?_, fun h2 => ?_⟩
  ·have hlt : i < l.length := by have := of_decide_eq_true h2; omega
   simp only [Int.toNat_natCast]
   have stop : ∀ c, c = q3d l i → c ≠ 0 → VLe (.int .i64 c) (.int .i64 (q0p l)) := fun c hc h0 => q0J (by
    have := q4X hz (by rw [← hc]; exact h0) _ hlt
    rw [e1, if_pos (by rw [this, ← hc]; exact h0), this, hc])
   refine ⟨⟨by omega, by omega⟩, trivial, fun h3 => ?_, fun h3 => ?_⟩
   ·have h4 : q10 (l.getD i default).path ≠ 0 := by simpa using h3
    have h5 : q4O (l.getD i default) = q10 (l.getD i default).path := if_pos h4
    exact stop _ (by unfold q3d; rw [if_pos (by rw [h5]; exact h4), h5]) h4
   have h4 : ¬ q10 (l.getD i default).path ≠ 0 := by simpa using h3
   have n0 : q4O (l.getD i default) = if ¬ (inR (l.getD i default).data 0 9999 ∧ inR (l.getD i default).version 0 999 ∧ inR (l.getD i default).owner 0 9 ∧ inR (l.getD i default).next 0 100) then 3 else 0 := if_neg h4
   refine ⟨trivial, ?_⟩
   repeat (first | (refine And.intro (fun h _ => h) ?_) | (refine And.intro (fun _ h => h) ?_) | (refine And.intro ?aa ?_; case aa => (exact (tqI _))) | (refine And.intro ?aa ?_; case aa => (exact trivial)) | (refine And.intro ?aa ?_; case aa => (exact fun _ => trivial)) | (refine And.intro ?aa ?_; case aa => (intros; simp_all [qGj, qFs, q4f, qJT, q7w, qDg]; done)) | (refine And.intro ?aa ?_; case aa => (intros; exact q0U (by omega))) | (refine And.intro ?aa ?_; case aa => (intros; simp only [decide_eq_true_eq] at *; omega)) | (intro q hq))
   have e0 : q = decide (¬ (inR (l.getD i default).data 0 9999 ∧ inR (l.getD i default).version 0 999 ∧ inR (l.getD i default).owner 0 9 ∧ inR (l.getD i default).next 0 100)) := by
    rw [hq]
    simp only [*]
    rw [Bool.eq_iff_iff, decide_eq_true_eq]
    by_cases a1 : inR (l.getD i default).data 0 9999 <;> by_cases a2 : inR (l.getD i default).version 0 999 <;> by_cases a3 : inR (l.getD i default).owner 0 9 <;> by_cases a4 : inR (l.getD i default).next 0 100 <;> simp only [a1, a2, a3, a4, decide_true, decide_false, Bool.not_true, Bool.not_false, cond_true, cond_false, and_true, true_and, and_false, false_and, not_true_eq_false, not_false_eq_true, Bool.false_eq_true]
   clear hq
   rw [e0]
   refine ⟨fun h5 => ?_, fun h5 => ?_⟩
   ·have h6 : q4O (l.getD i default) = 3 := by rw [n0, if_pos (of_decide_eq_true h5)]
    exact stop _ (by unfold q3d; rw [if_pos (by rw [h6]; decide), h6]) (by decide)
   have h6 : q4O (l.getD i default) = 0 := by rw [n0, if_neg (of_decide_eq_false h5)]
   have e2 : q3d l i = if 0 < i ∧ ¬ lt (atZ l (i - 1)).path (atZ l i).path then 1 else 0 := if_neg (not_not_intro h6)
   clear e0
   repeat (first | (refine And.intro (fun h _ => h) ?_) | (refine And.intro (fun _ h => h) ?_) | (refine And.intro ?aa ?_; case aa => (exact (tqI _))) | (refine And.intro ?aa ?_; case aa => (exact (fun h => q0U (by omega)))) | (refine And.intro ?aa ?_; case aa => (exact (fun h => ⟨by have := of_decide_eq_true h; omega, by omega⟩))) | (refine And.intro ?aa ?_; case aa => (intros; simp_all [qGj, qFs, q4f, qJT, q7w, qDg]; done)) | (refine And.intro ?aa ?_; case aa => (intros; exact q0U (by omega))) | (refine And.intro ?aa ?_; case aa => (intros; simp only [decide_eq_true_eq] at *; omega)) | (intro q hq))
   have e3 : q = decide (0 < i ∧ ¬ lt (atZ l (i - 1)).path (atZ l i).path) := by
    rw [hq, Bool.eq_iff_iff, decide_eq_true_eq]
    by_cases a1 : 0 < i
    ·have n1 : ((i : Int) - 1).toNat = i - 1 := by omega
     have a2 : decide ((i : Int) > 0) = true := decide_eq_true (by omega)
     rw [a2, n1]
     simp only [cond_true, Bool.or_eq_true, decide_eq_true_eq, a1, true_and]
     refine ⟨fun g => g.elim qHc (fun g => by
      show ¬ lt _ (l.getD i default).path
      rw [g]
      exact lt_irrefl _), fun g => Classical.byContradiction fun k => ?_⟩
     exact k (Or.inr (qI3 (fun g2 => k (Or.inl g2)) g))
    ·have a2 : decide ((i : Int) > 0) = false := decide_eq_false (by omega)
     rw [a2]
     simp [a1]
   refine ⟨fun h5 => ?_, fun h5 => ?_⟩
   ·rw [e3] at h5
    exact stop _ (by rw [e2, if_pos (of_decide_eq_true h5)]) (by decide)
   ·rw [e3] at h5
    exact ⟨q0U (by omega), i + 1, SLe.refl _, ⟨by omega, q4U hz (by rw [e2, if_neg (of_decide_eq_false h5)])⟩, by omega⟩
  ·have hge : i = l.length := by have := of_decide_eq_false h2; omega
   rw [hge] at hz
   have hr := q3F hz
   have e2 : q0p l = if atN l top < 0 then 4 else if qNh l then 4 else if qAo l then 1 else 0 := by rw [e1, if_neg (not_not_intro hz)]
   have hsz : ∀ j, j < l.length → (atZ l j).path.size ≤ 1000 := fun j hj => by
    have := q6g (q8P (q84 hz hj)); omega
   refine ⟨⟨VLe.refl _, hpre⟩, fun h3 => ?_, fun h3 => ?_⟩
   ·exact q0J (by rw [e2, if_pos (of_decide_eq_true h3)])
   have e3 : q0p l = if qNh l then 4 else if qAo l then 1 else 0 := by rw [e2, if_neg (of_decide_eq_false h3)]
   refine ⟨⟨0, SLe.refl _, by omega, fun j hj => absurd hj (Nat.not_lt_zero j)⟩, ?_⟩
   rintro i ⟨hi, hj⟩
   refine ⟨fun h5 => ?_, fun h5 => ?_⟩
   ·have hlt : i < l.length := by have := of_decide_eq_true h5; omega
    simp only [Int.toNat_natCast]
    refine ⟨⟨by omega, by omega⟩, hsz i hlt, ⟨VLe.refl _, hpre⟩, fun h6 => ?_, fun h6 => ⟨q0U (by omega), i + 1, SLe.refl _, ⟨by omega, fun j h7 => ?_⟩, by omega⟩⟩
    ·exact q0J (by rw [e3, if_pos ⟨_, q4A hlt, of_decide_eq_true h6⟩])
    ·by_cases e : j = i
     ·rw [e]; exact of_decide_eq_false h6
     ·exact hj j (by omega)
   have hge : i = l.length := by have := of_decide_eq_false h5; omega
   subst hge
   have hn : ¬ qNh l := by
    rintro ⟨z, h6, h7⟩
    obtain ⟨k, hk, rfl⟩ := qBM h6
    exact hj k hk h7
   have e4 : q0p l = if qAo l then 1 else 0 := by rw [e3, if_neg hn]
   refine ⟨⟨0, SLe.refl _, by omega, fun j hj => absurd hj (Nat.not_lt_zero j)⟩, ?_⟩
   rintro i ⟨hi, hk⟩
   refine ⟨fun h5 => ?_, fun h5 => ?_⟩
   ·have hlt : i < l.length := by have := of_decide_eq_true h5; omega
    simp only [Int.toNat_natCast]
    have h8 : ¬ atN l (upF (l.getD i default).path) < 0 := hj i hlt
    have h9 : atN l (upF (l.getD i default).path) < l.length := (qDF (q9R (upF (l.getD i default).path)) l).elim id fun g => absurd (show atN l (upF (l.getD i default).path) = -1 from g) (by omega)
    refine ⟨⟨by omega, by omega⟩, hsz i hlt, ⟨VLe.refl _, hpre⟩, ⟨by omega, by omega⟩, fun h6 => ?_, fun h6 => ⟨q0U (by omega), i + 1, SLe.refl _, ⟨by omega, fun j h7 => ?_⟩, by omega⟩⟩
    ·exact q0J (by rw [e4, if_pos ⟨_, q4A hlt, by simpa using h6⟩])
    ·by_cases e : j = i
     ·rw [e]; exact by simpa using h6
     ·exact hk j (by omega)
   ·have hge : i = l.length := by have := of_decide_eq_false h5; omega
    subst hge
    refine q0J ?_
    rw [e4, if_neg]
    rintro ⟨z, h6, h7⟩
    obtain ⟨k, hk2, rfl⟩ := qBM h6
    exact h7 (hk k hk2)
 exact Eq.mp (by kernel_rfl) key
theorem x5P : q0T Tryz.prog 149 qQe := by
 refine q09 q1C (pol := 0) Tryz.func149 rfl (by kernel_rfl) fun args bin ob r bout hDe hob => ?_
 unfold qQe at hDe
 split at hDe
 ·rename_i a0
  cases hDe
  exact okB (x0q ((q0M q04) a0) (hob.2)) x27 (args_of_vles ⟨hob.1, trivial⟩)
 ·cases hDe
theorem qNn {l : List q06} (h : ∀ i, 0 < i → i < l.length → (l.getD (i - 1) default).id < (l.getD i default).id) : qOl l := by
 intro i j hij hj
 induction j with
 | zero => omega
 | succ j ih =>
  have h1 := h (j + 1) (by omega) hj
  rw [Nat.add_sub_cancel] at h1
  by_cases e : i = j
  ·subst e; exact h1
  ·have := ih (by omega) (by omega)
   omega
def okS (l : List q06) : Prop := l.length ≤ 6 ∧ qOl l ∧ ∀ s ∈ l, inR s.id 1 9 ∧ inR s.upto 0 9999
theorem qO1 {l : List q06} {id : Int} (h : q9Y l id = true) : q8N l id < l.length := (of_decide_eq_true h).1
def qNX (s : q06) (id : Int) : Prop := inR s.id 1 9 ∧ inR id 1 9
noncomputable def qWs (s : q06) (id : Int) : V := .int .i64 (s.id - id)
noncomputable def qSK : q0G := fun args bin => match args, bin with
 | [a0, .int .i64 a1], [] => some (VLe a0 (q02 1 ((q08 a0))) ∧ qNX (q08 a0) a1, qWs (q08 a0) a1, [])
 | _, _ => none
noncomputable def x6V : Nat → Option (Fl × q0G) := lk []
theorem qYo : q0D Tryz.prog x6V := q07
noncomputable def x1b (s : q06) (id : Int) : Cx := ⟨tt, x6V, Tryz.f265.ntmps, [0, 1, 2, 4], [], [], fun _ => none, [], noM, []⟩
theorem x4o (s : q06) (id : Int) (hpre : qNX s id) : q0f (x1b s id) Tryz.f265 0 [q02 1 (s), .int .i64 (id)] (fun rr => VLe rr (qWs s id)) := by
 have key : ((inK IntKind.i64 (q06.id s - id)) ∧ (VLe (vi (q06.id s - id)) (vi (q06.id s - id)))) := by
  delta vi
  obtain ⟨h1, h2⟩ := hpre
  unfold inR at h1 h2
  exact ⟨q0U (by omega), VLe.refl _⟩
 exact Eq.mp (by kernel_rfl) key
theorem x53 : q0T Tryz.prog 265 qSK := by
 refine q09 q1C (pol := 0) Tryz.func265 rfl (by kernel_rfl) fun args bin ob r bout hDe hob => ?_
 unfold qSK at hDe
 split at hDe
 ·rename_i a0 a1
  cases hDe
  exact okB (x4o (q08 a0) a1 (hob.2)) qYo (args_of_vles ⟨hob.1, VLe.refl _, trivial⟩)
 ·cases hDe
def qBC (l : List q06) (id : Int) : Prop := okS l ∧ inR id 1 9
noncomputable def qEg (l : List q06) (id : Int) : V := .tup [.int .i64 (q8N l id), .bool (q9Y l id)]
noncomputable def qAh : q0G := fun args bin => match args, bin with
 | [a0, .int .i64 a1, .fn 265 []], [] => some (VLe a0 (q0H (q02 1) 1 (((q0M q08) a0))) ∧ qBC ((q0M q08) a0) a1, qEg ((q0M q08) a0) a1, [])
 | _, _ => none
noncomputable def qH7 (l : List q06) (id : Int) : q0O :=
 ⟨Nat × Nat, fun p => ⟨[(0, q0H (q02 1) 1 l), (1, .int .i64 id), (2, .fn 265 []), (8, .int .i64 l.length), (9, .int .i64 p.1), (10, .int .i64 p.2)], []⟩,
  fun p => p.1 ≤ p.2 ∧ p.2 ≤ l.length ∧ (∀ k, k < p.1 → (l.getD k default).id < id) ∧ (p.2 < l.length → ¬ (l.getD p.2 default).id < id), fun p => p.2 - p.1⟩
noncomputable def qLA (l : List q06) (id : Int) : Nat → Option q0O := fun rg_ => match rg_ with
 | 3 => some (qH7 l id)
 | _ => none
noncomputable def qIh : Nat → Option (Fl × q0G) := lk [(265, (.ro, qSK))]
theorem qNg : q0D Tryz.prog qIh := q01 x53 (q07)
noncomputable def qMy (l : List q06) (id : Int) : Cx := ⟨tt, qIh, Tryz.f264.ntmps, [0, 1, 2, 6, 7, 8, 9, 10, 11, 17, 31], [(3, ⟨[(0, none), (1, none), (2, none), (8, none), (9, none), (10, none)], []⟩)], [], qLA l id, [], noM, []⟩
noncomputable def q4a (l : List q06) (x : Nat × Nat) : V := (q02 1 (List.getD l (Int.toNat (Int.fdiv ((↑x.1 : Int) + (↑x.2 : Int)) ((2 : Int) ^ Int.toNat (1 : Int)))) default))
noncomputable def q1e (l : List q06) : Int := (↑(List.length l) : Int)
def q8j (l : List q06) (id : Int) (x : Nat × Nat) (y : Nat × Nat) : Prop := (((Prod.fst y ≤ Prod.snd y) ∧ ((Prod.snd y ≤ List.length l) ∧ ((∀ k : Nat, ((k < Prod.fst y) → (q06.id (List.getD l k default) < id))) ∧ ((Prod.snd y < List.length l) → (¬q06.id (List.getD l y.2 default) < id))))) ∧ (Prod.snd y - Prod.fst y < Prod.snd x - Prod.fst x))
def q8Y (l : List q06) (id : Int) (x : Nat × Nat) : Prop := ((Prod.fst x ≤ Prod.snd x) ∧ ((Prod.snd x ≤ List.length l) ∧ ((∀ k : Nat, ((k < Prod.fst x) → (q06.id (List.getD l k default) < id))) ∧ ((Prod.snd x < List.length l) → (¬q06.id (List.getD l x.2 default) < id)))))
noncomputable def q3J (l : List q06) (x : Nat × Nat) : Bool := (decide ((↑x.1 : Int) < (q1e l)))
noncomputable def q5V (l : List q06) (x : Nat × Nat) : V := (q02 1 (List.getD l (Int.toNat (↑x.1 : Int)) default))
noncomputable def q93 (l : List q06) (id : Int) (y : Nat × Nat) : AS := (AS.mk [(0, q0H (q02 1) 1 l), (1, vi id), (2, V.fn (265 : FuncId) []), (8, vi (q1e l)), (9, vi (↑y.1 : Int)), (10, vi (↑y.2 : Int))] [])
theorem qLl (l : List q06) (id : Int) (hpre : qBC l id) : q0f (qMy l id) Tryz.f264 0 [q0H (q02 1) 1 (l), .int .i64 (id), .fn 265 []] (fun rr => VLe rr (qEg l id)) := by
 have key : ((∃ x : Nat × Nat, ((SLe (AS.mk [(0, q0H (q02 1) 1 l), (1, vi id), (2, V.fn (265 : FuncId) []), (8, vi (q1e l)), (9, vi 0), (10, vi (q1e l))] []) (AS.mk [(0, q0H (q02 1) 1 l), (1, vi id), (2, V.fn (265 : FuncId) []), (8, vi (q1e l)), (9, vi (↑x.1 : Int)), (10, vi (↑x.2 : Int))] [])) ∧ (q8Y l id x))) ∧ (∀ x : Nat × Nat, ((q8Y l id x) → (((decide ((↑x.1 : Int) < (↑x.2 : Int)) = true) → ((inK IntKind.i64 ((↑x.1 : Int) + (↑x.2 : Int))) ∧ ((inK IntKind.u64 ((↑x.1 : Int) + (↑x.2 : Int))) ∧ ((((0 : Int) ≤ (1 : Int)) ∧ (Int.toNat (1 : Int) ≤ IntKind.bits IntKind.u64)) ∧ ((inK IntKind.i64 (Int.fdiv ((↑x.1 : Int) + (↑x.2 : Int)) ((2 : Int) ^ Int.toNat (1 : Int)))) ∧ ((((0 : Int) ≤ Int.fdiv ((↑x.1 : Int) + (↑x.2 : Int)) ((2 : Int) ^ Int.toNat (1 : Int))) ∧ (Int.fdiv ((↑x.1 : Int) + (↑x.2 : Int)) ((2 : Int) ^ Int.toNat (1 : Int)) < (q1e l))) ∧ (((VLe (q4a l x) (q02 1 (q08 (q4a l x)))) ∧ (qNX (q08 (q4a l x)) id)) ∧ (((decide (q06.id (q08 (q4a l x)) - id < (0 : Int)) = true) → ((inK IntKind.i64 (Int.fdiv ((↑x.1 : Int) + (↑x.2 : Int)) ((2 : Int) ^ Int.toNat (1 : Int)) + (1 : Int))) ∧ (∃ y : Nat × Nat, ((SLe (AS.mk [(0, q0H (q02 1) 1 l), (1, vi id), (2, V.fn (265 : FuncId) []), (8, vi (q1e l)), (9, vi (Int.fdiv ((↑x.1 : Int) + (↑x.2 : Int)) ((2 : Int) ^ Int.toNat (1 : Int)) + (1 : Int))), (10, vi (↑x.2 : Int))] []) (q93 l id y)) ∧ (q8j l id x y))))) ∧ ((decide (q06.id (q08 (q4a l x)) - id < (0 : Int)) = false) → (∃ y : Nat × Nat, ((SLe (AS.mk [(0, q0H (q02 1) 1 l), (1, vi id), (2, V.fn (265 : FuncId) []), (8, vi (q1e l)), (9, vi (↑x.1 : Int)), (10, vi (Int.fdiv ((↑x.1 : Int) + (↑x.2 : Int)) ((2 : Int) ^ Int.toNat (1 : Int))))] []) (q93 l id y)) ∧ (q8j l id x y)))))))))))) ∧ ((decide ((↑x.1 : Int) < (↑x.2 : Int)) = false) → ((tq (q3J l x)) ∧ ((tq (q3J l x)) ∧ (((decide ((↑x.1 : Int) < (q1e l)) = true) → (((0 : Int) ≤ (↑x.1 : Int)) ∧ ((↑x.1 : Int) < (q1e l)))) ∧ ((tq (q3J l x)) ∧ ((tq (q3J l x)) ∧ ((tq (q3J l x)) ∧ ((tq (q3J l x)) ∧ (((decide ((↑x.1 : Int) < (q1e l)) = true) → ((VLe (q5V l x) (q02 1 (q08 (q5V l x)))) ∧ (qNX (q08 (q5V l x)) id))) ∧ ((tq (q3J l x)) ∧ (((true = true) → ((decide ((↑x.1 : Int) < (q1e l)) = true) → (decide ((↑x.1 : Int) < (q1e l)) = true))) ∧ (∀ b : Bool, ((b = bif decide ((↑x.1 : Int) < (q1e l)) then q06.id (q08 (q5V l x)) - id == 0 else false) → (VLe (V.tup [vi (↑x.1 : Int), V.bool b]) (V.tup [vi (↑(q8N l id) : Int), V.bool (q9Y l id)]))))))))))))))))))) := by
  delta q93; delta q5V; delta q3J; delta q8Y; delta q8j; delta q1e; delta q4a; delta vi
  obtain ⟨⟨hl, hr, hs⟩, hid⟩ := hpre
  have hin : ∀ m, m < l.length → inR (l.getD m default).id 1 9 := fun m hm => (hs _ (by simp [hm])).1
  simp only [q1h, x89]
  refine ⟨⟨(0, l.length), SLe.refl _, by simp, by simp, fun k hk => absurd hk (Nat.not_lt_zero k), fun h => absurd h (Nat.lt_irrefl _)⟩, ?_⟩
  rintro ⟨i, j⟩ ⟨h1, h2, h3, h4⟩
  simp only at h1 h2 h3 h4 ⊢
  refine ⟨fun h => ?_, fun h => ?_⟩
  ·have hlt : i < j := by have := of_decide_eq_true h; omega
   have m1 : i ≤ (i + j) / 2 ∧ (i + j) / 2 < j := by omega
   have m2 : i + j ≤ 2000 := by omega
   generalize (i + j) / 2 = m at *
   simp only [Int.toNat_natCast]
   refine ⟨q0U (by omega), qXh (by omega), by decide, q0U (by omega), ⟨by omega, by omega⟩, ⟨VLe.refl _, hin m (by omega), hid⟩, fun h5 => ?_, fun h5 => ?_⟩
   ·have h6 : (l.getD m default).id < id := by have := of_decide_eq_true h5; omega
    refine ⟨q0U (by omega), (m + 1, j), SLe.refl _, ⟨by simp only; omega, h2, fun k hk => ?_, h4⟩, by simp only; omega⟩
    by_cases e : k = m
    ·subst e; exact h6
    ·have := hr k m (by simp only at hk; omega) (by omega)
     omega
   ·have h6 : ¬ (l.getD m default).id < id := fun g => of_decide_eq_false h5 (by omega)
    exact ⟨(i, m), SLe.refl _, ⟨by simp only; omega, by simp only; omega, h3, fun _ => h6⟩, by simp only; omega⟩
  ·have hij : i = j := by have := of_decide_eq_false h; omega
   subst hij
   have hp : q8N l id = i := qHO h2 h3 h4
   repeat (first | (refine And.intro (fun h _ => h) ?_) | (refine And.intro (fun _ h => h) ?_) | (refine And.intro ?aa ?_; case aa => (exact (tqI _))) | (refine And.intro ?aa ?_; case aa => (exact (fun h => ⟨by omega, by have := of_decide_eq_true h; omega⟩))) | (refine And.intro ?aa ?_; case aa => (exact (fun h => ⟨VLe.refl _, hin i (by have := of_decide_eq_true h; omega), hid⟩))) | (refine And.intro ?aa ?_; case aa => (intros; simp_all [qNX]; done)) | (refine And.intro ?aa ?_; case aa => (intros; exact q0U (by omega))) | (refine And.intro ?aa ?_; case aa => (intros; simp only [decide_eq_true_eq] at *; omega)) | (intro q hq))
   refine q97 ⟨q0J (by rw [hp]), q0e ?_, trivial⟩
   rw [hq]
   unfold q9Y
   rw [hp, Bool.eq_iff_iff, decide_eq_true_eq]
   by_cases a1 : i < l.length
   ·have a2 : decide ((i : Int) < (l.length : Int)) = true := decide_eq_true (by omega)
    rw [a2]
    simp only [cond_true, beq_iff_eq, Int.toNat_natCast, a1, true_and]
    omega
   ·have a2 : decide ((i : Int) < (l.length : Int)) = false := decide_eq_false (by omega)
    rw [a2]
    simp [a1]
 exact Eq.mp (by kernel_rfl) key
theorem qKz : q0T Tryz.prog 264 qAh := by
 refine q09 q1C (pol := 0) Tryz.func264 rfl (by kernel_rfl) fun args bin ob r bout hDe hob => ?_
 unfold qAh at hDe
 split at hDe
 ·rename_i a0 a1
  cases hDe
  exact okB (qLl ((q0M q08) a0) a1 (hob.2)) qNg (args_of_vles ⟨hob.1, VLe.refl _, VLe.refl _, trivial⟩)
 ·cases hDe
def qNv (l : List q06) (id : Int) : Prop := okS l ∧ inR id 1 9
noncomputable def qXV (l : List q06) (id : Int) : V := .tup [.int .i64 (q8N l id), .bool (q9Y l id)]
noncomputable def qPJ : q0G := fun args bin => match args, bin with
 | [a0, .int .i64 a1], [] => some (VLe a0 (q0H (q02 1) 1 (((q0M q08) a0))) ∧ qNv ((q0M q08) a0) a1, qXV ((q0M q08) a0) a1, [])
 | _, _ => none
noncomputable def x66 : Nat → Option (Fl × q0G) := lk [(264, (.ro, qAh))]
theorem qYu : q0D Tryz.prog x66 := q01 qKz (q07)
noncomputable def x5V (l : List q06) (id : Int) : Cx := ⟨tt, x66, Tryz.f228.ntmps, [0, 1, 4, 5], [], [], fun _ => none, [], noM, []⟩
noncomputable def qFP (l : List q06) : List q06 := (q0M q08 (q0H (q02 1) 1 l))
theorem x3Y (l : List q06) (id : Int) (hpre : qNv l id) : q0f (x5V l id) Tryz.f228 0 [q0H (q02 1) 1 (l), .int .i64 (id)] (fun rr => VLe rr (qXV l id)) := by
 have key : (((VLe (q0H (q02 1) 1 l) (q0H (q02 1) 1 (qFP l))) ∧ (qBC (qFP l) id)) ∧ (VLe (V.tup [vi (↑(q8N (qFP l) id) : Int), V.bool (q9Y (qFP l) id)]) (V.tup [vi (↑(q8N l id) : Int), V.bool (q9Y l id)]))) := by
  delta qFP; delta vi
  simp only [q19]
  exact ⟨⟨VLe.refl _, hpre⟩, VLe.refl _⟩
 exact Eq.mp (by kernel_rfl) key
theorem qTr : q0T Tryz.prog 228 qPJ := by
 refine q09 q1C (pol := 0) Tryz.func228 rfl (by kernel_rfl) fun args bin ob r bout hDe hob => ?_
 unfold qPJ at hDe
 split at hDe
 ·rename_i a0 a1
  cases hDe
  exact okB (x3Y ((q0M q08) a0) a1 (hob.2)) qYu (args_of_vles ⟨hob.1, VLe.refl _, trivial⟩)
 ·cases hDe
def qTG (l : List q06) (id : Int) (now : Int) : Prop := okS l ∧ inR id 1 9
noncomputable def qW9 (l : List q06) (id : Int) (now : Int) : V := .bool (q8I l id now)
noncomputable def qR6 : q0G := fun args bin => match args, bin with
 | [a0, .int .i64 a1, .int .i64 a2], [] => some (VLe a0 (q0H (q02 1) 1 (((q0M q08) a0))) ∧ qTG ((q0M q08) a0) a1 a2, qW9 ((q0M q08) a0) a1 a2, [])
 | _, _ => none
noncomputable def x6c : Nat → Option (Fl × q0G) := lk [(228, (.ro, qPJ))]
theorem x3l : q0D Tryz.prog x6c := q01 qTr (q07)
noncomputable def qZq (l : List q06) (id : Int) (now : Int) : Cx := ⟨tt, x6c, Tryz.f178.ntmps, [0, 1, 2, 6, 7, 8], [], [], fun _ => none, [], noM, []⟩
noncomputable def q4F (l : List q06) : List q06 := (q0M q08 (q0H (q02 1) 1 l))
theorem qZ5 (l : List q06) (id : Int) (now : Int) (hpre : qTG l id now) : q0f (qZq l id now) Tryz.f178 0 [q0H (q02 1) 1 (l), .int .i64 (id), .int .i64 (now)] (fun rr => VLe rr (qW9 l id now)) := by
 have key : (((VLe (q0H (q02 1) 1 l) (q0H (q02 1) 1 (q4F l))) ∧ (qNv (q4F l) id)) ∧ ((tq (q9Y (q4F l) id)) ∧ ((tq (q9Y (q4F l) id)) ∧ (((q9Y (q4F l) id = true) → (((0 : Int) ≤ (↑(q8N (q4F l) id) : Int)) ∧ ((↑(q8N (q4F l) id) : Int) < (↑(List.length l) : Int)))) ∧ ((tq (q9Y (q4F l) id)) ∧ ((tq (q9Y (q4F l) id)) ∧ ((tq (q9Y (q4F l) id)) ∧ ((tq (q9Y (q4F l) id)) ∧ (((true = true) → ((q9Y (q4F l) id = true) → (q9Y (q4F l) id = true))) ∧ (∀ b : Bool, ((b = bif q9Y (q4F l) id then decide (q06.upto (List.getD l (Int.toNat (↑(q8N (q4F l) id) : Int)) default) ≥ now) else false) → (VLe (V.bool b) (V.bool (q8I l id now)))))))))))))) := by
  delta q4F
  obtain ⟨⟨hl, hr, hs⟩, hid⟩ := hpre
  have hp : q9Y l id = true → q8N l id < l.length := qO1
  simp only [q19, Int.toNat_natCast]
  refine ⟨⟨VLe.refl _, ⟨hl, hr, hs⟩, hid⟩, ?_⟩
  repeat (first | refine And.intro (tqI _) ?_ | refine And.intro (fun _ h => h) ?_ | refine And.intro (fun h => ⟨by omega, by have := hp h; omega⟩) ?_)
  intro q hq
  refine q0e ?_
  rw [hq]
  unfold q8I
  rw [qQ7 hr]
  cases hh : q9Y l id with
  | true =>
   rw [if_pos rfl, Int.toNat_natCast]
   simp
  | false =>
   have : ¬ (false = true) := by decide
   rw [if_neg this]
   simp
 exact Eq.mp (by kernel_rfl) key
theorem x45 : q0T Tryz.prog 178 qR6 := by
 refine q09 q1C (pol := 0) Tryz.func178 rfl (by kernel_rfl) fun args bin ob r bout hDe hob => ?_
 unfold qR6 at hDe
 split at hDe
 ·rename_i a0 a1 a2
  cases hDe
  exact okB (qZ5 ((q0M q08) a0) a1 a2 (hob.2)) x3l (args_of_vles ⟨hob.1, VLe.refl _, VLe.refl _, trivial⟩)
 ·cases hDe
def qKp (l : List q03) (ids : List Int) : Prop := l.length ≤ 1000 ∧ ids.length ≤ 1000
noncomputable def qAi (l : List q03) (ids : List Int) : List q03 := q28 l ids
noncomputable def qQG (l : List q03) (ids : List Int) : List Blk := [(.arr 5 (qAi l ids).length (gL (q00 1) (qAi l ids)) q0i)]
noncomputable def qPo (l : List q03) (ids : List Int) : V := .osl 0 (qAi l ids).length
noncomputable def qM0 : q0G := fun args bin => match args, bin with
 | [a0, a1], [] => some (VLe a0 (q0H (q00 1) 1 (((q0M q04) a0))) ∧ VLe a1 (q0H q2l 1 (((q0M q24) a1))) ∧ qKp ((q0M q04) a0) ((q0M q24) a1), qPo ((q0M q04) a0) ((q0M q24) a1), qQG ((q0M q04) a0) ((q0M q24) a1))
 | _, _ => none
noncomputable def qWQ : Nat → Option (Fl × q0G) := lk [(162, (.ro, qBD)), (225, (.mv, qAb))]
theorem qUb : q0D Tryz.prog qWQ := q01 qG2 (q01 qKB (q07))
noncomputable def qXf (l : List q03) (ids : List Int) : Cx := ⟨tt, qWQ, Tryz.f159.ntmps, [0, 1, 3, 4], [], [], fun _ => none, [], noM, []⟩
noncomputable def q6T (l : List q03) : List q03 := (q0M q04 (q0H (q00 1) 1 l))
noncomputable def q8v (l : List q03) : List q03 := (q0M q04 (q0H (q00 1) 1 (q0g (q6T l))))
theorem qWe (l : List q03) (ids : List Int) (hpre : qKp l ids) : q3H (qXf l ids) Tryz.f159 [(0, 5)] [q0H (q00 1) 1 (l), q0H q2l 1 (ids)] [] (fun rr bs => VLe rr (qPo l ids) ∧ q1d bs (qQG l ids)) := by
 have key : (((VLe (q0H (q00 1) 1 l) (q0H (q00 1) 1 (q6T l))) ∧ (qAX (q6T l))) ∧ ((((0 = 0) ∧ ((5 = 5) ∧ ((100 = 100) ∧ ((List.length (q0g (q6T l)) = List.length (q0g (q6T l))) ∧ (∀ i : Nat, ((i < List.length (q0g (q6T l))) → (ELe (q00 1 (List.getD (q0g (q6T l)) i default)) (q00 1 (List.getD (q8v l) i default))))))))) ∧ ((VLe (V.ptr [q0H q2l 1 ids] 0 1) (q4l q2l 1 (q2d q24 (V.ptr [q0H q2l 1 ids] 0 1)))) ∧ (qAH (q8v l) (q2d q24 (V.ptr [q0H q2l 1 ids] 0 1))))) ∧ ((VLe (V.osl 0 (List.length (q23 (q8v l) (q2d q24 (V.ptr [q0H q2l 1 ids] 0 1))))) (V.osl 0 (List.length (qAi l ids)))) ∧ ((BLe (Blk.arr 5 (List.length (q23 (q8v l) (q2d q24 (V.ptr [q0H q2l 1 ids] 0 1)))) (gL (q00 1) (q23 (q8v l) (q2d q24 (V.ptr [q0H q2l 1 ids] 0 1)))) 100) (Blk.arr 5 (List.length (qAi l ids)) (gL (q00 1) (qAi l ids)) 100)) ∧ (True))))) := by
  delta q8v; delta q6T
  obtain ⟨hl, hi⟩ := hpre
  simp only [q0s, qGf, q0g]
  exact ⟨⟨VLe.refl _, hl⟩, ⟨⟨trivial, trivial, trivial, trivial, fun i hi => ELe.refl _⟩, VLe.refl _, hl, hi⟩, VLe.refl _, BLe.refl _, trivial⟩
 exact Eq.mp (by kernel_rfl) key
theorem qVN : q0T Tryz.prog 159 qM0 := by
 refine q0V q1C (tpl := [(0, 5)]) Tryz.func159 rfl (by kernel_rfl) fun args bin ob r bout hDe hob => ?_
 unfold qM0 at hDe
 split at hDe
 ·rename_i a0 a1
  cases hDe
  exact okQ (qWe ((q0M q04) a0) ((q0M q24) a1) (hob.2.2)) qUb (args_of_vles ⟨hob.1, hob.2.1, trivial⟩) trivial
 ·cases hDe
theorem qJa : ELe (.agg [.str ⟨#[]⟩, .int .i64 0, .int .i64 0, .int .i64 0, .int .i64 0]) (q00 1 default) := ELe.refl _
def q15 (x : q03) (left : Int) : Int := q2J x.path.size left
theorem q6j (x : q03) (left : Int) : q15 x left ≤ left ∨ q15 x left < 0 := q7s _ _
def qTW (x : q03) (left : Int) : Prop := 0 ≤ left ∧ left ≤ q4I ∧ x.bd
noncomputable def qW6 (x : q03) (left : Int) : V := .int .i64 (q15 x left)
noncomputable def qRt : q0G := fun args bin => match args, bin with
 | [a0, .int .i64 a1], [] => some (VLe a0 (q00 1 ((q04 a0))) ∧ qTW (q04 a0) a1, qW6 (q04 a0) a1, [])
 | _, _ => none
noncomputable def x6S : Nat → Option (Fl × q0G) := lk []
theorem x3Q : q0D Tryz.prog x6S := q07
noncomputable def qYN (x : q03) (left : Int) : Cx := ⟨tt, x6S, Tryz.f147.ntmps, [0, 1, 2, 4, 11], [], [], fun _ => none, [], noM, []⟩
theorem x03 (x : q03) (left : Int) (hpre : qTW x left) : q0f (qYN x left) Tryz.f147 0 [q00 1 (x), .int .i64 (left)] (fun rr => VLe rr (qW6 x left)) := by
 have key : ((inK IntKind.i64 (left - (↑(ByteArray.size (q03.path x)) : Int))) ∧ (((decide (left - (↑(ByteArray.size (q03.path x)) : Int) < (0 : Int)) = true) → (VLe (vi (-1)) (vi (q15 x left)))) ∧ ((decide (left - (↑(ByteArray.size (q03.path x)) : Int) < (0 : Int)) = false) → (VLe (vi (left - (↑(ByteArray.size (q03.path x)) : Int))) (vi (q15 x left)))))) := by
  delta vi
  obtain ⟨h0, hm, hb⟩ := hpre
  unfold q4I at hm
  unfold q03.bd maxLen at hb
  refine ⟨q0U (by omega), fun h => ?_, fun h => ?_⟩
  ·exact q0J (by unfold q15 q2J; rw [if_pos (of_decide_eq_true h)])
  ·exact q0J (by unfold q15 q2J; rw [if_neg (of_decide_eq_false h)])
 exact Eq.mp (by kernel_rfl) key
theorem qYV : q0T Tryz.prog 147 qRt := by
 refine q09 q1C (pol := 0) Tryz.func147 rfl (by kernel_rfl) fun args bin ob r bout hDe hob => ?_
 unfold qRt at hDe
 split at hDe
 ·rename_i a0 a1
  cases hDe
  exact okB (x03 (q04 a0) a1 (hob.2)) x3Q (args_of_vles ⟨hob.1, VLe.refl _, trivial⟩)
 ·cases hDe
def x5f (xs : List q03) (left : Int) : Prop := 0 ≤ left ∧ left ≤ q4I ∧ xs.length ≤ maxLen ∧ ∀ x ∈ xs, x.bd
noncomputable def x6X (xs : List q03) (left : Int) : V := .int .i64 (szS q15 xs left)
noncomputable def x2o : q0G := fun args bin => match args, bin with
 | [a0, .int .i64 a1], [] => some (VLe a0 (q0H (q00 1) 1 (((q0M q04) a0))) ∧ x5f ((q0M q04) a0) a1, x6X ((q0M q04) a0) a1, [])
 | _, _ => none
noncomputable def qTs (xs : List q03) (left : Int) : q0O :=
 ⟨Nat × Int, fun p => ⟨[(0, q0H (q00 1) 1 xs), (1, .int .i64 p.2), (5, .int .i64 p.1)], []⟩,
  fun p => p.1 ≤ xs.length ∧ 0 ≤ p.2 ∧ p.2 ≤ left ∧ szS q15 xs left = szA q15 (xs.drop p.1) p.2, fun p => xs.length - p.1⟩
noncomputable def x8a (xs : List q03) (left : Int) : Nat → Option q0O := fun rg_ => match rg_ with
 | 5 => some (qTs xs left)
 | _ => none
noncomputable def D83 : Nat → Option (Fl × q0G) := lk [(147, (.ro, qRt))]
theorem x9H : q0D Tryz.prog D83 := q01 qYV (q07)
noncomputable def x8d (xs : List q03) (left : Int) : Cx := ⟨tt, D83, Tryz.f83.ntmps, [0, 1, 4, 5, 11, 15, 25], [(5, ⟨[(0, none), (1, none), (5, none)], []⟩)], [], x8a xs left, [], noM, []⟩
noncomputable def qGT (xs : List q03) (x : Nat × Int) : V := (q00 1 (List.getD xs (Int.toNat (↑x.1 : Int)) default))
def qSM (xs : List q03) (left : Int) (x : Nat × Int) : Prop := ((Prod.fst x ≤ List.length xs) ∧ (((0 : Int) ≤ Prod.snd x) ∧ ((Prod.snd x ≤ left) ∧ (szS q15 xs left = szA q15 (List.drop x.1 xs) x.2))))
noncomputable def qFH (xs : List q03) : Int := (↑(List.length xs) : Int)
theorem x8y (xs : List q03) (left : Int) (hpre : x5f xs left) : q0f (x8d xs left) Tryz.f83 0 [q0H (q00 1) 1 (xs), .int .i64 (left)] (fun rr => VLe rr (x6X xs left)) := by
 have key : ((inK IntKind.i64 (left - (qFH xs))) ∧ (((decide (left - (qFH xs) < (0 : Int)) = true) → (VLe (vi (-1)) (vi (szS q15 xs left)))) ∧ ((decide (left - (qFH xs) < (0 : Int)) = false) → ((∃ x : Nat × Int, ((SLe (AS.mk [(0, q0H (q00 1) 1 xs), (1, vi (left - (qFH xs))), (5, vi 0)] []) (AS.mk [(0, q0H (q00 1) 1 xs), (1, vi x.2), (5, vi (↑x.1 : Int))] [])) ∧ (qSM xs left x))) ∧ (∀ x : Nat × Int, ((qSM xs left x) → (((decide ((↑x.1 : Int) < (qFH xs)) = true) → ((((0 : Int) ≤ (↑x.1 : Int)) ∧ ((↑x.1 : Int) < (qFH xs))) ∧ (((VLe (qGT xs x) (q00 1 (q04 (qGT xs x)))) ∧ (qTW (q04 (qGT xs x)) x.2)) ∧ (((decide (q15 (q04 (qGT xs x)) x.2 < (0 : Int)) = true) → (VLe (vi (-1)) (vi (szS q15 xs left)))) ∧ ((decide (q15 (q04 (qGT xs x)) x.2 < (0 : Int)) = false) → ((inK IntKind.i64 ((↑x.1 : Int) + (1 : Int))) ∧ (∃ y : Nat × Int, ((SLe (AS.mk [(0, q0H (q00 1) 1 xs), (1, vi (q15 (q04 (qGT xs x)) x.2)), (5, vi ((↑x.1 : Int) + (1 : Int)))] []) (AS.mk [(0, q0H (q00 1) 1 xs), (1, vi y.2), (5, vi (↑y.1 : Int))] [])) ∧ (((Prod.fst y ≤ List.length xs) ∧ (((0 : Int) ≤ Prod.snd y) ∧ ((Prod.snd y ≤ left) ∧ (szS q15 xs left = szA q15 (List.drop y.1 xs) y.2)))) ∧ (List.length xs - Prod.fst y < List.length xs - Prod.fst x)))))))))) ∧ ((decide ((↑x.1 : Int) < (qFH xs)) = false) → (VLe (vi x.2) (vi (szS q15 xs left))))))))))) := by
  delta qFH; delta qSM; delta qGT; delta vi
  obtain ⟨h0, hm, hl, hb⟩ := hpre
  unfold q4I at hm
  unfold maxLen at hl
  refine ⟨q0U (by omega), fun h => q0J (qMk (of_decide_eq_true h)).symm, fun h => ?_⟩
  have h' := of_decide_eq_false h
  refine ⟨⟨(0, left - xs.length), SLe.refl _, Nat.zero_le _, by simp only; omega, by simp only; omega, qL4 h'⟩, ?_⟩
  rintro ⟨i, v⟩ ⟨h1, h2, h3, h4⟩
  simp only at h1 h2 h3 h4 ⊢
  refine ⟨fun h => ?_, fun h => ?_⟩
  ·have hlt : i < xs.length := by simpa using h
   have hin : xs.getD i default ∈ xs := by simp [hlt]
   have e := qIm q15 hlt v
   have hle := q6j (xs.getD i default) v
   simp only [q11, Int.toNat_natCast]
   refine ⟨⟨by omega, by omega⟩, ⟨VLe.refl _, by omega, by unfold q4I; omega, hb _ hin⟩, fun h5 => ?_, fun h5 => ?_⟩
   ·have h6 := of_decide_eq_true h5
    exact q0J (by rw [h4, e, if_pos h6])
   ·have h6 := of_decide_eq_false h5
    exact ⟨q0U (by omega), (i + 1, q15 (xs.getD i default) v), SLe.refl _, ⟨by simp only; omega, by simp only; omega, by simp only; omega, by rw [h4, e, if_neg h6]⟩, by simp only; omega⟩
  ·have hge : i = xs.length := by simp at h; omega
   refine q0J ?_
   rw [h4, hge, List.drop_length]
   rfl
 exact Eq.mp (by kernel_rfl) key
theorem x8G : q0T Tryz.prog 83 x2o := by
 refine q09 q1C (pol := 0) Tryz.func83 rfl (by kernel_rfl) fun args bin ob r bout hDe hob => ?_
 unfold x2o at hDe
 split at hDe
 ·rename_i a0 a1
  cases hDe
  exact okB (x8y ((q0M q04) a0) a1 (hob.2)) x9H (args_of_vles ⟨hob.1, VLe.refl _, trivial⟩)
 ·cases hDe
def qOW (x : q03) : Prop := True
noncomputable def qUO (x : q03) : V := q00 2 (x)
noncomputable def qS3 : q0G := fun args bin => match args, bin with
 | [a0], [] => some (VLe a0 (q00 1 ((q04 a0))) ∧ qOW (q04 a0), qUO (q04 a0), [])
 | _, _ => none
noncomputable def x6o : Nat → Option (Fl × q0G) := lk []
theorem x23 : q0D Tryz.prog x6o := q07
noncomputable def x1g (x : q03) : Cx := ⟨tt, x6o, Tryz.f153.ntmps, [0, 1, 2, 3], [], [], fun _ => none, [], noM, []⟩
theorem x2S (x : q03) (hpre : qOW x) : q0f (x1g x) Tryz.f153 1 [q00 1 (x)] (fun rr => VLe rr (qUO x)) := by
 have key : (VLe (q00 1 x) (q00 1 x)) := by
  exact q4u ⟨VLe.refl _, VLe.refl _, VLe.refl _, VLe.refl _, VLe.refl _, trivial⟩
 exact Eq.mp (by kernel_rfl) key
theorem x26 : q0T Tryz.prog 153 qS3 := by
 refine q09 q1C (pol := 1) Tryz.func153 rfl (by kernel_rfl) fun args bin ob r bout hDe hob => ?_
 unfold qS3 at hDe
 split at hDe
 ·rename_i a0
  cases hDe
  exact okB (x2S (q04 a0) (hob.2)) x23 (args_of_vles ⟨hob.1, trivial⟩)
 ·cases hDe
def qPR (x : q03) (y : q03) : Prop := True
noncomputable def qU5 (x : q03) (y : q03) : V := .bool (decide (x = y))
noncomputable def qQZ : q0G := fun args bin => match args, bin with
 | [a0, a1], [] => some (VLe a0 (q00 1 ((q04 a0))) ∧ VLe a1 (q00 1 ((q04 a1))) ∧ qPR (q04 a0) (q04 a1), qU5 (q04 a0) (q04 a1), [])
 | _, _ => none
noncomputable def x7o : Nat → Option (Fl × q0G) := lk []
theorem x10 : q0D Tryz.prog x7o := q07
noncomputable def x0B (x : q03) (y : q03) : Cx := ⟨tt, x7o, Tryz.f164.ntmps, [0, 1, 2, 3, 4, 9, 14, 19, 24, 29], [], [], fun _ => none, [], noM, []⟩
def qCA (x : q03) (y : q03) : Prop := (VLe (V.bool false) (V.bool (decide (x = y))))
theorem x2m (x : q03) (y : q03) (hpre : qPR x y) : q0f (x0B x y) Tryz.f164 0 [q00 1 (x), q00 1 (y)] (fun rr => VLe rr (qU5 x y)) := by
 have key : ((((!q1R (q03.path x) (q03.path y)) = true) → (qCA x y)) ∧ (((!q1R (q03.path x) (q03.path y)) = false) → ((((q03.data x != q03.data y) = true) → (qCA x y)) ∧ (((q03.data x != q03.data y) = false) → ((((q03.version x != q03.version y) = true) → (qCA x y)) ∧ (((q03.version x != q03.version y) = false) → ((((q03.owner x != q03.owner y) = true) → (qCA x y)) ∧ (((q03.owner x != q03.owner y) = false) → ((((q03.next x != q03.next y) = true) → (qCA x y)) ∧ (((q03.next x != q03.next y) = false) → (VLe (V.bool true) (V.bool (decide (x = y)))))))))))))) := by
  delta qCA
  simp [qHX, q16]
  grind
 exact Eq.mp (by kernel_rfl) key
theorem qZt : q0T Tryz.prog 164 qQZ := by
 refine q09 q1C (pol := 0) Tryz.func164 rfl (by kernel_rfl) fun args bin ob r bout hDe hob => ?_
 unfold qQZ at hDe
 split at hDe
 ·rename_i a0 a1
  cases hDe
  exact okB (x2m (q04 a0) (q04 a1) (hob.2.2)) x10 (args_of_vles ⟨hob.1, hob.2.1, trivial⟩)
 ·cases hDe
def qY7 (xs : List q03) (ys : List q03) : Prop := xs.length ≤ maxLen ∧ ∀ x ∈ xs, ∀ y, qPR x y
noncomputable def x68 (xs : List q03) (ys : List q03) : V := .bool (decide (xs = ys))
noncomputable def x2Y : q0G := fun args bin => match args, bin with
 | [a0, a1], [] => some (VLe a0 (q0H (q00 1) 1 (((q0M q04) a0))) ∧ VLe a1 (q0H (q00 1) 1 (((q0M q04) a1))) ∧ qY7 ((q0M q04) a0) ((q0M q04) a1), x68 ((q0M q04) a0) ((q0M q04) a1), [])
 | _, _ => none
noncomputable def qV8 (xs : List q03) (ys : List q03) : q0O :=
 ⟨Nat, fun i => ⟨[(0, q0H (q00 1) 1 xs), (1, q0H (q00 1) 1 ys), (5, .int .i64 i)], []⟩,
  fun i => i ≤ xs.length ∧ xs.length = ys.length ∧ ∀ j, j < i → xs.getD j default = ys.getD j default, fun i => xs.length - i⟩
noncomputable def x8j (xs : List q03) (ys : List q03) : Nat → Option q0O := fun rg_ => match rg_ with
 | 4 => some (qV8 xs ys)
 | _ => none
noncomputable def D96 : Nat → Option (Fl × q0G) := lk [(164, (.ro, qQZ))]
theorem x8m : q0D Tryz.prog D96 := q01 qZt (q07)
noncomputable def x93 (xs : List q03) (ys : List q03) : Cx := ⟨tt, D96, Tryz.f96.ntmps, [0, 1, 4, 5, 10, 14, 26], [(4, ⟨[(0, none), (1, none), (5, none)], []⟩)], [], x8j xs ys, [], noM, []⟩
noncomputable def qIw (xs : List q03) (x : Nat) : V := (q00 1 (List.getD xs (Int.toNat (↑x : Int)) default))
noncomputable def qJZ (ys : List q03) (x : Nat) : V := (q00 1 (List.getD ys (Int.toNat (↑x : Int)) default))
def qSt (xs : List q03) (ys : List q03) (x : Nat) : Prop := ((x ≤ List.length xs) ∧ ((List.length xs = List.length ys) ∧ (∀ j : Nat, ((j < x) → (List.getD xs j default = List.getD ys j default)))))
theorem x8J (xs : List q03) (ys : List q03) (hpre : qY7 xs ys) : q0f (x93 xs ys) Tryz.f96 0 [q0H (q00 1) 1 (xs), q0H (q00 1) 1 (ys)] (fun rr => VLe rr (x68 xs ys)) := by
 have key : (((((↑(List.length xs) : Int) != (↑(List.length ys) : Int)) = true) → (VLe (V.bool false) (V.bool (decide (xs = ys))))) ∧ ((((↑(List.length xs) : Int) != (↑(List.length ys) : Int)) = false) → ((∃ x : Nat, ((SLe (AS.mk [(0, q0H (q00 1) 1 xs), (1, q0H (q00 1) 1 ys), (5, vi 0)] []) (AS.mk [(0, q0H (q00 1) 1 xs), (1, q0H (q00 1) 1 ys), (5, vi (↑x : Int))] [])) ∧ (qSt xs ys x))) ∧ (∀ x : Nat, ((qSt xs ys x) → (((decide ((↑x : Int) < (↑(List.length xs) : Int)) = true) → ((((0 : Int) ≤ (↑x : Int)) ∧ ((↑x : Int) < (↑(List.length xs) : Int))) ∧ ((((0 : Int) ≤ (↑x : Int)) ∧ ((↑x : Int) < (↑(List.length ys) : Int))) ∧ (((VLe (qIw xs x) (q00 1 (q04 (qIw xs x)))) ∧ ((VLe (qJZ ys x) (q00 1 (q04 (qJZ ys x)))) ∧ (qPR (q04 (qIw xs x)) (q04 (qJZ ys x))))) ∧ ((((!decide (q04 (qIw xs x) = q04 (qJZ ys x))) = true) → (VLe (V.bool false) (V.bool (decide (xs = ys))))) ∧ (((!decide (q04 (qIw xs x) = q04 (qJZ ys x))) = false) → ((inK IntKind.i64 ((↑x : Int) + (1 : Int))) ∧ (∃ y : Nat, ((SLe (AS.mk [(0, q0H (q00 1) 1 xs), (1, q0H (q00 1) 1 ys), (5, vi ((↑x : Int) + (1 : Int)))] []) (AS.mk [(0, q0H (q00 1) 1 xs), (1, q0H (q00 1) 1 ys), (5, vi (↑y : Int))] [])) ∧ (((y ≤ List.length xs) ∧ ((List.length xs = List.length ys) ∧ (∀ j : Nat, ((j < y) → (List.getD xs j default = List.getD ys j default))))) ∧ (List.length xs - y < List.length xs - x))))))))))) ∧ ((decide ((↑x : Int) < (↑(List.length xs) : Int)) = false) → (VLe (V.bool true) (V.bool (decide (xs = ys))))))))))) := by
  delta qSt; delta qJZ; delta qIw; delta vi
  unfold qY7 maxLen at hpre
  obtain ⟨hpre, hel⟩ := hpre
  refine ⟨fun h => ?_, fun h => ?_⟩
  ·refine q0e ?_
   have hne : xs ≠ ys := fun e => by subst e; simp at h
   simp [hne]
  ·have hlen : xs.length = ys.length := by simp at h; omega
   refine ⟨⟨0, SLe.refl _, by omega, hlen, fun j hj => absurd hj (Nat.not_lt_zero j)⟩, ?_⟩
   rintro i ⟨hi, _, hj⟩
   refine ⟨fun h => ?_, fun h => ?_⟩
   ·have hlt : i < xs.length := by simpa using h
    have hin : xs.getD i default ∈ xs := by simp [hlt]
    simp only [q11, Int.toNat_natCast]
    refine ⟨⟨by omega, by omega⟩, ⟨by omega, by omega⟩, ⟨VLe.refl _, VLe.refl _, hel _ hin _⟩, fun h2 => ?_, fun h2 => ⟨q0U (by omega), i + 1, SLe.refl _, ⟨by omega, hlen, fun j h3 => ?_⟩, by omega⟩⟩
    ·refine q0e ?_
     have hne : xs ≠ ys := fun e => by subst e; simp at h2
     simp [hne]
    ·rcases Nat.lt_or_ge j i with h4 | h4
     ·exact hj j h4
     ·have : j = i := by omega
      subst this
      simpa using h2
   ·refine q0e ?_
    have hge : i = xs.length := by simp at h; omega
    have heq : xs = ys := by
     refine List.ext_getElem hlen fun k h1 h2 => ?_
     have := hj k (by omega)
     simpa [h1, h2] using this
    simp [heq]
 exact Eq.mp (by kernel_rfl) key
theorem x8p : q0T Tryz.prog 96 x2Y := by
 refine q09 q1C (pol := 0) Tryz.func96 rfl (by kernel_rfl) fun args bin ob r bout hDe hob => ?_
 unfold x2Y at hDe
 split at hDe
 ·rename_i a0 a1
  cases hDe
  exact okB (x8J ((q0M q04) a0) ((q0M q04) a1) (hob.2.2)) x8m (args_of_vles ⟨hob.1, hob.2.1, trivial⟩)
 ·cases hDe
theorem q6V {x y : Int} (h : (x != y) = true) : x ≠ y := by simpa using h
theorem q3Y {x y : Int} (h : (x != y) = false) : ¬ x ≠ y := by simpa using h
theorem qMK {α : Type} {f : α → Int → Int} (hf : ∀ x v, f x v ≤ v ∨ f x v < 0) : ∀ (xs : List α) (v : Int), szA f xs v ≤ v ∨ szA f xs v < 0
 | [], v => Or.inl (Int.le_refl _)
 | x :: r, v => by
  unfold szA
  split
  ·exact Or.inr (by decide)
  ·have := qMK hf r (f x v)
   have := hf x v
   omega
theorem qDC {α : Type} {f : α → Int → Int} (hf : ∀ x v, f x v ≤ v ∨ f x v < 0) (xs : List α) (v : Int) : szS f xs v ≤ v ∨ szS f xs v < 0 := by
 unfold szS
 split
 ·exact Or.inr (by decide)
 ·have := qMK hf xs (v - xs.length)
  omega
theorem qOB {α : Type} [Inhabited α] {enc : α → V} {l : List α} {i t : Nat} (h : i ≤ l.length) : VLe (.sl i (gL enc l) t) (q0H enc t (l.take i)) :=
 q3A (by rw [List.length_take]; omega) (fun k hk => by
  have hk2 : k < l.length := by rw [List.length_take] at hk; omega
  simp [gL, hk2]) (Or.inl rfl)
theorem qIg {α : Type} [Inhabited α] {l : List α} {i : Nat} {x : α} : x ∈ l.take i ↔ ∃ j, j < i ∧ j < l.length ∧ l.getD j default = x := by
 constructor
 ·intro h
  obtain ⟨j, hj, rfl⟩ := List.getElem_of_mem h
  have h2 : j < i ∧ j < l.length := by rw [List.length_take] at hj; omega
  exact ⟨j, h2.1, h2.2, by simp [h2.2]⟩
 ·rintro ⟨j, h1, h2, rfl⟩
  have h3 : j < (l.take i).length := by rw [List.length_take]; omega
  have := List.getElem_mem h3
  simpa [h2] using this
def qEb (n : Int) : Prop := True
noncomputable def qUg (n : Int) : V := .bool (decide (inR n 1 9))
noncomputable def qNU : q0G := fun args bin => match args, bin with
 | [.int .i64 a0], [] => some (qEb a0, qUg a0, [])
 | _, _ => none
noncomputable def x7a : Nat → Option (Fl × q0G) := lk [(151, (.ro, q9G))]
theorem x5G : q0D Tryz.prog x7a := q01 qAT (q07)
noncomputable def x0t (n : Int) : Cx := ⟨tt, x7a, Tryz.f110.ntmps, [0, 2], [], [], fun _ => none, [], noM, []⟩
theorem x0S (n : Int) (hpre : qEb n) : q0f (x0t n) Tryz.f110 0 [.int .i64 (n)] (fun rr => VLe rr (qUg n)) := by
 have key : ((q4f n (1 : Int) (9 : Int)) ∧ (VLe (V.bool (decide (inR n 1 9))) (V.bool (decide (inR n 1 9))))) := by
  exact ⟨trivial, VLe.refl _⟩
 exact Eq.mp (by kernel_rfl) key
theorem qRi : q0T Tryz.prog 110 qNU := by
 refine q09 q1C (pol := 0) Tryz.func110 rfl (by kernel_rfl) fun args bin ob r bout hDe hob => ?_
 unfold qNU at hDe
 split at hDe
 ·rename_i a0
  cases hDe
  exact okB (x0S a0 (hob)) x5G (args_of_vles ⟨VLe.refl _, trivial⟩)
 ·cases hDe
def qDl (n : Int) : Prop := True
noncomputable def qW8 (n : Int) : V := .bool (decide (inR n 1 9))
noncomputable def qJV : q0G := fun args bin => match args, bin with
 | [.int .i64 a0], [] => some (qDl a0, qW8 a0, [])
 | _, _ => none
noncomputable def x7G : Nat → Option (Fl × q0G) := lk [(120, (.ro, q8i))]
theorem qZx : q0D Tryz.prog x7G := q01 qAW (q07)
noncomputable def x5c (n : Int) : Cx := ⟨tt, x7G, Tryz.f107.ntmps, [0, 2], [], [], fun _ => none, [], noM, []⟩
theorem x24 (n : Int) (hpre : qDl n) : q0f (x5c n) Tryz.f107 0 [.int .i64 (n)] (fun rr => VLe rr (qW8 n)) := by
 have key : ((q4w n (1 : Int) (9 : Int)) ∧ (VLe (V.bool (decide (inR n 1 9))) (V.bool (decide (inR n 1 9))))) := by
  exact ⟨trivial, VLe.refl _⟩
 exact Eq.mp (by kernel_rfl) key
theorem qOM : q0T Tryz.prog 107 qJV := by
 refine q09 q1C (pol := 0) Tryz.func107 rfl (by kernel_rfl) fun args bin ob r bout hDe hob => ?_
 unfold qJV at hDe
 split at hDe
 ·rename_i a0
  cases hDe
  exact okB (x24 a0 (hob)) qZx (args_of_vles ⟨VLe.refl _, trivial⟩)
 ·cases hDe
theorem qFA : ELe (.agg [.int .i64 0, .int .i64 0]) (q02 1 default) := ELe.refl _
theorem qJm : ELe (.agg [.int .i64 0, .int .i64 0, .int .i64 0, .int .i64 0, .str ⟨#[]⟩]) (q0A 1 default) := ELe.refl _
def q2Y (x : q0L) (left : Int) : Int := q2J x.reply.path.size left
theorem qGG (x : q0L) (left : Int) : q2Y x left ≤ left ∨ q2Y x left < 0 := q7s _ _
theorem qOt {n : Nat} {v : Int} (h : q2J n v < 0) : q2J n v = -1 := by
 unfold q2J at h ⊢
 split
 ·rfl
 ·rename_i c
  rw [if_neg c] at h
  exact absurd h c
theorem qGP (c : Int) : q0Y (.ptr [.int .i64 c] 0 1) = c := rfl
def x1U (xs : List q06) (left : Int) : Prop := 0 ≤ left ∧ left ≤ q4I ∧ xs.length ≤ maxLen
noncomputable def x6j (xs : List q06) (left : Int) : V := .int .i64 (q2J xs.length left)
noncomputable def x4c : q0G := fun args bin => match args, bin with
 | [a0, .int .i64 a1], [] => some (VLe a0 (q0H (q02 1) 1 (((q0M q08) a0))) ∧ x1U ((q0M q08) a0) a1, x6j ((q0M q08) a0) a1, [])
 | _, _ => none
noncomputable def D84 : Nat → Option (Fl × q0G) := lk []
theorem x92 : q0D Tryz.prog D84 := q07
noncomputable def x9S (xs : List q06) (left : Int) : Cx := ⟨tt, D84, Tryz.f84.ntmps, [0, 1, 4, 10], [], [], fun _ => none, [], noM, []⟩
theorem x8S (xs : List q06) (left : Int) (hpre : x1U xs left) : q0f (x9S xs left) Tryz.f84 0 [q0H (q02 1) 1 (xs), .int .i64 (left)] (fun rr => VLe rr (x6j xs left)) := by
 have key : ((inK IntKind.i64 (left - (↑(List.length xs) : Int))) ∧ (((decide (left - (↑(List.length xs) : Int) < (0 : Int)) = true) → (VLe (vi (-1)) (vi (q2J (List.length xs) left)))) ∧ ((decide (left - (↑(List.length xs) : Int) < (0 : Int)) = false) → (VLe (vi (left - (↑(List.length xs) : Int))) (vi (q2J (List.length xs) left)))))) := by
  delta vi
  obtain ⟨h0, hm, hb⟩ := hpre
  unfold q4I at hm
  unfold maxLen at hb
  refine ⟨q0U (by omega), fun h => ?_, fun h => ?_⟩
  ·exact q0J (by unfold q2J; rw [if_pos (of_decide_eq_true h)])
  ·exact q0J (by unfold q2J; rw [if_neg (of_decide_eq_false h)])
 exact Eq.mp (by kernel_rfl) key
theorem x8N : q0T Tryz.prog 84 x4c := by
 refine q09 q1C (pol := 0) Tryz.func84 rfl (by kernel_rfl) fun args bin ob r bout hDe hob => ?_
 unfold x4c at hDe
 split at hDe
 ·rename_i a0 a1
  cases hDe
  exact okB (x8S ((q0M q08) a0) a1 (hob.2)) x92 (args_of_vles ⟨hob.1, VLe.refl _, trivial⟩)
 ·cases hDe
def qRC (x : q0W) (left : Int) : Prop := 0 ≤ left ∧ left ≤ q4I ∧ x.bd
noncomputable def qWk (x : q0W) (left : Int) : V := .int .i64 (q2J x.path.size left)
noncomputable def qRu : q0G := fun args bin => match args, bin with
 | [a0, .int .i64 a1], [] => some (VLe a0 (q0S 1 ((q0h a0))) ∧ qRC (q0h a0) a1, qWk (q0h a0) a1, [])
 | _, _ => none
noncomputable def x80 : Nat → Option (Fl × q0G) := lk []
theorem x1C : q0D Tryz.prog x80 := q07
noncomputable def x2i (x : q0W) (left : Int) : Cx := ⟨tt, x80, Tryz.f219.ntmps, [0, 1, 2, 4, 11], [], [], fun _ => none, [], noM, []⟩
noncomputable def qAd (x : q0W) : Nat := (ByteArray.size (q0W.path x))
theorem x3b (x : q0W) (left : Int) (hpre : qRC x left) : q0f (x2i x left) Tryz.f219 0 [q0S 1 (x), .int .i64 (left)] (fun rr => VLe rr (qWk x left)) := by
 have key : ((inK IntKind.i64 (left - (↑(qAd x) : Int))) ∧ (((decide (left - (↑(qAd x) : Int) < (0 : Int)) = true) → (VLe (vi (-1)) (vi (q2J (qAd x) left)))) ∧ ((decide (left - (↑(qAd x) : Int) < (0 : Int)) = false) → (VLe (vi (left - (↑(qAd x) : Int))) (vi (q2J (qAd x) left)))))) := by
  delta qAd; delta vi
  obtain ⟨h0, hm, hb⟩ := hpre
  unfold q4I at hm
  unfold q0W.bd maxLen at hb
  refine ⟨q0U (by omega), fun h => ?_, fun h => ?_⟩
  ·exact q0J (by unfold q2J; rw [if_pos (of_decide_eq_true h)])
  ·exact q0J (by unfold q2J; rw [if_neg (of_decide_eq_false h)])
 exact Eq.mp (by kernel_rfl) key
theorem qYM : q0T Tryz.prog 219 qRu := by
 refine q09 q1C (pol := 0) Tryz.func219 rfl (by kernel_rfl) fun args bin ob r bout hDe hob => ?_
 unfold qRu at hDe
 split at hDe
 ·rename_i a0 a1
  cases hDe
  exact okB (x3b (q0h a0) a1 (hob.2)) x1C (args_of_vles ⟨hob.1, VLe.refl _, trivial⟩)
 ·cases hDe
def qQa (x : q0L) (left : Int) : Prop := 0 ≤ left ∧ left ≤ q4I ∧ x.bd
noncomputable def qVO (x : q0L) (left : Int) : V := .int .i64 (q2Y x left)
noncomputable def qQd : q0G := fun args bin => match args, bin with
 | [a0, .int .i64 a1], [] => some (VLe a0 (q0A 1 ((q0K a0))) ∧ qQa (q0K a0) a1, qVO (q0K a0) a1, [])
 | _, _ => none
noncomputable def x6g : Nat → Option (Fl × q0G) := lk [(219, (.ro, qRu))]
theorem x0c : q0D Tryz.prog x6g := q01 qYM (q07)
noncomputable def x35 (x : q0L) (left : Int) : Cx := ⟨tt, x6g, Tryz.f148.ntmps, [0, 1, 2, 4, 10], [], [], fun _ => none, [], noM, []⟩
noncomputable def qIJ (x : q0L) : Nat := (ByteArray.size (q0W.path (q0h (q0S 1 (q0L.reply x)))))
theorem x50 (x : q0L) (left : Int) (hpre : qQa x left) : q0f (x35 x left) Tryz.f148 0 [q0A 1 (x), .int .i64 (left)] (fun rr => VLe rr (qVO x left)) := by
 have key : (((VLe (q0S 1 (q0L.reply x)) (q0S 1 (q0h (q0S 1 (q0L.reply x))))) ∧ (qRC (q0h (q0S 1 (q0L.reply x))) left)) ∧ (((decide (q2J (qIJ x) left < (0 : Int)) = true) → (VLe (vi (-1)) (vi (q2Y x left)))) ∧ ((decide (q2J (qIJ x) left < (0 : Int)) = false) → (VLe (vi (q2J (qIJ x) left)) (vi (q2Y x left)))))) := by
  delta qIJ; delta vi
  obtain ⟨h0, hm, hb⟩ := hpre
  simp only [q2u]
  exact ⟨⟨VLe.refl _, h0, hm, hb⟩, fun h => q0J (qOt (of_decide_eq_true h)).symm, fun h => VLe.refl _⟩
 exact Eq.mp (by kernel_rfl) key
theorem qYa : q0T Tryz.prog 148 qQd := by
 refine q09 q1C (pol := 0) Tryz.func148 rfl (by kernel_rfl) fun args bin ob r bout hDe hob => ?_
 unfold qQd at hDe
 split at hDe
 ·rename_i a0 a1
  cases hDe
  exact okB (x50 (q0K a0) a1 (hob.2)) x0c (args_of_vles ⟨hob.1, VLe.refl _, trivial⟩)
 ·cases hDe
def x3x (xs : List q0L) (left : Int) : Prop := 0 ≤ left ∧ left ≤ q4I ∧ xs.length ≤ maxLen ∧ ∀ x ∈ xs, x.bd
noncomputable def x6w (xs : List q0L) (left : Int) : V := .int .i64 (szS q2Y xs left)
noncomputable def x2c : q0G := fun args bin => match args, bin with
 | [a0, .int .i64 a1], [] => some (VLe a0 (q0H (q0A 1) 1 (((q0M q0K) a0))) ∧ x3x ((q0M q0K) a0) a1, x6w ((q0M q0K) a0) a1, [])
 | _, _ => none
noncomputable def qUm (xs : List q0L) (left : Int) : q0O :=
 ⟨Nat × Int, fun p => ⟨[(0, q0H (q0A 1) 1 xs), (1, .int .i64 p.2), (5, .int .i64 p.1)], []⟩,
  fun p => p.1 ≤ xs.length ∧ 0 ≤ p.2 ∧ p.2 ≤ left ∧ szS q2Y xs left = szA q2Y (xs.drop p.1) p.2, fun p => xs.length - p.1⟩
noncomputable def x94 (xs : List q0L) (left : Int) : Nat → Option q0O := fun rg_ => match rg_ with
 | 5 => some (qUm xs left)
 | _ => none
noncomputable def D85 : Nat → Option (Fl × q0G) := lk [(148, (.ro, qQd))]
theorem x9D : q0D Tryz.prog D85 := q01 qYa (q07)
noncomputable def x99 (xs : List q0L) (left : Int) : Cx := ⟨tt, D85, Tryz.f85.ntmps, [0, 1, 4, 5, 11, 15, 25], [(5, ⟨[(0, none), (1, none), (5, none)], []⟩)], [], x94 xs left, [], noM, []⟩
noncomputable def qHJ (xs : List q0L) (x : Nat × Int) : V := (q0A 1 (List.getD xs (Int.toNat (↑x.1 : Int)) default))
def qSb (xs : List q0L) (left : Int) (x : Nat × Int) : Prop := ((Prod.fst x ≤ List.length xs) ∧ (((0 : Int) ≤ Prod.snd x) ∧ ((Prod.snd x ≤ left) ∧ (szS q2Y xs left = szA q2Y (List.drop x.1 xs) x.2))))
noncomputable def qEq (xs : List q0L) : Int := (↑(List.length xs) : Int)
theorem x9J (xs : List q0L) (left : Int) (hpre : x3x xs left) : q0f (x99 xs left) Tryz.f85 0 [q0H (q0A 1) 1 (xs), .int .i64 (left)] (fun rr => VLe rr (x6w xs left)) := by
 have key : ((inK IntKind.i64 (left - (qEq xs))) ∧ (((decide (left - (qEq xs) < (0 : Int)) = true) → (VLe (vi (-1)) (vi (szS q2Y xs left)))) ∧ ((decide (left - (qEq xs) < (0 : Int)) = false) → ((∃ x : Nat × Int, ((SLe (AS.mk [(0, q0H (q0A 1) 1 xs), (1, vi (left - (qEq xs))), (5, vi 0)] []) (AS.mk [(0, q0H (q0A 1) 1 xs), (1, vi x.2), (5, vi (↑x.1 : Int))] [])) ∧ (qSb xs left x))) ∧ (∀ x : Nat × Int, ((qSb xs left x) → (((decide ((↑x.1 : Int) < (qEq xs)) = true) → ((((0 : Int) ≤ (↑x.1 : Int)) ∧ ((↑x.1 : Int) < (qEq xs))) ∧ (((VLe (qHJ xs x) (q0A 1 (q0K (qHJ xs x)))) ∧ (qQa (q0K (qHJ xs x)) x.2)) ∧ (((decide (q2Y (q0K (qHJ xs x)) x.2 < (0 : Int)) = true) → (VLe (vi (-1)) (vi (szS q2Y xs left)))) ∧ ((decide (q2Y (q0K (qHJ xs x)) x.2 < (0 : Int)) = false) → ((inK IntKind.i64 ((↑x.1 : Int) + (1 : Int))) ∧ (∃ y : Nat × Int, ((SLe (AS.mk [(0, q0H (q0A 1) 1 xs), (1, vi (q2Y (q0K (qHJ xs x)) x.2)), (5, vi ((↑x.1 : Int) + (1 : Int)))] []) (AS.mk [(0, q0H (q0A 1) 1 xs), (1, vi y.2), (5, vi (↑y.1 : Int))] [])) ∧ (((Prod.fst y ≤ List.length xs) ∧ (((0 : Int) ≤ Prod.snd y) ∧ ((Prod.snd y ≤ left) ∧ (szS q2Y xs left = szA q2Y (List.drop y.1 xs) y.2)))) ∧ (List.length xs - Prod.fst y < List.length xs - Prod.fst x)))))))))) ∧ ((decide ((↑x.1 : Int) < (qEq xs)) = false) → (VLe (vi x.2) (vi (szS q2Y xs left))))))))))) := by
  delta qEq; delta qSb; delta qHJ; delta vi
  obtain ⟨h0, hm, hl, hb⟩ := hpre
  unfold q4I at hm
  unfold maxLen at hl
  refine ⟨q0U (by omega), fun h => q0J (qMk (of_decide_eq_true h)).symm, fun h => ?_⟩
  have h' := of_decide_eq_false h
  refine ⟨⟨(0, left - xs.length), SLe.refl _, Nat.zero_le _, by simp only; omega, by simp only; omega, qL4 h'⟩, ?_⟩
  rintro ⟨i, v⟩ ⟨h1, h2, h3, h4⟩
  simp only at h1 h2 h3 h4 ⊢
  refine ⟨fun h => ?_, fun h => ?_⟩
  ·have hlt : i < xs.length := by simpa using h
   have hin : xs.getD i default ∈ xs := by simp [hlt]
   have e := qIm q2Y hlt v
   have hle := qGG (xs.getD i default) v
   simp only [q1y, Int.toNat_natCast]
   refine ⟨⟨by omega, by omega⟩, ⟨VLe.refl _, by omega, by unfold q4I; omega, hb _ hin⟩, fun h5 => ?_, fun h5 => ?_⟩
   ·have h6 := of_decide_eq_true h5
    exact q0J (by rw [h4, e, if_pos h6])
   ·have h6 := of_decide_eq_false h5
    exact ⟨q0U (by omega), (i + 1, q2Y (xs.getD i default) v), SLe.refl _, ⟨by simp only; omega, by simp only; omega, by simp only; omega, by rw [h4, e, if_neg h6]⟩, by simp only; omega⟩
  ·have hge : i = xs.length := by simp at h; omega
   refine q0J ?_
   rw [h4, hge, List.drop_length]
   rfl
 exact Eq.mp (by kernel_rfl) key
theorem x9E : q0T Tryz.prog 85 x2c := by
 refine q09 q1C (pol := 0) Tryz.func85 rfl (by kernel_rfl) fun args bin ob r bout hDe hob => ?_
 unfold x2c at hDe
 split at hDe
 ·rename_i a0 a1
  cases hDe
  exact okB (x9J ((q0M q0K) a0) a1 (hob.2)) x9D (args_of_vles ⟨hob.1, VLe.refl _, trivial⟩)
 ·cases hDe
noncomputable def q2Q (s : q05) (left : Int) : Int :=
 if szS q15 s.nodes left < 0 then -1 else if q2J s.sessions.length (szS q15 s.nodes left) < 0 then -1
 else if szS q2Y s.marks (q2J s.sessions.length (szS q15 s.nodes left)) < 0 then -1 else szS q2Y s.marks (q2J s.sessions.length (szS q15 s.nodes left))
theorem qJG {s : q05} {left : Int} (h0 : 0 ≤ left) (h : ¬ q2Q s left < 0) : (s.nodes.length : Int) ≤ left ∧ (s.sessions.length : Int) ≤ left ∧ (s.marks.length : Int) ≤ left := by
 unfold q2Q at h
 split at h
 ·exact absurd (show (-1 : Int) < 0 by decide) h
 rename_i g1
 split at h
 ·exact absurd (show (-1 : Int) < 0 by decide) h
 rename_i g2
 split at h
 ·exact absurd (show (-1 : Int) < 0 by decide) h
 rename_i g3
 have a1 := qPt g1
 have a2 := qPZ g2
 have a3 := qPt g3
 have t1 := qDC q6j s.nodes left
 have t2 := q7s s.sessions.length (szS q15 s.nodes left)
 omega
def x5q (s : q05) (left : Int) : Prop := 0 ≤ left ∧ left ≤ q4I ∧ s.bd
noncomputable def x6W (s : q05) (left : Int) : V := .int .i64 (q2Q s left)
noncomputable def x2p : q0G := fun args bin => match args, bin with
 | [a0, .int .i64 a1], [] => some (VLe a0 (q0C 1 ((q0B a0))) ∧ x5q (q0B a0) a1, x6W (q0B a0) a1, [])
 | _, _ => none
noncomputable def D31 : Nat → Option (Fl × q0G) := lk [(83, (.ro, x2o)), (84, (.ro, x4c)), (85, (.ro, x2c))]
theorem x8T : q0D Tryz.prog D31 := q01 x8G (q01 x8N (q01 x9E (q07)))
noncomputable def x90 (s : q05) (left : Int) : Cx := ⟨tt, D31, Tryz.f31.ntmps, [0, 1, 2, 4, 10, 16, 22], [], [], fun _ => none, [], noM, []⟩
noncomputable def q9a (s : q05) : List q03 := (q0M q04 (q0H (q00 1) 1 (q05.nodes s)))
noncomputable def qDS (s : q05) : List q06 := (q0M q08 (q0H (q02 1) 1 (q05.sessions s)))
noncomputable def qJJ (s : q05) : List q0L := (q0M q0K (q0H (q0A 1) 1 (q05.marks s)))
theorem x9N (s : q05) (left : Int) (hpre : x5q s left) : q0f (x90 s left) Tryz.f31 0 [q0C 1 (s), .int .i64 (left)] (fun rr => VLe rr (x6W s left)) := by
 have key : (((VLe (q0H (q00 1) 1 (q05.nodes s)) (q0H (q00 1) 1 (q9a s))) ∧ (x5f (q9a s) left)) ∧ (((decide (szS q15 (q9a s) left < (0 : Int)) = true) → (VLe (vi (-1)) (vi (q2Q s left)))) ∧ ((decide (szS q15 (q9a s) left < (0 : Int)) = false) → (((VLe (q0H (q02 1) 1 (q05.sessions s)) (q0H (q02 1) 1 (qDS s))) ∧ (x1U (qDS s) (szS q15 (q9a s) left))) ∧ (((decide (q2J (List.length (qDS s)) (szS q15 (q9a s) left) < (0 : Int)) = true) → (VLe (vi (-1)) (vi (q2Q s left)))) ∧ ((decide (q2J (List.length (qDS s)) (szS q15 (q9a s) left) < (0 : Int)) = false) → (((VLe (q0H (q0A 1) 1 (q05.marks s)) (q0H (q0A 1) 1 (qJJ s))) ∧ (x3x (qJJ s) (q2J (List.length (qDS s)) (szS q15 (q9a s) left)))) ∧ (((decide (szS q2Y (qJJ s) (q2J (List.length (qDS s)) (szS q15 (q9a s) left)) < (0 : Int)) = true) → (VLe (vi (-1)) (vi (q2Q s left)))) ∧ ((decide (szS q2Y (qJJ s) (q2J (List.length (qDS s)) (szS q15 (q9a s) left)) < (0 : Int)) = false) → (VLe (vi (szS q2Y (qJJ s) (q2J (List.length (qDS s)) (szS q15 (q9a s) left)))) (vi (q2Q s left)))))))))))) := by
  delta qJJ; delta qDS; delta q9a; delta vi
  obtain ⟨h0, hm, ⟨hn, hnb⟩, hs, hk, hkb⟩ := hpre
  simp only [q0s, q19, q4d]
  have t1 := qDC q6j s.nodes left
  have t2 := q7s s.sessions.length (szS q15 s.nodes left)
  unfold q4I at hm
  refine ⟨⟨VLe.refl _, h0, by unfold q4I; omega, hn, hnb⟩, fun h => ?_, fun h => ?_⟩
  ·exact q0J (by unfold q2Q; rw [if_pos (of_decide_eq_true h)])
  have g1 := of_decide_eq_false h
  refine ⟨⟨VLe.refl _, by omega, by unfold q4I; omega, hs⟩, fun h => ?_, fun h => ?_⟩
  ·exact q0J (by unfold q2Q; rw [if_neg g1, if_pos (of_decide_eq_true h)])
  have g2 := of_decide_eq_false h
  refine ⟨⟨VLe.refl _, by omega, by unfold q4I; omega, hk, hkb⟩, fun h => ?_, fun h => ?_⟩
  ·exact q0J (by unfold q2Q; rw [if_neg g1, if_neg g2, if_pos (of_decide_eq_true h)])
  ·exact q0J (by unfold q2Q; rw [if_neg g1, if_neg g2, if_neg (of_decide_eq_false h)])
 exact Eq.mp (by kernel_rfl) key
theorem x8u : q0T Tryz.prog 31 x2p := by
 refine q09 q1C (pol := 0) Tryz.func31 rfl (by kernel_rfl) fun args bin ob r bout hDe hob => ?_
 unfold x2p at hDe
 split at hDe
 ·rename_i a0 a1
  cases hDe
  exact okB (x9N (q0B a0) a1 (hob.2)) x8T (args_of_vles ⟨hob.1, VLe.refl _, trivial⟩)
 ·cases hDe
def qP9 (x : q06) : Prop := True
noncomputable def qWB (x : q06) : V := q02 2 (x)
noncomputable def qSj : q0G := fun args bin => match args, bin with
 | [a0], [] => some (VLe a0 (q02 1 ((q08 a0))) ∧ qP9 (q08 a0), qWB (q08 a0), [])
 | _, _ => none
noncomputable def x74 : Nat → Option (Fl × q0G) := lk []
theorem x4C : q0D Tryz.prog x74 := q07
noncomputable def x2h (x : q06) : Cx := ⟨tt, x74, Tryz.f154.ntmps, [0, 1, 2, 3], [], [], fun _ => none, [], noM, []⟩
theorem x1o (x : q06) (hpre : qP9 x) : q0f (x2h x) Tryz.f154 1 [q02 1 (x)] (fun rr => VLe rr (qWB x)) := by
 have key : (VLe (q02 1 x) (q02 1 x)) := by
  exact q4u ⟨VLe.refl _, VLe.refl _, trivial⟩
 exact Eq.mp (by kernel_rfl) key
theorem qZ0 : q0T Tryz.prog 154 qSj := by
 refine q09 q1C (pol := 1) Tryz.func154 rfl (by kernel_rfl) fun args bin ob r bout hDe hob => ?_
 unfold qSj at hDe
 split at hDe
 ·rename_i a0
  cases hDe
  exact okB (x1o (q08 a0) (hob.2)) x4C (args_of_vles ⟨hob.1, trivial⟩)
 ·cases hDe
def qQh (x : q0W) : Prop := True
noncomputable def qVe (x : q0W) : V := q0S 2 (x)
noncomputable def qSc : q0G := fun args bin => match args, bin with
 | [a0], [] => some (VLe a0 (q0S 1 ((q0h a0))) ∧ qQh (q0h a0), qVe (q0h a0), [])
 | _, _ => none
noncomputable def x88 : Nat → Option (Fl × q0G) := lk []
theorem x3C : q0D Tryz.prog x88 := q07
noncomputable def x4t (x : q0W) : Cx := ⟨tt, x88, Tryz.f222.ntmps, [0, 1, 2, 3], [], [], fun _ => none, [], noM, []⟩
theorem x2I (x : q0W) (hpre : qQh x) : q0f (x4t x) Tryz.f222 1 [q0S 1 (x)] (fun rr => VLe rr (qVe x)) := by
 have key : (VLe (q0S 1 x) (q0S 1 x)) := by
  exact q4u ⟨VLe.refl _, VLe.refl _, VLe.refl _, trivial⟩
 exact Eq.mp (by kernel_rfl) key
theorem x1K : q0T Tryz.prog 222 qSc := by
 refine q09 q1C (pol := 1) Tryz.func222 rfl (by kernel_rfl) fun args bin ob r bout hDe hob => ?_
 unfold qSc at hDe
 split at hDe
 ·rename_i a0
  cases hDe
  exact okB (x2I (q0h a0) (hob.2)) x3C (args_of_vles ⟨hob.1, trivial⟩)
 ·cases hDe
def qNz (x : q0L) : Prop := True
noncomputable def qUv (x : q0L) : V := q0A 2 (x)
noncomputable def qQt : q0G := fun args bin => match args, bin with
 | [a0], [] => some (VLe a0 (q0A 1 ((q0K a0))) ∧ qNz (q0K a0), qUv (q0K a0), [])
 | _, _ => none
noncomputable def x6r : Nat → Option (Fl × q0G) := lk [(222, (.ro, qSc))]
theorem qZi : q0D Tryz.prog x6r := q01 x1K (q07)
noncomputable def x1B (x : q0L) : Cx := ⟨tt, x6r, Tryz.f155.ntmps, [0, 1, 2, 3], [], [], fun _ => none, [], noM, []⟩
theorem x58 (x : q0L) (hpre : qNz x) : q0f (x1B x) Tryz.f155 1 [q0A 1 (x)] (fun rr => VLe rr (qUv x)) := by
 have key : (((VLe (q0S 1 (q0L.reply x)) (q0S 1 (q0h (q0S 1 (q0L.reply x))))) ∧ (qQh (q0h (q0S 1 (q0L.reply x))))) ∧ (VLe (q0A 1 x) (q0A 1 x))) := by
  simp only [q2u]
  exact ⟨⟨VLe.refl _, trivial⟩, VLe.refl _⟩
 exact Eq.mp (by kernel_rfl) key
theorem x5n : q0T Tryz.prog 155 qQt := by
 refine q09 q1C (pol := 1) Tryz.func155 rfl (by kernel_rfl) fun args bin ob r bout hDe hob => ?_
 unfold qQt at hDe
 split at hDe
 ·rename_i a0
  cases hDe
  exact okB (x58 (q0K a0) (hob.2)) qZi (args_of_vles ⟨hob.1, trivial⟩)
 ·cases hDe
def qOe (x : q06) (y : q06) : Prop := True
noncomputable def qXQ (x : q06) (y : q06) : V := .bool (decide (x = y))
noncomputable def qRT : q0G := fun args bin => match args, bin with
 | [a0, a1], [] => some (VLe a0 (q02 1 ((q08 a0))) ∧ VLe a1 (q02 1 ((q08 a1))) ∧ qOe (q08 a0) (q08 a1), qXQ (q08 a0) (q08 a1), [])
 | _, _ => none
noncomputable def x72 : Nat → Option (Fl × q0G) := lk []
theorem x4z : q0D Tryz.prog x72 := q07
noncomputable def x4r (x : q06) (y : q06) : Cx := ⟨tt, x72, Tryz.f165.ntmps, [0, 1, 2, 3, 4, 9, 14], [], [], fun _ => none, [], noM, []⟩
theorem x1a (x : q06) (y : q06) (hpre : qOe x y) : q0f (x4r x y) Tryz.f165 0 [q02 1 (x), q02 1 (y)] (fun rr => VLe rr (qXQ x y)) := by
 have key : ((((q06.id x != q06.id y) = true) → (VLe (V.bool false) (V.bool (decide (x = y))))) ∧ (((q06.id x != q06.id y) = false) → ((((q06.upto x != q06.upto y) = true) → (VLe (V.bool false) (V.bool (decide (x = y))))) ∧ (((q06.upto x != q06.upto y) = false) → (VLe (V.bool true) (V.bool (decide (x = y)))))))) := by
  simp [qBr]
  grind
 exact Eq.mp (by kernel_rfl) key
theorem x4k : q0T Tryz.prog 165 qRT := by
 refine q09 q1C (pol := 0) Tryz.func165 rfl (by kernel_rfl) fun args bin ob r bout hDe hob => ?_
 unfold qRT at hDe
 split at hDe
 ·rename_i a0 a1
  cases hDe
  exact okB (x1a (q08 a0) (q08 a1) (hob.2.2)) x4z (args_of_vles ⟨hob.1, hob.2.1, trivial⟩)
 ·cases hDe
def qY4 (xs : List q06) (ys : List q06) : Prop := xs.length ≤ maxLen ∧ ∀ x ∈ xs, ∀ y, qOe x y
noncomputable def x7V (xs : List q06) (ys : List q06) : V := .bool (decide (xs = ys))
noncomputable def x5R : q0G := fun args bin => match args, bin with
 | [a0, a1], [] => some (VLe a0 (q0H (q02 1) 1 (((q0M q08) a0))) ∧ VLe a1 (q0H (q02 1) 1 (((q0M q08) a1))) ∧ qY4 ((q0M q08) a0) ((q0M q08) a1), x7V ((q0M q08) a0) ((q0M q08) a1), [])
 | _, _ => none
noncomputable def qV7 (xs : List q06) (ys : List q06) : q0O :=
 ⟨Nat, fun i => ⟨[(0, q0H (q02 1) 1 xs), (1, q0H (q02 1) 1 ys), (5, .int .i64 i)], []⟩,
  fun i => i ≤ xs.length ∧ xs.length = ys.length ∧ ∀ j, j < i → xs.getD j default = ys.getD j default, fun i => xs.length - i⟩
noncomputable def x8Z (xs : List q06) (ys : List q06) : Nat → Option q0O := fun rg_ => match rg_ with
 | 4 => some (qV7 xs ys)
 | _ => none
noncomputable def D97 : Nat → Option (Fl × q0G) := lk [(165, (.ro, qRT))]
theorem x9L : q0D Tryz.prog D97 := q01 x4k (q07)
noncomputable def x9I (xs : List q06) (ys : List q06) : Cx := ⟨tt, D97, Tryz.f97.ntmps, [0, 1, 4, 5, 10, 14, 26], [(4, ⟨[(0, none), (1, none), (5, none)], []⟩)], [], x8Z xs ys, [], noM, []⟩
noncomputable def qJD (xs : List q06) (x : Nat) : V := (q02 1 (List.getD xs (Int.toNat (↑x : Int)) default))
noncomputable def qIv (ys : List q06) (x : Nat) : V := (q02 1 (List.getD ys (Int.toNat (↑x : Int)) default))
def qRb (xs : List q06) (ys : List q06) (x : Nat) : Prop := ((x ≤ List.length xs) ∧ ((List.length xs = List.length ys) ∧ (∀ j : Nat, ((j < x) → (List.getD xs j default = List.getD ys j default)))))
theorem x96 (xs : List q06) (ys : List q06) (hpre : qY4 xs ys) : q0f (x9I xs ys) Tryz.f97 0 [q0H (q02 1) 1 (xs), q0H (q02 1) 1 (ys)] (fun rr => VLe rr (x7V xs ys)) := by
 have key : (((((↑(List.length xs) : Int) != (↑(List.length ys) : Int)) = true) → (VLe (V.bool false) (V.bool (decide (xs = ys))))) ∧ ((((↑(List.length xs) : Int) != (↑(List.length ys) : Int)) = false) → ((∃ x : Nat, ((SLe (AS.mk [(0, q0H (q02 1) 1 xs), (1, q0H (q02 1) 1 ys), (5, vi 0)] []) (AS.mk [(0, q0H (q02 1) 1 xs), (1, q0H (q02 1) 1 ys), (5, vi (↑x : Int))] [])) ∧ (qRb xs ys x))) ∧ (∀ x : Nat, ((qRb xs ys x) → (((decide ((↑x : Int) < (↑(List.length xs) : Int)) = true) → ((((0 : Int) ≤ (↑x : Int)) ∧ ((↑x : Int) < (↑(List.length xs) : Int))) ∧ ((((0 : Int) ≤ (↑x : Int)) ∧ ((↑x : Int) < (↑(List.length ys) : Int))) ∧ (((VLe (qJD xs x) (q02 1 (q08 (qJD xs x)))) ∧ ((VLe (qIv ys x) (q02 1 (q08 (qIv ys x)))) ∧ (qOe (q08 (qJD xs x)) (q08 (qIv ys x))))) ∧ ((((!decide (q08 (qJD xs x) = q08 (qIv ys x))) = true) → (VLe (V.bool false) (V.bool (decide (xs = ys))))) ∧ (((!decide (q08 (qJD xs x) = q08 (qIv ys x))) = false) → ((inK IntKind.i64 ((↑x : Int) + (1 : Int))) ∧ (∃ y : Nat, ((SLe (AS.mk [(0, q0H (q02 1) 1 xs), (1, q0H (q02 1) 1 ys), (5, vi ((↑x : Int) + (1 : Int)))] []) (AS.mk [(0, q0H (q02 1) 1 xs), (1, q0H (q02 1) 1 ys), (5, vi (↑y : Int))] [])) ∧ (((y ≤ List.length xs) ∧ ((List.length xs = List.length ys) ∧ (∀ j : Nat, ((j < y) → (List.getD xs j default = List.getD ys j default))))) ∧ (List.length xs - y < List.length xs - x))))))))))) ∧ ((decide ((↑x : Int) < (↑(List.length xs) : Int)) = false) → (VLe (V.bool true) (V.bool (decide (xs = ys))))))))))) := by
  delta qRb; delta qIv; delta qJD; delta vi
  unfold qY4 maxLen at hpre
  obtain ⟨hpre, hel⟩ := hpre
  refine ⟨fun h => ?_, fun h => ?_⟩
  ·refine q0e ?_
   have hne : xs ≠ ys := fun e => by subst e; simp at h
   simp [hne]
  ·have hlen : xs.length = ys.length := by simp at h; omega
   refine ⟨⟨0, SLe.refl _, by omega, hlen, fun j hj => absurd hj (Nat.not_lt_zero j)⟩, ?_⟩
   rintro i ⟨hi, _, hj⟩
   refine ⟨fun h => ?_, fun h => ?_⟩
   ·have hlt : i < xs.length := by simpa using h
    have hin : xs.getD i default ∈ xs := by simp [hlt]
    simp only [q1h, Int.toNat_natCast]
    refine ⟨⟨by omega, by omega⟩, ⟨by omega, by omega⟩, ⟨VLe.refl _, VLe.refl _, hel _ hin _⟩, fun h2 => ?_, fun h2 => ⟨q0U (by omega), i + 1, SLe.refl _, ⟨by omega, hlen, fun j h3 => ?_⟩, by omega⟩⟩
    ·refine q0e ?_
     have hne : xs ≠ ys := fun e => by subst e; simp at h2
     simp [hne]
    ·rcases Nat.lt_or_ge j i with h4 | h4
     ·exact hj j h4
     ·have : j = i := by omega
      subst this
      simpa using h2
   ·refine q0e ?_
    have hge : i = xs.length := by simp at h; omega
    have heq : xs = ys := by
     refine List.ext_getElem hlen fun k h1 h2 => ?_
     have := hj k (by omega)
     simpa [h1, h2] using this
    simp [heq]
 exact Eq.mp (by kernel_rfl) key
theorem x8H : q0T Tryz.prog 97 x5R := by
 refine q09 q1C (pol := 0) Tryz.func97 rfl (by kernel_rfl) fun args bin ob r bout hDe hob => ?_
 unfold x5R at hDe
 split at hDe
 ·rename_i a0 a1
  cases hDe
  exact okB (x96 ((q0M q08) a0) ((q0M q08) a1) (hob.2.2)) x9L (args_of_vles ⟨hob.1, hob.2.1, trivial⟩)
 ·cases hDe
def qXm (x : q0W) (y : q0W) : Prop := True
noncomputable def x7Q (x : q0W) (y : q0W) : V := .bool (decide (x = y))
noncomputable def qXs : q0G := fun args bin => match args, bin with
 | [a0, a1], [] => some (VLe a0 (q0S 1 ((q0h a0))) ∧ VLe a1 (q0S 1 ((q0h a1))) ∧ qXm (q0h a0) (q0h a1), x7Q (q0h a0) (q0h a1), [])
 | _, _ => none
noncomputable def D65 : Nat → Option (Fl × q0G) := lk []
theorem x9C : q0D Tryz.prog D65 := q07
noncomputable def x8U (x : q0W) (y : q0W) : Cx := ⟨tt, D65, Tryz.f65.ntmps, [0, 1, 2, 3, 4, 9, 14, 19], [], [], fun _ => none, [], noM, []⟩
theorem x8K (x : q0W) (y : q0W) (hpre : qXm x y) : q0f (x8U x y) Tryz.f65 0 [q0S 1 (x), q0S 1 (y)] (fun rr => VLe rr (x7Q x y)) := by
 have key : ((((q0W.code x != q0W.code y) = true) → (VLe (V.bool false) (V.bool (decide (x = y))))) ∧ (((q0W.code x != q0W.code y) = false) → ((((q0W.value x != q0W.value y) = true) → (VLe (V.bool false) (V.bool (decide (x = y))))) ∧ (((q0W.value x != q0W.value y) = false) → ((((!q1R (q0W.path x) (q0W.path y)) = true) → (VLe (V.bool false) (V.bool (decide (x = y))))) ∧ (((!q1R (q0W.path x) (q0W.path y)) = false) → (VLe (V.bool true) (V.bool (decide (x = y)))))))))) := by
  simp [qI6, q16]
  grind
 exact Eq.mp (by kernel_rfl) key
theorem x77 : q0T Tryz.prog 65 qXs := by
 refine q09 q1C (pol := 0) Tryz.func65 rfl (by kernel_rfl) fun args bin ob r bout hDe hob => ?_
 unfold qXs at hDe
 split at hDe
 ·rename_i a0 a1
  cases hDe
  exact okB (x8K (q0h a0) (q0h a1) (hob.2.2)) x9C (args_of_vles ⟨hob.1, hob.2.1, trivial⟩)
 ·cases hDe
def qP3 (x : q0L) (y : q0L) : Prop := True
noncomputable def qVi (x : q0L) (y : q0L) : V := .bool (decide (x = y))
noncomputable def qRK : q0G := fun args bin => match args, bin with
 | [a0, a1], [] => some (VLe a0 (q0A 1 ((q0K a0))) ∧ VLe a1 (q0A 1 ((q0K a1))) ∧ qP3 (q0K a0) (q0K a1), qVi (q0K a0) (q0K a1), [])
 | _, _ => none
noncomputable def x7H : Nat → Option (Fl × q0G) := lk [(65, (.ro, qXs))]
theorem x5d : q0D Tryz.prog x7H := q01 x77 (q07)
noncomputable def qZU (x : q0L) (y : q0L) : Cx := ⟨tt, x7H, Tryz.f166.ntmps, [0, 1, 2, 3, 4, 9, 14, 20], [], [], fun _ => none, [], noM, []⟩
theorem x5D (x : q0L) (y : q0L) (hpre : qP3 x y) : q0f (qZU x y) Tryz.f166 0 [q0A 1 (x), q0A 1 (y)] (fun rr => VLe rr (qVi x y)) := by
 have key : ((((q0L.client x != q0L.client y) = true) → (VLe (V.bool false) (V.bool (decide (x = y))))) ∧ (((q0L.client x != q0L.client y) = false) → ((((q0L.number x != q0L.number y) = true) → (VLe (V.bool false) (V.bool (decide (x = y))))) ∧ (((q0L.number x != q0L.number y) = false) → (((VLe (q0S 1 (q0L.reply x)) (q0S 1 (q0h (q0S 1 (q0L.reply x))))) ∧ ((VLe (q0S 1 (q0L.reply y)) (q0S 1 (q0h (q0S 1 (q0L.reply y))))) ∧ (qXm (q0h (q0S 1 (q0L.reply x))) (q0h (q0S 1 (q0L.reply y)))))) ∧ ((((!decide (q0h (q0S 1 (q0L.reply x)) = q0h (q0S 1 (q0L.reply y)))) = true) → (VLe (V.bool false) (V.bool (decide (x = y))))) ∧ (((!decide (q0h (q0S 1 (q0L.reply x)) = q0h (q0S 1 (q0L.reply y)))) = false) → (VLe (V.bool true) (V.bool (decide (x = y))))))))))) := by
  simp only [q2u]
  refine ⟨fun h => q0e ?_, fun h => ⟨fun h2 => q0e ?_, fun h2 => ⟨⟨VLe.refl _, VLe.refl _, trivial⟩, fun h3 => q0e ?_, fun h3 => q0e ?_⟩⟩⟩
  all_goals simp_all [qIj]
 exact Eq.mp (by kernel_rfl) key
theorem x1I : q0T Tryz.prog 166 qRK := by
 refine q09 q1C (pol := 0) Tryz.func166 rfl (by kernel_rfl) fun args bin ob r bout hDe hob => ?_
 unfold qRK at hDe
 split at hDe
 ·rename_i a0 a1
  cases hDe
  exact okB (x5D (q0K a0) (q0K a1) (hob.2.2)) x5d (args_of_vles ⟨hob.1, hob.2.1, trivial⟩)
 ·cases hDe
def qY3 (xs : List q0L) (ys : List q0L) : Prop := xs.length ≤ maxLen ∧ ∀ x ∈ xs, ∀ y, qP3 x y
noncomputable def x8C (xs : List q0L) (ys : List q0L) : V := .bool (decide (xs = ys))
noncomputable def x17 : q0G := fun args bin => match args, bin with
 | [a0, a1], [] => some (VLe a0 (q0H (q0A 1) 1 (((q0M q0K) a0))) ∧ VLe a1 (q0H (q0A 1) 1 (((q0M q0K) a1))) ∧ qY3 ((q0M q0K) a0) ((q0M q0K) a1), x8C ((q0M q0K) a0) ((q0M q0K) a1), [])
 | _, _ => none
noncomputable def qVJ (xs : List q0L) (ys : List q0L) : q0O :=
 ⟨Nat, fun i => ⟨[(0, q0H (q0A 1) 1 xs), (1, q0H (q0A 1) 1 ys), (5, .int .i64 i)], []⟩,
  fun i => i ≤ xs.length ∧ xs.length = ys.length ∧ ∀ j, j < i → xs.getD j default = ys.getD j default, fun i => xs.length - i⟩
noncomputable def x9O (xs : List q0L) (ys : List q0L) : Nat → Option q0O := fun rg_ => match rg_ with
 | 4 => some (qVJ xs ys)
 | _ => none
noncomputable def D98 : Nat → Option (Fl × q0G) := lk [(166, (.ro, qRK))]
theorem x8I : q0D Tryz.prog D98 := q01 x1I (q07)
noncomputable def x8k (xs : List q0L) (ys : List q0L) : Cx := ⟨tt, D98, Tryz.f98.ntmps, [0, 1, 4, 5, 10, 14, 26], [(4, ⟨[(0, none), (1, none), (5, none)], []⟩)], [], x9O xs ys, [], noM, []⟩
noncomputable def qJq (xs : List q0L) (x : Nat) : V := (q0A 1 (List.getD xs (Int.toNat (↑x : Int)) default))
noncomputable def qJj (ys : List q0L) (x : Nat) : V := (q0A 1 (List.getD ys (Int.toNat (↑x : Int)) default))
def qTa (xs : List q0L) (ys : List q0L) (x : Nat) : Prop := ((x ≤ List.length xs) ∧ ((List.length xs = List.length ys) ∧ (∀ j : Nat, ((j < x) → (List.getD xs j default = List.getD ys j default)))))
theorem x8i (xs : List q0L) (ys : List q0L) (hpre : qY3 xs ys) : q0f (x8k xs ys) Tryz.f98 0 [q0H (q0A 1) 1 (xs), q0H (q0A 1) 1 (ys)] (fun rr => VLe rr (x8C xs ys)) := by
 have key : (((((↑(List.length xs) : Int) != (↑(List.length ys) : Int)) = true) → (VLe (V.bool false) (V.bool (decide (xs = ys))))) ∧ ((((↑(List.length xs) : Int) != (↑(List.length ys) : Int)) = false) → ((∃ x : Nat, ((SLe (AS.mk [(0, q0H (q0A 1) 1 xs), (1, q0H (q0A 1) 1 ys), (5, vi 0)] []) (AS.mk [(0, q0H (q0A 1) 1 xs), (1, q0H (q0A 1) 1 ys), (5, vi (↑x : Int))] [])) ∧ (qTa xs ys x))) ∧ (∀ x : Nat, ((qTa xs ys x) → (((decide ((↑x : Int) < (↑(List.length xs) : Int)) = true) → ((((0 : Int) ≤ (↑x : Int)) ∧ ((↑x : Int) < (↑(List.length xs) : Int))) ∧ ((((0 : Int) ≤ (↑x : Int)) ∧ ((↑x : Int) < (↑(List.length ys) : Int))) ∧ (((VLe (qJq xs x) (q0A 1 (q0K (qJq xs x)))) ∧ ((VLe (qJj ys x) (q0A 1 (q0K (qJj ys x)))) ∧ (qP3 (q0K (qJq xs x)) (q0K (qJj ys x))))) ∧ ((((!decide (q0K (qJq xs x) = q0K (qJj ys x))) = true) → (VLe (V.bool false) (V.bool (decide (xs = ys))))) ∧ (((!decide (q0K (qJq xs x) = q0K (qJj ys x))) = false) → ((inK IntKind.i64 ((↑x : Int) + (1 : Int))) ∧ (∃ y : Nat, ((SLe (AS.mk [(0, q0H (q0A 1) 1 xs), (1, q0H (q0A 1) 1 ys), (5, vi ((↑x : Int) + (1 : Int)))] []) (AS.mk [(0, q0H (q0A 1) 1 xs), (1, q0H (q0A 1) 1 ys), (5, vi (↑y : Int))] [])) ∧ (((y ≤ List.length xs) ∧ ((List.length xs = List.length ys) ∧ (∀ j : Nat, ((j < y) → (List.getD xs j default = List.getD ys j default))))) ∧ (List.length xs - y < List.length xs - x))))))))))) ∧ ((decide ((↑x : Int) < (↑(List.length xs) : Int)) = false) → (VLe (V.bool true) (V.bool (decide (xs = ys))))))))))) := by
  delta qTa; delta qJj; delta qJq; delta vi
  unfold qY3 maxLen at hpre
  obtain ⟨hpre, hel⟩ := hpre
  refine ⟨fun h => ?_, fun h => ?_⟩
  ·refine q0e ?_
   have hne : xs ≠ ys := fun e => by subst e; simp at h
   simp [hne]
  ·have hlen : xs.length = ys.length := by simp at h; omega
   refine ⟨⟨0, SLe.refl _, by omega, hlen, fun j hj => absurd hj (Nat.not_lt_zero j)⟩, ?_⟩
   rintro i ⟨hi, _, hj⟩
   refine ⟨fun h => ?_, fun h => ?_⟩
   ·have hlt : i < xs.length := by simpa using h
    have hin : xs.getD i default ∈ xs := by simp [hlt]
    simp only [q1y, Int.toNat_natCast]
    refine ⟨⟨by omega, by omega⟩, ⟨by omega, by omega⟩, ⟨VLe.refl _, VLe.refl _, hel _ hin _⟩, fun h2 => ?_, fun h2 => ⟨q0U (by omega), i + 1, SLe.refl _, ⟨by omega, hlen, fun j h3 => ?_⟩, by omega⟩⟩
    ·refine q0e ?_
     have hne : xs ≠ ys := fun e => by subst e; simp at h2
     simp [hne]
    ·rcases Nat.lt_or_ge j i with h4 | h4
     ·exact hj j h4
     ·have : j = i := by omega
      subst this
      simpa using h2
   ·refine q0e ?_
    have hge : i = xs.length := by simp at h; omega
    have heq : xs = ys := by
     refine List.ext_getElem hlen fun k h1 h2 => ?_
     have := hj k (by omega)
     simpa [h1, h2] using this
    simp [heq]
 exact Eq.mp (by kernel_rfl) key
theorem x8M : q0T Tryz.prog 98 x17 := by
 refine q09 q1C (pol := 0) Tryz.func98 rfl (by kernel_rfl) fun args bin ob r bout hDe hob => ?_
 unfold x17 at hDe
 split at hDe
 ·rename_i a0 a1
  cases hDe
  exact okB (x8i ((q0M q0K) a0) ((q0M q0K) a1) (hob.2.2)) x8I (args_of_vles ⟨hob.1, hob.2.1, trivial⟩)
 ·cases hDe
def qKd (n : Int) : Prop := True
noncomputable def qXe (n : Int) : V := .bool (decide (inR n 0 9000))
noncomputable def qOi : q0G := fun args bin => match args, bin with
 | [.int .i64 a0], [] => some (qKd a0, qXe a0, [])
 | _, _ => none
noncomputable def x8F : Nat → Option (Fl × q0G) := lk [(120, (.ro, q8i))]
theorem qZL : q0D Tryz.prog x8F := q01 qAW (q07)
noncomputable def x5U (n : Int) : Cx := ⟨tt, x8F, Tryz.f119.ntmps, [0, 2], [], [], fun _ => none, [], noM, []⟩
theorem x2G (n : Int) (hpre : qKd n) : q0f (x5U n) Tryz.f119 0 [.int .i64 (n)] (fun rr => VLe rr (qXe n)) := by
 have key : ((q4w n (0 : Int) (9000 : Int)) ∧ (VLe (V.bool (decide (inR n 0 9000))) (V.bool (decide (inR n 0 9000))))) := by
  exact ⟨trivial, VLe.refl _⟩
 exact Eq.mp (by kernel_rfl) key
theorem qWp : q0T Tryz.prog 119 qOi := by
 refine q09 q1C (pol := 0) Tryz.func119 rfl (by kernel_rfl) fun args bin ob r bout hDe hob => ?_
 unfold qOi at hDe
 split at hDe
 ·rename_i a0
  cases hDe
  exact okB (x2G a0 (hob)) qZL (args_of_vles ⟨VLe.refl _, trivial⟩)
 ·cases hDe
def qOU (n : Int) : Prop := True
noncomputable def qTo (n : Int) : V := .bool (decide (inR n 0 9000))
noncomputable def qR2 : q0G := fun args bin => match args, bin with
 | [.int .i64 a0], [] => some (qOU a0, qTo a0, [])
 | _, _ => none
noncomputable def x7f : Nat → Option (Fl × q0G) := lk [(151, (.ro, q9G))]
theorem qZp : q0D Tryz.prog x7f := q01 qAT (q07)
noncomputable def x4p (n : Int) : Cx := ⟨tt, x7f, Tryz.f137.ntmps, [0, 2], [], [], fun _ => none, [], noM, []⟩
theorem qZS (n : Int) (hpre : qOU n) : q0f (x4p n) Tryz.f137 0 [.int .i64 (n)] (fun rr => VLe rr (qTo n)) := by
 have key : ((q4f n (0 : Int) (9000 : Int)) ∧ (VLe (V.bool (decide (inR n 0 9000))) (V.bool (decide (inR n 0 9000))))) := by
  exact ⟨trivial, VLe.refl _⟩
 exact Eq.mp (by kernel_rfl) key
theorem qYI : q0T Tryz.prog 137 qR2 := by
 refine q09 q1C (pol := 0) Tryz.func137 rfl (by kernel_rfl) fun args bin ob r bout hDe hob => ?_
 unfold qR2 at hDe
 split at hDe
 ·rename_i a0
  cases hDe
  exact okB (qZS a0 (hob)) qZp (args_of_vles ⟨VLe.refl _, trivial⟩)
 ·cases hDe
abbrev atS (l : List q06) (i : Nat) : q06 := l.getD i default
noncomputable def q6w (l : List q06) (i : Nat) : Int := if ¬ (inR (atS l i).id 1 9 ∧ inR (atS l i).upto 0 9999) then 3 else if 0 < i ∧ (atS l i).id ≤ (atS l (i - 1)).id then 1 else 0
noncomputable def q1x (l : List q06) : Int := if 6 < l.length then 2 else q1w (q6w l) l.length
def q3X (r : q0W) : Prop := inR r.code 0 10 ∧ inR r.value (-1) 9999 ∧ r.path.size ≤ 24
noncomputable instance (r : q0W) : Decidable (q3X r) := Classical.propDecidable _
def qBd (c n : Int) (m : q0L) : Bool := decide (m.client = c ∧ m.number = n)
def qGp (l : List q0L) (c n : Int) : Int := q4h (qBd c n) l
abbrev q6u (l : List q0L) (i : Nat) : q0L := l.getD i default
noncomputable def q7N (l : List q0L) (i : Nat) : Int :=
 if ¬ (inR (q6u l i).client 1 9 ∧ inR (q6u l i).number 1 99 ∧ q3X (q6u l i).reply) then 3 else if 0 ≤ qGp (l.take i) (q6u l i).client (q6u l i).number then 6 else 0
noncomputable def q1M (s : q05) : Int :=
 if q0p s.nodes ≠ 0 then q0p s.nodes else if q1x s.sessions ≠ 0 then q1x s.sessions else if ¬ inR s.now 0 9000 then 3
 else if 40 < s.marks.length then 2 else q1w (q7N s.marks) s.marks.length
theorem qNL {l : List q0L} {i : Nat} (h : i < l.length) : qGp l (q6u l i).client (q6u l i).number = i ↔ ¬ 0 ≤ qGp (l.take i) (q6u l i).client (q6u l i).number := by
 have hn : 0 ≤ qGp (l.take i) (q6u l i).client (q6u l i).number ↔ ∃ x ∈ l.take i, qBd (q6u l i).client (q6u l i).number x = true := by
  have := q7L (qBd (q6u l i).client (q6u l i).number) (l.take i)
  rw [← List.any_eq_true, ← this, decide_eq_true_eq]
  exact Iff.rfl
 rw [hn]
 constructor
 ·rintro e ⟨x, hx, hm⟩
  obtain ⟨_, _, h3⟩ := q9q e
  obtain ⟨j, h1, h2, rfl⟩ := qIg.1 hx
  rw [h3 j h1] at hm
  cases hm
 ·intro hm
  refine q33 h (fun j hj => ?_) (decide_eq_true ⟨rfl, rfl⟩)
  cases hc : qBd (q6u l i).client (q6u l i).number (l.getD j default) with
  | false => rfl
  | true => exact absurd ⟨_, qIg.2 ⟨j, hj, by omega, rfl⟩, hc⟩ hm
theorem q8C {l : List q06} {i : Nat} (h1 : ¬ 6 < l.length) (hz : q1w (q6w l) i = 0) (hlt : i < l.length) {c : Int} (hc : c = q6w l i) (h0 : c ≠ 0) : VLe (.int .i64 c) (.int .i64 (q1x l)) :=
 q0J (by
  unfold q1x
  rw [if_neg h1, q4X hz (by rw [← hc]; exact h0) _ hlt, hc])
abbrev q8q := q0L
def q5u (t : Nat) (x : q0L) : V := .ptr (q0A t x).cells 2 t
def q2V : V → q0L
 | .ptr cs _ _ => q0K (.agg cs)
 | _ => default
@[simp] theorem qKw (t : Nat) (x : q0L) : q2V (q5u t x) = x := q1y t x
theorem qCf (m : q0L) : q2V (.ptr [.int .i64 m.client, .int .i64 m.number, .int .i64 m.reply.code, .int .i64 m.reply.value, .str m.reply.path] 2 1) = m := rfl
def qLf (l : List q06) : Prop := l.length ≤ maxLen
noncomputable def qV5 (l : List q06) : V := .int .i64 (q1x l)
noncomputable def qOZ : q0G := fun args bin => match args, bin with
 | [a0], [] => some (VLe a0 (q0H (q02 1) 1 (((q0M q08) a0))) ∧ qLf ((q0M q08) a0), qV5 ((q0M q08) a0), [])
 | _, _ => none
noncomputable def qRF (l : List q06) : q0O :=
 ⟨Nat, fun i => ⟨[(0, q0H (q02 1) 1 l), (8, q0H (q02 1) 1 l), (9, .int .i64 l.length), (10, .int .i64 i)], []⟩,
  fun i => i ≤ l.length ∧ q1w (q6w l) i = 0, fun i => l.length - i⟩
noncomputable def x3I (l : List q06) : Nat → Option q0O := fun rg_ => match rg_ with
 | 4 => some (qRF l)
 | _ => none
noncomputable def x7S : Nat → Option (Fl × q0G) := lk [(107, (.ro, qJV)), (120, (.ro, q8i))]
theorem x3o : q0D Tryz.prog x7S := q01 qOM (q01 qAW (q07))
noncomputable def x1J (l : List q06) : Cx := ⟨tt, x7S, Tryz.f118.ntmps, [0, 2, 3, 4, 7, 8, 9, 10, 11, 24, 37], [(4, ⟨[(0, none), (8, none), (9, none), (10, none)], []⟩)], [], x3I l, [], noM, []⟩
noncomputable def q8H (l : List q06) (x : Nat) : Int := (q06.id (List.getD l (Int.toNat (↑x : Int)) default))
noncomputable def q8Q (x : Nat) : Bool := (decide ((↑x : Int) > (0 : Int)))
noncomputable def q6G (l : List q06) : Int := (↑(List.length l) : Int)
def qET (x : Nat) : Prop := (decide ((↑x : Int) > (0 : Int)) = true)
theorem x2J (l : List q06) (hpre : qLf l) : q0f (x1J l) Tryz.f118 0 [q0H (q02 1) 1 (l)] (fun rr => VLe rr (qV5 l)) := by
 have key : (((decide ((q6G l) > (6 : Int)) = true) → (VLe (vi 2) (vi (q1x l)))) ∧ ((decide ((q6G l) > (6 : Int)) = false) → ((∃ x : Nat, ((SLe (AS.mk [(0, q0H (q02 1) 1 l), (8, q0H (q02 1) 1 l), (9, vi (q6G l)), (10, vi 0)] []) (AS.mk [(0, q0H (q02 1) 1 l), (8, q0H (q02 1) 1 l), (9, vi (q6G l)), (10, vi (↑x : Int))] [])) ∧ ((x ≤ List.length l) ∧ (q1w (q6w l) x = (0 : Int))))) ∧ (∀ x : Nat, (((x ≤ List.length l) ∧ (q1w (q6w l) x = (0 : Int))) → (((decide ((↑x : Int) < (q6G l)) = true) → ((((0 : Int) ≤ (↑x : Int)) ∧ ((↑x : Int) < (q6G l))) ∧ ((qDl (q8H l x)) ∧ ((tq (!!decide (inR (q8H l x) (1 : Int) (9 : Int)))) ∧ ((tq (!!decide (inR (q8H l x) (1 : Int) (9 : Int)))) ∧ ((((!!decide (inR (q8H l x) (1 : Int) (9 : Int))) = true) → (q4w (q06.upto (List.getD l (Int.toNat (↑x : Int)) default)) (0 : Int) (9999 : Int))) ∧ ((tq (!!decide (inR (q8H l x) (1 : Int) (9 : Int)))) ∧ (((true = true) → (((!decide (inR (q8H l x) (1 : Int) (9 : Int))) = false) → ((!!decide (inR (q8H l x) (1 : Int) (9 : Int))) = true))) ∧ (∀ b : Bool, ((b = bif !decide (inR (q8H l x) (1 : Int) (9 : Int)) then true else !decide (inR (q06.upto (List.getD l (Int.toNat (↑x : Int)) default)) (0 : Int) (9999 : Int))) → (((b = true) → (VLe (vi 3) (vi (q1x l)))) ∧ ((b = false) → ((tq (q8Q x)) ∧ ((tq (q8Q x)) ∧ (((qET x) → (inK IntKind.i64 ((↑x : Int) - (1 : Int)))) ∧ ((tq (q8Q x)) ∧ ((tq (q8Q x)) ∧ (((qET x) → (((0 : Int) ≤ (↑x : Int) - (1 : Int)) ∧ ((↑x : Int) - (1 : Int) < (q6G l)))) ∧ ((tq (q8Q x)) ∧ ((tq (q8Q x)) ∧ ((tq (q8Q x)) ∧ ((tq (q8Q x)) ∧ (((true = true) → ((qET x) → (qET x))) ∧ (∀ b_1 : Bool, ((b_1 = bif decide ((↑x : Int) > (0 : Int)) then decide (q06.id (List.getD l (Int.toNat (↑x : Int)) default) ≤ q06.id (List.getD l (Int.toNat ((↑x : Int) - (1 : Int))) default)) else false) → (((b_1 = true) → (VLe (vi 1) (vi (q1x l)))) ∧ ((b_1 = false) → ((inK IntKind.i64 ((↑x : Int) + (1 : Int))) ∧ (∃ y : Nat, ((SLe (AS.mk [(0, q0H (q02 1) 1 l), (8, q0H (q02 1) 1 l), (9, vi (q6G l)), (10, vi ((↑x : Int) + (1 : Int)))] []) (AS.mk [(0, q0H (q02 1) 1 l), (8, q0H (q02 1) 1 l), (9, vi (q6G l)), (10, vi (↑y : Int))] [])) ∧ (((y ≤ List.length l) ∧ (q1w (q6w l) y = (0 : Int))) ∧ (List.length l - y < List.length l - x)))))))))))))))))))))))))))))))) ∧ ((decide ((↑x : Int) < (q6G l)) = false) → (VLe (vi 0) (vi (q1x l)))))))))) := by
  delta qET; delta q6G; delta q8Q; delta q8H; delta vi
  have hl : l.length ≤ maxLen := hpre
  unfold maxLen at hl
  refine ⟨fun h => ?_, fun h => ?_⟩
  ·have h1 : 6 < l.length := by have := of_decide_eq_true h; omega
   exact q0J (by unfold q1x; rw [if_pos h1])
  have h1 : ¬ 6 < l.length := by have := of_decide_eq_false h; omega
  refine ⟨⟨0, SLe.refl _, by omega, rfl⟩, ?_⟩
  rintro i ⟨hi, hz⟩
  refine ⟨fun h2 => ?_, fun h2 => ?_⟩
  ·have hlt : i < l.length := by have := of_decide_eq_true h2; omega
   simp only [Int.toNat_natCast]
   refine ⟨⟨by omega, by omega⟩, trivial, ?_⟩
   repeat (first | (refine And.intro (fun h _ => h) ?_) | (refine And.intro (fun _ h => h) ?_) | (refine And.intro ?aa ?_; case aa => (exact (tqI _))) | (refine And.intro ?aa ?_; case aa => (exact (fun _ => trivial))) | (refine And.intro ?aa ?_; case aa => (exact (fun _ => ⟨by omega, by omega⟩))) | (refine And.intro ?aa ?_; case aa => (intros; simp_all [qDl, q4w]; done)) | (refine And.intro ?aa ?_; case aa => (intros; exact q0U (by omega))) | (refine And.intro ?aa ?_; case aa => (intros; simp only [decide_eq_true_eq] at *; omega)) | (intro q hq))
   have e0 : q = decide (¬ (inR (atS l i).id 1 9 ∧ inR (atS l i).upto 0 9999)) := by
    rw [hq, Bool.eq_iff_iff, decide_eq_true_eq]
    by_cases a1 : inR (atS l i).id 1 9 <;> by_cases a2 : inR (atS l i).upto 0 9999 <;> simp only [a1, a2, decide_true, decide_false, Bool.not_true, Bool.not_false, cond_true, cond_false, and_true, true_and, and_false, false_and, not_true_eq_false, not_false_eq_true, Bool.false_eq_true]
   clear hq
   rw [e0]
   refine ⟨fun h5 => q8C h1 hz hlt (by unfold q6w; rw [if_pos (of_decide_eq_true h5)]) (by decide), fun h5 => ?_⟩
   clear e0
   repeat (first | (refine And.intro (fun h _ => h) ?_) | (refine And.intro (fun _ h => h) ?_) | (refine And.intro ?aa ?_; case aa => (exact (tqI _))) | (refine And.intro ?aa ?_; case aa => (exact (fun h => q0U (by omega)))) | (refine And.intro ?aa ?_; case aa => (exact (fun h => ⟨by have := of_decide_eq_true h; omega, by omega⟩))) | (refine And.intro ?aa ?_; case aa => (intros; simp_all [qDl, q4w]; done)) | (refine And.intro ?aa ?_; case aa => (intros; exact q0U (by omega))) | (refine And.intro ?aa ?_; case aa => (intros; simp only [decide_eq_true_eq] at *; omega)) | (intro q hq))
   have e3 : q = decide (0 < i ∧ (atS l i).id ≤ (atS l (i - 1)).id) := by
    rw [hq, Bool.eq_iff_iff, decide_eq_true_eq]
    by_cases a1 : 0 < i
    ·have n1 : ((i : Int) - 1).toNat = i - 1 := by omega
     have a2 : decide ((i : Int) > 0) = true := decide_eq_true (by omega)
     rw [a2, n1]
     simp only [cond_true, decide_eq_true_eq, a1, true_and]
    ·have a2 : decide ((i : Int) > 0) = false := decide_eq_false (by omega)
     rw [a2]
     simp [a1]
   rw [e3]
   have e2 : q6w l i = if 0 < i ∧ (atS l i).id ≤ (atS l (i - 1)).id then 1 else 0 := if_neg (of_decide_eq_false h5)
   refine ⟨fun h6 => q8C h1 hz hlt (by rw [e2, if_pos (of_decide_eq_true h6)]) (by decide), fun h6 => ?_⟩
   exact ⟨q0U (by omega), i + 1, SLe.refl _, ⟨by omega, q4U hz (by rw [e2, if_neg (of_decide_eq_false h6)])⟩, by omega⟩
  ·have hge : i = l.length := by have := of_decide_eq_false h2; omega
   exact q0J (by unfold q1x; rw [if_neg h1, ← hge, hz])
 exact Eq.mp (by kernel_rfl) key
theorem qUF : q0T Tryz.prog 118 qOZ := by
 refine q09 q1C (pol := 0) Tryz.func118 rfl (by kernel_rfl) fun args bin ob r bout hDe hob => ?_
 unfold qOZ at hDe
 split at hDe
 ·rename_i a0
  cases hDe
  exact okB (x2J ((q0M q08) a0) (hob.2)) x3o (args_of_vles ⟨hob.1, trivial⟩)
 ·cases hDe
def qOf (l : List q06) : Prop := l.length ≤ maxLen
noncomputable def qVu (l : List q06) : V := .int .i64 (q1x l)
noncomputable def qS9 : q0G := fun args bin => match args, bin with
 | [a0], [] => some (VLe a0 (q0H (q02 1) 1 (((q0M q08) a0))) ∧ qOf ((q0M q08) a0), qVu ((q0M q08) a0), [])
 | _, _ => none
noncomputable def qQm (l : List q06) : q0O :=
 ⟨Nat, fun i => ⟨[(0, q0H (q02 1) 1 l), (3, .int .i64 i)], []⟩,
  fun i => i ≤ l.length ∧ q1w (q6w l) i = 0, fun i => l.length - i⟩
noncomputable def qYO (l : List q06) : Nat → Option q0O := fun rg_ => match rg_ with
 | 4 => some (qQm l)
 | _ => none
noncomputable def x6B : Nat → Option (Fl × q0G) := lk [(110, (.ro, qNU)), (151, (.ro, q9G))]
theorem x0E : q0D Tryz.prog x6B := q01 qRi (q01 qAT (q07))
noncomputable def x1W (l : List q06) : Cx := ⟨tt, x6B, Tryz.f150.ntmps, [0, 2, 3, 6, 10, 28, 44], [(4, ⟨[(0, none), (3, none)], []⟩)], [], qYO l, [], noM, []⟩
noncomputable def q5R (l : List q06) (x : Nat) : Int := (q06.id (List.getD l (Int.toNat (↑x : Int)) default))
noncomputable def q5y (x : Nat) : Bool := (decide ((↑x : Int) > (0 : Int)))
def qCR (x : Nat) : Prop := (decide ((↑x : Int) > (0 : Int)) = true)
def qI0 (l : List q06) (x : Nat) : Prop := (((0 : Int) ≤ (↑x : Int)) ∧ ((↑x : Int) < (↑(List.length l) : Int)))
theorem qYi (l : List q06) (hpre : qOf l) : q0f (x1W l) Tryz.f150 0 [q0H (q02 1) 1 (l)] (fun rr => VLe rr (qVu l)) := by
 have key : (((decide ((↑(List.length l) : Int) > (6 : Int)) = true) → (VLe (vi 2) (vi (q1x l)))) ∧ ((decide ((↑(List.length l) : Int) > (6 : Int)) = false) → ((∃ x : Nat, ((SLe (AS.mk [(0, q0H (q02 1) 1 l), (3, vi 0)] []) (AS.mk [(0, q0H (q02 1) 1 l), (3, vi (↑x : Int))] [])) ∧ ((x ≤ List.length l) ∧ (q1w (q6w l) x = (0 : Int))))) ∧ (∀ x : Nat, (((x ≤ List.length l) ∧ (q1w (q6w l) x = (0 : Int))) → (((decide ((↑x : Int) < (↑(List.length l) : Int)) = true) → ((qI0 l x) ∧ ((qEb (q5R l x)) ∧ ((tq (!!decide (inR (q5R l x) (1 : Int) (9 : Int)))) ∧ ((tq (!!decide (inR (q5R l x) (1 : Int) (9 : Int)))) ∧ ((((!!decide (inR (q5R l x) (1 : Int) (9 : Int))) = true) → (qI0 l x)) ∧ ((tq (!!decide (inR (q5R l x) (1 : Int) (9 : Int)))) ∧ ((tq (!!decide (inR (q5R l x) (1 : Int) (9 : Int)))) ∧ ((tq (!!decide (inR (q5R l x) (1 : Int) (9 : Int)))) ∧ ((((!!decide (inR (q5R l x) (1 : Int) (9 : Int))) = true) → (q4f (q06.upto (List.getD l (Int.toNat (↑x : Int)) default)) (0 : Int) (9999 : Int))) ∧ ((tq (!!decide (inR (q5R l x) (1 : Int) (9 : Int)))) ∧ (((true = true) → (((!decide (inR (q5R l x) (1 : Int) (9 : Int))) = false) → ((!!decide (inR (q5R l x) (1 : Int) (9 : Int))) = true))) ∧ (∀ b : Bool, ((b = bif !decide (inR (q5R l x) (1 : Int) (9 : Int)) then true else !decide (inR (q06.upto (List.getD l (Int.toNat (↑x : Int)) default)) (0 : Int) (9999 : Int))) → (((b = true) → (VLe (vi 3) (vi (q1x l)))) ∧ ((b = false) → ((tq (q5y x)) ∧ ((tq (q5y x)) ∧ (((qCR x) → (qI0 l x)) ∧ ((tq (q5y x)) ∧ ((tq (q5y x)) ∧ ((tq (q5y x)) ∧ (((qCR x) → (inK IntKind.i64 ((↑x : Int) - (1 : Int)))) ∧ ((tq (q5y x)) ∧ ((tq (q5y x)) ∧ (((qCR x) → (((0 : Int) ≤ (↑x : Int) - (1 : Int)) ∧ ((↑x : Int) - (1 : Int) < (↑(List.length l) : Int)))) ∧ ((tq (q5y x)) ∧ ((tq (q5y x)) ∧ ((tq (q5y x)) ∧ ((tq (q5y x)) ∧ (((true = true) → ((qCR x) → (qCR x))) ∧ (∀ b_1 : Bool, ((b_1 = bif decide ((↑x : Int) > (0 : Int)) then decide (q06.id (List.getD l (Int.toNat (↑x : Int)) default) ≤ q06.id (List.getD l (Int.toNat ((↑x : Int) - (1 : Int))) default)) else false) → (((b_1 = true) → (VLe (vi 1) (vi (q1x l)))) ∧ ((b_1 = false) → ((inK IntKind.i64 ((↑x : Int) + (1 : Int))) ∧ (∃ y : Nat, ((SLe (AS.mk [(0, q0H (q02 1) 1 l), (3, vi ((↑x : Int) + (1 : Int)))] []) (AS.mk [(0, q0H (q02 1) 1 l), (3, vi (↑y : Int))] [])) ∧ (((y ≤ List.length l) ∧ (q1w (q6w l) y = (0 : Int))) ∧ (List.length l - y < List.length l - x)))))))))))))))))))))))))))))))))))))))) ∧ ((decide ((↑x : Int) < (↑(List.length l) : Int)) = false) → (VLe (vi 0) (vi (q1x l)))))))))) := by
  delta qI0; delta qCR; delta q5y; delta q5R; delta vi
  have hl : l.length ≤ maxLen := hpre
  unfold maxLen at hl
  refine ⟨fun h => ?_, fun h => ?_⟩
  ·have h1 : 6 < l.length := by have := of_decide_eq_true h; omega
   exact q0J (by unfold q1x; rw [if_pos h1])
  have h1 : ¬ 6 < l.length := by have := of_decide_eq_false h; omega
  refine ⟨⟨0, SLe.refl _, by omega, rfl⟩, ?_⟩
  rintro i ⟨hi, hz⟩
  refine ⟨fun h2 => ?_, fun h2 => ?_⟩
  ·have hlt : i < l.length := by have := of_decide_eq_true h2; omega
   simp only [Int.toNat_natCast]
   refine ⟨⟨by omega, by omega⟩, trivial, ?_⟩
   repeat (first | (refine And.intro (fun h _ => h) ?_) | (refine And.intro (fun _ h => h) ?_) | (refine And.intro ?aa ?_; case aa => (exact (tqI _))) | (refine And.intro ?aa ?_; case aa => (exact (fun _ => trivial))) | (refine And.intro ?aa ?_; case aa => (exact (fun _ => ⟨by omega, by omega⟩))) | (refine And.intro ?aa ?_; case aa => (intros; simp_all [qEb, q4f]; done)) | (refine And.intro ?aa ?_; case aa => (intros; exact q0U (by omega))) | (refine And.intro ?aa ?_; case aa => (intros; simp only [decide_eq_true_eq] at *; omega)) | (intro q hq))
   have e0 : q = decide (¬ (inR (atS l i).id 1 9 ∧ inR (atS l i).upto 0 9999)) := by
    rw [hq, Bool.eq_iff_iff, decide_eq_true_eq]
    by_cases a1 : inR (atS l i).id 1 9 <;> by_cases a2 : inR (atS l i).upto 0 9999 <;> simp only [a1, a2, decide_true, decide_false, Bool.not_true, Bool.not_false, cond_true, cond_false, and_true, true_and, and_false, false_and, not_true_eq_false, not_false_eq_true, Bool.false_eq_true]
   clear hq
   rw [e0]
   refine ⟨fun h5 => q8C h1 hz hlt (by unfold q6w; rw [if_pos (of_decide_eq_true h5)]) (by decide), fun h5 => ?_⟩
   clear e0
   repeat (first | (refine And.intro (fun h _ => h) ?_) | (refine And.intro (fun _ h => h) ?_) | (refine And.intro ?aa ?_; case aa => (exact (tqI _))) | (refine And.intro ?aa ?_; case aa => (exact (fun h => q0U (by omega)))) | (refine And.intro ?aa ?_; case aa => (exact (fun h => ⟨by have := of_decide_eq_true h; omega, by omega⟩))) | (refine And.intro ?aa ?_; case aa => (intros; simp_all [qEb, q4f]; done)) | (refine And.intro ?aa ?_; case aa => (intros; exact q0U (by omega))) | (refine And.intro ?aa ?_; case aa => (intros; simp only [decide_eq_true_eq] at *; omega)) | (intro q hq))
   have e3 : q = decide (0 < i ∧ (atS l i).id ≤ (atS l (i - 1)).id) := by
    rw [hq, Bool.eq_iff_iff, decide_eq_true_eq]
    by_cases a1 : 0 < i
    ·have n1 : ((i : Int) - 1).toNat = i - 1 := by omega
     have a2 : decide ((i : Int) > 0) = true := decide_eq_true (by omega)
     rw [a2, n1]
     simp only [cond_true, decide_eq_true_eq, a1, true_and]
    ·have a2 : decide ((i : Int) > 0) = false := decide_eq_false (by omega)
     rw [a2]
     simp [a1]
   rw [e3]
   have e2 : q6w l i = if 0 < i ∧ (atS l i).id ≤ (atS l (i - 1)).id then 1 else 0 := if_neg (of_decide_eq_false h5)
   refine ⟨fun h6 => q8C h1 hz hlt (by rw [e2, if_pos (of_decide_eq_true h6)]) (by decide), fun h6 => ?_⟩
   exact ⟨q0U (by omega), i + 1, SLe.refl _, ⟨by omega, q4U hz (by rw [e2, if_neg (of_decide_eq_false h6)])⟩, by omega⟩
  ·have hge : i = l.length := by have := of_decide_eq_false h2; omega
   exact q0J (by unfold q1x; rw [if_neg h1, ← hge, hz])
 exact Eq.mp (by kernel_rfl) key
theorem qYD : q0T Tryz.prog 150 qS9 := by
 refine q09 q1C (pol := 0) Tryz.func150 rfl (by kernel_rfl) fun args bin ob r bout hDe hob => ?_
 unfold qS9 at hDe
 split at hDe
 ·rename_i a0
  cases hDe
  exact okB (qYi ((q0M q08) a0) (hob.2)) x0E (args_of_vles ⟨hob.1, trivial⟩)
 ·cases hDe
def qO3 (r : q0W) : Prop := r.bd
noncomputable def qWC (r : q0W) : V := .bool (decide (q3X r))
noncomputable def qQz : q0G := fun args bin => match args, bin with
 | [a0], [] => some (VLe a0 (q0S 1 ((q0h a0))) ∧ qO3 (q0h a0), qWC (q0h a0), [])
 | _, _ => none
noncomputable def x7h : Nat → Option (Fl × q0G) := lk [(120, (.ro, q8i))]
theorem x21 : q0D Tryz.prog x7h := q01 qAW (q07)
noncomputable def x2w (r : q0W) : Cx := ⟨tt, x7h, Tryz.f121.ntmps, [0, 1, 2], [], [], fun _ => none, [], noM, []⟩
theorem x3A (r : q0W) (hpre : qO3 r) : q0f (x2w r) Tryz.f121 0 [q0S 1 (r)] (fun rr => VLe rr (qWC r)) := by
 have key : ((q4w (q0W.code r) (0 : Int) (10 : Int)) ∧ ((tq (decide (inR (q0W.code r) 0 10))) ∧ ((tq (decide (inR (q0W.code r) 0 10))) ∧ (((decide (inR (q0W.code r) 0 10) = true) → (q4w (q0W.value r) (-1 : Int) (9999 : Int))) ∧ (((true = true) → ((decide (inR (q0W.code r) 0 10) = true) → (decide (inR (q0W.code r) 0 10) = true))) ∧ (∀ b : Bool, ((b = bif decide (inR (q0W.code r) 0 10) then decide (inR (q0W.value r) (-1) 9999) else false) → ((tq (b)) ∧ ((tq (b)) ∧ ((tq (b)) ∧ (((true = true) → ((b = true) → (b = true))) ∧ (∀ b_1 : Bool, ((b_1 = bif b then decide ((↑(ByteArray.size (q0W.path r)) : Int) ≤ (24 : Int)) else false) → (VLe (V.bool b_1) (V.bool (decide (q3X r))))))))))))))))) := by
  refine ⟨trivial, ?_⟩
  repeat (first | (refine And.intro (fun h _ => h) ?_) | (refine And.intro (fun _ h => h) ?_) | (refine And.intro ?aa ?_; case aa => (exact (tqI _))) | (refine And.intro ?aa ?_; case aa => (exact (fun _ => trivial))) | (refine And.intro ?aa ?_; case aa => (intros; simp_all [q4w]; done)) | (refine And.intro ?aa ?_; case aa => (intros; exact q0U (by omega))) | (refine And.intro ?aa ?_; case aa => (intros; simp only [decide_eq_true_eq] at *; omega)) | (intro q hq))
  rename_i q1 hq1
  refine q0e ?_
  rw [hq, hq1, Bool.eq_iff_iff, decide_eq_true_eq]
  unfold q3X
  by_cases a1 : inR r.code 0 10 <;> by_cases a2 : inR r.value (-1) 9999 <;> by_cases a3 : (r.path.size : Int) ≤ 24 <;> simp [a1, a2, a3] <;> omega
 exact Eq.mp (by kernel_rfl) key
theorem x38 : q0T Tryz.prog 121 qQz := by
 refine q09 q1C (pol := 0) Tryz.func121 rfl (by kernel_rfl) fun args bin ob r bout hDe hob => ?_
 unfold qQz at hDe
 split at hDe
 ·rename_i a0
  cases hDe
  exact okB (x3A (q0h a0) (hob.2)) x21 (args_of_vles ⟨hob.1, trivial⟩)
 ·cases hDe
def qPU (r : q8q) : Prop := r.reply.bd
noncomputable def qW2 (r : q8q) : V := .bool (decide (q3X r.reply))
noncomputable def qSQ : q0G := fun args bin => match args, bin with
 | [a0], [] => some (VLe a0 (q5u 1 ((q2V a0))) ∧ qPU (q2V a0), qW2 (q2V a0), [])
 | _, _ => none
noncomputable def x7u : Nat → Option (Fl × q0G) := lk [(151, (.ro, q9G))]
theorem x51 : q0D Tryz.prog x7u := q01 qAT (q07)
noncomputable def x1c (r : q8q) : Cx := ⟨tt, x7u, Tryz.f152.ntmps, [0, 2], [], [], fun _ => none, [], noM, []⟩
noncomputable def qFF (r : q8q) : Bool := (decide (inR (q0W.code (q0L.reply r)) (0 : Int) (10 : Int)))
def qID (r : q8q) : Prop := (decide (inR (q0W.code (q0L.reply r)) (0 : Int) (10 : Int)) = true)
theorem qZe (r : q8q) (hpre : qPU r) : q0f (x1c r) Tryz.f152 0 [q5u 1 (r)] (fun rr => VLe rr (qW2 r)) := by
 have key : ((q4f (q0W.code (q0L.reply r)) (0 : Int) (10 : Int)) ∧ ((tq (qFF r)) ∧ ((tq (qFF r)) ∧ ((tq (qFF r)) ∧ ((tq (qFF r)) ∧ (((qID r) → (q4f (q0W.value (q0L.reply r)) (-1 : Int) (9999 : Int))) ∧ (((true = true) → ((qID r) → (qID r))) ∧ (∀ b : Bool, ((b = bif decide (inR (q0W.code (q0L.reply r)) (0 : Int) (10 : Int)) then decide (inR (q0W.value (q0L.reply r)) (-1 : Int) (9999 : Int)) else false) → ((tq (b)) ∧ ((tq (b)) ∧ ((tq (b)) ∧ ((tq (b)) ∧ ((tq (b)) ∧ (((true = true) → ((b = true) → (b = true))) ∧ (∀ b_1 : Bool, ((b_1 = bif b then decide ((↑(ByteArray.size (q0W.path (q0L.reply r))) : Int) ≤ (24 : Int)) else false) → (VLe (V.bool b_1) (V.bool (decide (q3X (q0L.reply r)))))))))))))))))))))) := by
  delta qID; delta qFF
  refine ⟨trivial, ?_⟩
  repeat (first | (refine And.intro (fun h _ => h) ?_) | (refine And.intro (fun _ h => h) ?_) | (refine And.intro ?aa ?_; case aa => (exact (tqI _))) | (refine And.intro ?aa ?_; case aa => (exact (fun _ => trivial))) | (refine And.intro ?aa ?_; case aa => (intros; simp_all [q4f]; done)) | (refine And.intro ?aa ?_; case aa => (intros; exact q0U (by omega))) | (refine And.intro ?aa ?_; case aa => (intros; simp only [decide_eq_true_eq] at *; omega)) | (intro q hq))
  rename_i q1 hq1
  refine q0e ?_
  rw [hq, hq1, Bool.eq_iff_iff, decide_eq_true_eq]
  unfold q3X
  by_cases a1 : inR r.reply.code 0 10 <;> by_cases a2 : inR r.reply.value (-1) 9999 <;> by_cases a3 : (r.reply.path.size : Int) ≤ 24 <;> simp [a1, a2, a3] <;> omega
 exact Eq.mp (by kernel_rfl) key
theorem x5N : q0T Tryz.prog 152 qSQ := by
 refine q09 q1C (pol := 0) Tryz.func152 rfl (by kernel_rfl) fun args bin ob r bout hDe hob => ?_
 unfold qSQ at hDe
 split at hDe
 ·rename_i a0
  cases hDe
  exact okB (qZe (q2V a0) (hob.2)) x51 (args_of_vles ⟨hob.1, trivial⟩)
 ·cases hDe
def qQg (m : q0L) (c : Int) (n : Int) : Prop := True
noncomputable def qTv (m : q0L) (c : Int) (n : Int) : V := .bool (qBd c n m)
noncomputable def qSr : q0G := fun args bin => match args, bin with
 | [a0, a1, a2], [] => some (VLe a0 (q0A 1 ((q0K a0))) ∧ VLe a1 (q0u 1 ((q0Y a1))) ∧ VLe a2 (q0u 1 ((q0Y a2))) ∧ qQg (q0K a0) (q0Y a1) (q0Y a2), qTv (q0K a0) (q0Y a1) (q0Y a2), [])
 | _, _ => none
noncomputable def x7Z : Nat → Option (Fl × q0G) := lk []
theorem x1m : q0D Tryz.prog x7Z := q07
noncomputable def qZl (m : q0L) (c : Int) (n : Int) : Cx := ⟨tt, x7Z, Tryz.f206.ntmps, [0, 1, 2, 3, 4], [], [], fun _ => none, [], noM, []⟩
theorem x1A (m : q0L) (c : Int) (n : Int) (hpre : qQg m c n) : q0f (qZl m c n) Tryz.f206 0 [q0A 1 (m), q0u 1 (c), q0u 1 (n)] (fun rr => VLe rr (qTv m c n)) := by
 have key : ((tq (q0L.client m == c)) ∧ ((tq (q0L.client m == c)) ∧ ((tq (q0L.client m == c)) ∧ (((true = true) → (((q0L.client m == c) = true) → ((q0L.client m == c) = true))) ∧ (∀ b : Bool, ((b = bif q0L.client m == c then q0L.number m == n else false) → (VLe (V.bool b) (V.bool (qBd c n m))))))))) := by
  repeat (first | (refine And.intro (fun h _ => h) ?_) | (refine And.intro (fun _ h => h) ?_) | (refine And.intro ?aa ?_; case aa => (exact (tqI _))) | (refine And.intro ?aa ?_; case aa => (intros; simp_all []; done)) | (refine And.intro ?aa ?_; case aa => (intros; exact q0U (by omega))) | (refine And.intro ?aa ?_; case aa => (intros; simp only [decide_eq_true_eq] at *; omega)) | (intro q hq))
  refine q0e ?_
  rw [hq]
  unfold qBd
  rw [Bool.eq_iff_iff, decide_eq_true_eq]
  by_cases a1 : m.client = c <;> simp [a1]
 exact Eq.mp (by kernel_rfl) key
theorem x5w : q0T Tryz.prog 206 qSr := by
 refine q09 q1C (pol := 0) Tryz.func206 rfl (by kernel_rfl) fun args bin ob r bout hDe hob => ?_
 unfold qSr at hDe
 split at hDe
 ·rename_i a0 a1 a2
  cases hDe
  exact okB (x1A (q0K a0) (q0Y a1) (q0Y a2) (hob.2.2.2)) x1m (args_of_vles ⟨hob.1, hob.2.1, hob.2.2.1, trivial⟩)
 ·cases hDe
def qBK (xs : List q0L) (c : Int) (n : Int) : Prop := xs.length ≤ maxLen ∧ (True)
noncomputable def qFc (xs : List q0L) (c : Int) (n : Int) : V := .int .i64 (q4h (fun m => qBd c n m) xs)
noncomputable def qBU : q0G := fun args bin => match args, bin with
 | [a0, .fn 206 [a1, a2]], [] => some (VLe a0 (q0H (q0A 1) 1 (((q0M q0K) a0))) ∧ VLe a1 (q0u 1 ((q0Y a1))) ∧ VLe a2 (q0u 1 ((q0Y a2))) ∧ qBK ((q0M q0K) a0) (q0Y a1) (q0Y a2), qFc ((q0M q0K) a0) (q0Y a1) (q0Y a2), [])
 | _, _ => none
noncomputable def qH6 (xs : List q0L) (c : Int) (n : Int) : q0O :=
 ⟨Nat, fun i => ⟨[(0, q0H (q0A 1) 1 xs), (1, .fn 206 [q0u 1 (c), q0u 1 (n)]), (7, .int .i64 xs.length), (8, .int .i64 i)], []⟩,
  fun i => i ≤ xs.length ∧ ∀ j, j < i → (fun m => qBd c n m) (xs.getD j default) = false, fun i => xs.length - i⟩
noncomputable def qKQ (xs : List q0L) (c : Int) (n : Int) : Nat → Option q0O := fun rg_ => match rg_ with
 | 2 => some (qH6 xs c n)
 | _ => none
noncomputable def qIQ : Nat → Option (Fl × q0G) := lk [(206, (.ro, qSr))]
theorem qLs : q0D Tryz.prog qIQ := q01 x5w (q07)
noncomputable def qLQ (xs : List q0L) (c : Int) (n : Int) : Cx := ⟨tt, qIQ, Tryz.f205.ntmps, [0, 1, 4, 5, 7, 8, 9, 16], [(2, ⟨[(0, none), (1, none), (7, none), (8, none)], []⟩)], [], qKQ xs c n, [], noM, []⟩
noncomputable def q4Z (xs : List q0L) (x : Nat) : V := (q0A 1 (List.getD xs (Int.toNat (↑x : Int)) default))
theorem qNY (xs : List q0L) (c : Int) (n : Int) (hpre : qBK xs c n) : q0f (qLQ xs c n) Tryz.f205 0 [q0H (q0A 1) 1 (xs), .fn 206 [q0u 1 (c), q0u 1 (n)]] (fun rr => VLe rr (qFc xs c n)) := by
 have key : ((∃ x : Nat, ((SLe (AS.mk [(0, q0H (q0A 1) 1 xs), (1, V.fn (206 : FuncId) [q0u 1 c, q0u 1 n]), (7, vi (↑(List.length xs) : Int)), (8, vi 0)] []) (AS.mk [(0, q0H (q0A 1) 1 xs), (1, V.fn (206 : FuncId) [q0u 1 c, q0u 1 n]), (7, vi (↑(List.length xs) : Int)), (8, vi (↑x : Int))] [])) ∧ ((x ≤ List.length xs) ∧ (∀ j : Nat, ((j < x) → (qBd c n (List.getD xs j default) = false)))))) ∧ (∀ x : Nat, (((x ≤ List.length xs) ∧ (∀ j : Nat, ((j < x) → (qBd c n (List.getD xs j default) = false)))) → (((decide ((↑x : Int) < (↑(List.length xs) : Int)) = true) → ((((0 : Int) ≤ (↑x : Int)) ∧ ((↑x : Int) < (↑(List.length xs) : Int))) ∧ (((VLe (q4Z xs x) (q0A 1 (q0K (q4Z xs x)))) ∧ ((VLe (V.ptr [vi c] 0 1) (q0u 1 (q0Y (V.ptr [vi c] 0 1)))) ∧ ((VLe (V.ptr [vi n] 0 1) (q0u 1 (q0Y (V.ptr [vi n] 0 1)))) ∧ (qQg (q0K (q4Z xs x)) (q0Y (V.ptr [vi c] 0 1)) (q0Y (V.ptr [vi n] 0 1)))))) ∧ (((qBd (q0Y (V.ptr [vi c] 0 1)) (q0Y (V.ptr [vi n] 0 1)) (q0K (q4Z xs x)) = true) → (VLe (vi (↑x : Int)) (vi (q4h (fun (m : q0L) ↦ qBd c n m) xs)))) ∧ ((qBd (q0Y (V.ptr [vi c] 0 1)) (q0Y (V.ptr [vi n] 0 1)) (q0K (q4Z xs x)) = false) → ((inK IntKind.i64 ((↑x : Int) + (1 : Int))) ∧ (∃ y : Nat, ((SLe (AS.mk [(0, q0H (q0A 1) 1 xs), (1, V.fn (206 : FuncId) [q0u 1 c, q0u 1 n]), (7, vi (↑(List.length xs) : Int)), (8, vi ((↑x : Int) + (1 : Int)))] []) (AS.mk [(0, q0H (q0A 1) 1 xs), (1, V.fn (206 : FuncId) [q0u 1 c, q0u 1 n]), (7, vi (↑(List.length xs) : Int)), (8, vi (↑y : Int))] [])) ∧ (((y ≤ List.length xs) ∧ (∀ j : Nat, ((j < y) → (qBd c n (List.getD xs j default) = false)))) ∧ (List.length xs - y < List.length xs - x)))))))))) ∧ ((decide ((↑x : Int) < (↑(List.length xs) : Int)) = false) → (VLe (vi (-1)) (vi (q4h (fun (m : q0L) ↦ qBd c n m) xs)))))))) := by
  delta q4Z; delta vi
  obtain ⟨hlen, hp⟩ := hpre
  unfold maxLen at hlen
  refine ⟨⟨0, SLe.refl _, by omega, fun j hj => absurd hj (Nat.not_lt_zero j)⟩, ?_⟩
  rintro i ⟨hi, hj⟩
  refine ⟨fun h => ?_, fun h => ?_⟩
  ·have hlt : i < xs.length := by simpa using h
   have hin : xs.getD i default ∈ xs := by simp [hlt]
   simp only [Int.toNat_natCast, q1y, q7O]
   refine ⟨⟨by omega, by omega⟩, ⟨VLe.refl _, VLe.refl _, VLe.refl _, trivial⟩, fun h2 => q0J (q33 hlt hj h2).symm, fun h2 => ⟨q0U (by omega), i + 1, SLe.refl _, ⟨by omega, fun j h3 => ?_⟩, by omega⟩⟩
   rcases Nat.lt_or_ge j i with h4 | h4
   ·exact hj j h4
   ·have : j = i := by omega
    subst this
    exact h2
  ·have hge : i = xs.length := by simp at h; omega
   exact q0J (q3h fun j h3 => hj j (by omega)).symm
 exact Eq.mp (by kernel_rfl) key
theorem qLE : q0T Tryz.prog 205 qBU := by
 refine q09 q1C (pol := 0) Tryz.func205 rfl (by kernel_rfl) fun args bin ob r bout hDe hob => ?_
 unfold qBU at hDe
 split at hDe
 ·rename_i a0 a1 a2
  cases hDe
  exact okB (qNY ((q0M q0K) a0) (q0Y a1) (q0Y a2) (hob.2.2.2)) qLs (args_of_vles ⟨hob.1, qF2 ⟨hob.2.1, hob.2.2.1, trivial⟩, trivial⟩)
 ·cases hDe
def qOR (l : List q0L) (c : Int) (n : Int) : Prop := l.length ≤ maxLen
noncomputable def qTz (l : List q0L) (c : Int) (n : Int) : V := .int .i64 (qGp l c n)
noncomputable def qSP : q0G := fun args bin => match args, bin with
 | [a0, .int .i64 a1, .int .i64 a2], [] => some (VLe a0 (q0H (q0A 1) 1 (((q0M q0K) a0))) ∧ qOR ((q0M q0K) a0) a1 a2, qTz ((q0M q0K) a0) a1 a2, [])
 | _, _ => none
noncomputable def x7d : Nat → Option (Fl × q0G) := lk [(205, (.ro, qBU))]
theorem qYr : q0D Tryz.prog x7d := q01 qLE (q07)
noncomputable def x05 (l : List q0L) (c : Int) (n : Int) : Cx := ⟨tt, x7d, Tryz.f122.ntmps, [0, 1, 2, 4, 5, 6], [], [], fun _ => none, [], noM, []⟩
theorem x4b (l : List q0L) (c : Int) (n : Int) (hpre : qOR l c n) : q0f (x05 l c n) Tryz.f122 0 [q0H (q0A 1) 1 (l), .int .i64 (c), .int .i64 (n)] (fun rr => VLe rr (qTz l c n)) := by
 have key : (((VLe (q0H (q0A 1) 1 l) (q0H (q0A 1) 1 (q0M q0K (q0H (q0A 1) 1 l)))) ∧ ((VLe (V.ptr [vi c] 0 1) (q0u 1 (q0Y (V.ptr [vi c] 0 1)))) ∧ ((VLe (V.ptr [vi n] 0 1) (q0u 1 (q0Y (V.ptr [vi n] 0 1)))) ∧ (qBK (q0M q0K (q0H (q0A 1) 1 l)) (q0Y (V.ptr [vi c] 0 1)) (q0Y (V.ptr [vi n] 0 1)))))) ∧ (VLe (vi (q4h (fun (m : q0L) ↦ qBd (q0Y (V.ptr [vi c] 0 1)) (q0Y (V.ptr [vi n] 0 1)) m) (q0M q0K (q0H (q0A 1) 1 l)))) (vi (qGp l c n)))) := by
  delta vi
  simp only [q4d, qGP]
  exact ⟨⟨VLe.refl _, VLe.refl _, VLe.refl _, hpre, trivial⟩, VLe.refl _⟩
 exact Eq.mp (by kernel_rfl) key
theorem x0u : q0T Tryz.prog 122 qSP := by
 refine q09 q1C (pol := 0) Tryz.func122 rfl (by kernel_rfl) fun args bin ob r bout hDe hob => ?_
 unfold qSP at hDe
 split at hDe
 ·rename_i a0 a1 a2
  cases hDe
  exact okB (x4b ((q0M q0K) a0) a1 a2 (hob.2)) qYr (args_of_vles ⟨hob.1, VLe.refl _, VLe.refl _, trivial⟩)
 ·cases hDe
def qPF (s : q05) (c : Int) (n : Int) : Prop := s.marks.length ≤ maxLen
noncomputable def qVl (s : q05) (c : Int) (n : Int) : V := .int .i64 (qGp s.marks c n)
noncomputable def qRo : q0G := fun args bin => match args, bin with
 | [a0, .int .i64 a1, .int .i64 a2], [] => some (VLe a0 (q0d 1 ((q0w a0))) ∧ qPF (q0w a0) a1 a2, qVl (q0w a0) a1 a2, [])
 | _, _ => none
noncomputable def qRB (s : q05) (c : Int) (n : Int) : q0O :=
 ⟨Nat, fun i => ⟨[(0, q0d 1 s), (1, .int .i64 c), (2, .int .i64 n), (7, .int .i64 i)], []⟩,
  fun i => i ≤ s.marks.length ∧ ∀ j, j < i → qBd c n (s.marks.getD j default) = false, fun i => s.marks.length - i⟩
noncomputable def x0Q (s : q05) (c : Int) (n : Int) : Nat → Option q0O := fun rg_ => match rg_ with
 | 2 => some (qRB s c n)
 | _ => none
noncomputable def x7W : Nat → Option (Fl × q0G) := lk []
theorem qYB : q0D Tryz.prog x7W := q07
noncomputable def x5Q (s : q05) (c : Int) (n : Int) : Cx := ⟨tt, x7W, Tryz.f141.ntmps, [0, 1, 2, 6, 7, 14, 38], [(2, ⟨[(0, none), (1, none), (2, none), (7, none)], []⟩)], [], x0Q s c n, [], noM, []⟩
noncomputable def q5I (s : q05) (c : Int) (x : Nat) : Bool := (q0L.client (List.getD (q05.marks s) (Int.toNat (↑x : Int)) default) == c)
theorem x3N (s : q05) (c : Int) (n : Int) (hpre : qPF s c n) : q0f (x5Q s c n) Tryz.f141 0 [q0d 1 (s), .int .i64 (c), .int .i64 (n)] (fun rr => VLe rr (qVl s c n)) := by
 have key : ((∃ x : Nat, ((SLe (AS.mk [(0, q0d 1 s), (1, vi c), (2, vi n), (7, vi 0)] []) (AS.mk [(0, q0d 1 s), (1, vi c), (2, vi n), (7, vi (↑x : Int))] [])) ∧ ((x ≤ List.length (q05.marks s)) ∧ (∀ j : Nat, ((j < x) → (qBd c n (List.getD (q05.marks s) j default) = false)))))) ∧ (∀ x : Nat, (((x ≤ List.length (q05.marks s)) ∧ (∀ j : Nat, ((j < x) → (qBd c n (List.getD (q05.marks s) j default) = false)))) → (((decide ((↑x : Int) < (↑(List.length (q05.marks s)) : Int)) = true) → ((((0 : Int) ≤ (↑x : Int)) ∧ ((↑x : Int) < (↑(List.length (q05.marks s)) : Int))) ∧ ((tq (q5I s c x)) ∧ ((tq (q5I s c x)) ∧ ((tq (q5I s c x)) ∧ ((tq (q5I s c x)) ∧ ((tq (q5I s c x)) ∧ ((((q5I s c x) = true) → (((0 : Int) ≤ (↑x : Int)) ∧ ((↑x : Int) < (↑(List.length (q05.marks s)) : Int)))) ∧ ((tq (q5I s c x)) ∧ ((tq (q5I s c x)) ∧ ((tq (q5I s c x)) ∧ ((tq (q5I s c x)) ∧ (((true = true) → (((q5I s c x) = true) → ((q5I s c x) = true))) ∧ (∀ b : Bool, ((b = bif q0L.client (List.getD (q05.marks s) (Int.toNat (↑x : Int)) default) == c then q0L.number (List.getD (q05.marks s) (Int.toNat (↑x : Int)) default) == n else false) → (((b = true) → (VLe (vi (↑x : Int)) (vi (qGp (q05.marks s) c n)))) ∧ ((b = false) → ((inK IntKind.i64 ((↑x : Int) + (1 : Int))) ∧ (∃ y : Nat, ((SLe (AS.mk [(0, q0d 1 s), (1, vi c), (2, vi n), (7, vi ((↑x : Int) + (1 : Int)))] []) (AS.mk [(0, q0d 1 s), (1, vi c), (2, vi n), (7, vi (↑y : Int))] [])) ∧ (((y ≤ List.length (q05.marks s)) ∧ (∀ j : Nat, ((j < y) → (qBd c n (List.getD (q05.marks s) j default) = false)))) ∧ (List.length (q05.marks s) - y < List.length (q05.marks s) - x)))))))))))))))))))))) ∧ ((decide ((↑x : Int) < (↑(List.length (q05.marks s)) : Int)) = false) → (VLe (vi (-1)) (vi (qGp (q05.marks s) c n)))))))) := by
  delta q5I; delta vi
  have hl : s.marks.length ≤ maxLen := hpre
  unfold maxLen at hl
  refine ⟨⟨0, SLe.refl _, by omega, fun j hj => absurd hj (Nat.not_lt_zero j)⟩, ?_⟩
  rintro i ⟨hi, hj⟩
  refine ⟨fun h => ?_, fun h => ?_⟩
  ·have hlt : i < s.marks.length := by have := of_decide_eq_true h; omega
   simp only [Int.toNat_natCast]
   refine ⟨⟨by omega, by omega⟩, ?_⟩
   repeat (first | (refine And.intro (fun h _ => h) ?_) | (refine And.intro (fun _ h => h) ?_) | (refine And.intro ?aa ?_; case aa => (exact (tqI _))) | (refine And.intro ?aa ?_; case aa => (exact (fun _ => ⟨by omega, by omega⟩))) | (refine And.intro ?aa ?_; case aa => (intros; simp_all []; done)) | (refine And.intro ?aa ?_; case aa => (intros; exact q0U (by omega))) | (refine And.intro ?aa ?_; case aa => (intros; simp only [decide_eq_true_eq] at *; omega)) | (intro q hq))
   have e0 : q = qBd c n (s.marks.getD i default) := by
    rw [hq]
    unfold qBd
    rw [Bool.eq_iff_iff, decide_eq_true_eq]
    by_cases a1 : (s.marks.getD i default).client = c
    ·have a2 : ((s.marks.getD i default).client == c) = true := by rw [beq_iff_eq]; exact a1
     rw [a2]
     simp only [cond_true, beq_iff_eq, a1, true_and]
    ·have a2 : ((s.marks.getD i default).client == c) = false := by rw [beq_eq_false_iff_ne]; exact a1
     rw [a2]
     simp only [cond_false, a1, false_and, Bool.false_eq_true]
   rw [e0]
   refine ⟨fun h2 => q0J (q33 hlt hj h2).symm, fun h2 => ⟨q0U (by omega), i + 1, SLe.refl _, ⟨by omega, fun j h3 => ?_⟩, by omega⟩⟩
   rcases Nat.lt_or_ge j i with h4 | h4
   ·exact hj j h4
   ·have : j = i := by omega
    subst this
    exact h2
  ·have hge : i = s.marks.length := by have := of_decide_eq_false h; omega
   exact q0J (q3h fun j h3 => hj j (by omega)).symm
 exact Eq.mp (by kernel_rfl) key
theorem x2N : q0T Tryz.prog 141 qRo := by
 refine q09 q1C (pol := 0) Tryz.func141 rfl (by kernel_rfl) fun args bin ob r bout hDe hob => ?_
 unfold qRo at hDe
 split at hDe
 ·rename_i a0 a1 a2
  cases hDe
  exact okB (x3N (q0w a0) a1 a2 (hob.2)) qYB (args_of_vles ⟨hob.1, VLe.refl _, VLe.refl _, trivial⟩)
 ·cases hDe
def x0e (s : q05) : Prop := s.bd
noncomputable def x6L (s : q05) : V := .int .i64 (q1M s)
noncomputable def x2y : q0G := fun args bin => match args, bin with
 | [a0], [] => some (VLe a0 (q0C 1 ((q0B a0))) ∧ x0e (q0B a0), x6L (q0B a0), [])
 | _, _ => none
noncomputable def qS7 (s : q05) : q0O :=
 ⟨Nat, fun i => ⟨[(1, .oref 128 0 0), (30, q0H (q0A 1) 1 s.marks), (31, .int .i64 s.marks.length), (32, .int .i64 i)], [(128, .box (q0C 1 s).cells)]⟩,
  fun i => i ≤ s.marks.length ∧ q1w (q7N s.marks) i = 0, fun i => s.marks.length - i⟩
noncomputable def x8n (s : q05) : Nat → Option q0O := fun rg_ => match rg_ with
 | 12 => some (qS7 s)
 | _ => none
noncomputable def D46 : Nat → Option (Fl × q0G) := lk [(117, (.ro, qPh)), (118, (.ro, qOZ)), (119, (.ro, qOi)), (107, (.ro, qJV)), (120, (.ro, q8i)), (121, (.ro, qQz)), (122, (.ro, qSP))]
theorem x8L : q0D Tryz.prog D46 := q01 qU7 (q01 qUF (q01 qWp (q01 qOM (q01 qAW (q01 x38 (q01 x0u (q07)))))))
noncomputable def x9G (s : q05) : Cx := ⟨tt, D46, Tryz.f46.ntmps, [0, 1, 2, 3, 4, 5, 6, 11, 17, 19, 24, 30, 31, 32, 33, 52, 62], [(12, ⟨[(1, none), (30, none), (31, none), (32, none)], [(128, [])]⟩)], [], x8n s, [], noM, []⟩
noncomputable def q7K (s : q05) : Nat := (List.length (q05.marks s))
noncomputable def qIq (s : q05) (x : Nat) : V := (V.sl (Int.toNat (Option.getD (some (↑x : Int)) (↑(q7K s) : Int)) - 0) (match (motive := Option Int → Nat → V) none with | none => gL (q0A 1) (q05.marks s) | some val => q29 (gL (q0A 1) (q05.marks s)) 0) 1)
noncomputable def q9Z (s : q05) (x : Nat) : Int := (q0L.client (List.getD (q05.marks s) (Int.toNat (↑x : Int)) default))
noncomputable def qKF (s : q05) : Nat × Blk := (128, Blk.box [q0H (q00 1) 1 (q05.nodes s), q0H (q02 1) 1 (q05.sessions s), vi (q05.now s), q0H (q0A 1) 1 (q05.marks s)])
noncomputable def qK4 (s : q05) (x : Nat) : Int := (q0L.number (List.getD (q05.marks s) (Int.toNat (↑x : Int)) default))
noncomputable def qML (s : q05) (x : Nat) : V := (q0S 1 (q0L.reply (List.getD (q05.marks s) (Int.toNat (↑x : Int)) default)))
noncomputable def qJr (s : q05) : List q06 := (q0M q08 (q0H (q02 1) 1 (q05.sessions s)))
noncomputable def qJz (s : q05) : List q03 := (q0M q04 (q0H (q00 1) 1 (q05.nodes s)))
noncomputable def qLC (s : q05) : Nat × V := (30, q0H (q0A 1) 1 (q05.marks s))
theorem x9T (s : q05) (hpre : x0e s) : q0f (x9G s) Tryz.f46 0 [q0C 1 (s)] (fun rr => VLe rr (x6L s)) := by
 have key : (((VLe (q0H (q00 1) 1 (q05.nodes s)) (q0H (q00 1) 1 (qJz s))) ∧ (qLG (qJz s))) ∧ ((((q0p (qJz s) != 0) = true) → (VLe (vi (q0p (qJz s))) (vi (q1M s)))) ∧ (((q0p (qJz s) != 0) = false) → (((VLe (q0H (q02 1) 1 (q05.sessions s)) (q0H (q02 1) 1 (qJr s))) ∧ (qLf (qJr s))) ∧ ((((q1x (qJr s) != 0) = true) → (VLe (vi (q1x (qJr s))) (vi (q1M s)))) ∧ (((q1x (qJr s) != 0) = false) → ((qKd (q05.now s)) ∧ ((((!decide (inR (q05.now s) 0 9000)) = true) → (VLe (vi 3) (vi (q1M s)))) ∧ (((!decide (inR (q05.now s) 0 9000)) = false) → (((decide ((↑(q7K s) : Int) > (40 : Int)) = true) → (VLe (vi 2) (vi (q1M s)))) ∧ ((decide ((↑(q7K s) : Int) > (40 : Int)) = false) → ((∃ x : Nat, ((SLe (AS.mk [(1, V.oref 128 0 0), (qLC s), (31, vi (↑(q7K s) : Int)), (32, vi 0)] [(qKF s)]) (AS.mk [(1, V.oref 128 0 0), (qLC s), (31, vi (↑(q7K s) : Int)), (32, vi (↑x : Int))] [(qKF s)])) ∧ ((x ≤ List.length (q05.marks s)) ∧ (q1w (q7N (q05.marks s)) x = (0 : Int))))) ∧ (∀ x : Nat, (((x ≤ List.length (q05.marks s)) ∧ (q1w (q7N (q05.marks s)) x = (0 : Int))) → (((decide ((↑x : Int) < (↑(q7K s) : Int)) = true) → ((((0 : Int) ≤ (↑x : Int)) ∧ ((↑x : Int) < (↑(q7K s) : Int))) ∧ ((qDl (q9Z s x)) ∧ ((tq (!!decide (inR (q9Z s x) (1 : Int) (9 : Int)))) ∧ ((tq (!!decide (inR (q9Z s x) (1 : Int) (9 : Int)))) ∧ ((((!!decide (inR (q9Z s x) (1 : Int) (9 : Int))) = true) → (q4w (qK4 s x) (1 : Int) (99 : Int))) ∧ ((tq (!!decide (inR (q9Z s x) (1 : Int) (9 : Int)))) ∧ (((true = true) → (((!decide (inR (q9Z s x) (1 : Int) (9 : Int))) = false) → ((!!decide (inR (q9Z s x) (1 : Int) (9 : Int))) = true))) ∧ (∀ b : Bool, ((b = bif !decide (inR (q9Z s x) (1 : Int) (9 : Int)) then true else !decide (inR (qK4 s x) (1 : Int) (99 : Int))) → ((tq (!b)) ∧ ((tq (!b)) ∧ ((((!b) = true) → ((VLe (qML s x) (q0S 1 (q0h (qML s x)))) ∧ (qO3 (q0h (qML s x))))) ∧ ((tq (!b)) ∧ (((true = true) → ((b = false) → ((!b) = true))) ∧ (∀ b_1 : Bool, ((b_1 = bif b then true else !decide (q3X (q0h (qML s x)))) → (((b_1 = true) → (VLe (vi 3) (vi (q1M s)))) ∧ ((b_1 = false) → ((((0 : Int) ≤ Option.getD none (0 : Int)) ∧ ((Option.getD none (0 : Int) ≤ Option.getD (some (↑x : Int)) (↑(q7K s) : Int)) ∧ (Option.getD (some (↑x : Int)) (↑(q7K s) : Int) ≤ (↑(q7K s) : Int)))) ∧ ((q0r 5 (q7K s) (gL (q0A 1) (q05.marks s))) ∧ (((VLe (qIq s x) (q0H (q0A 1) 1 (q0M q0K (qIq s x)))) ∧ (qOR (q0M q0K (qIq s x)) (q9Z s x) (qK4 s x))) ∧ (((decide (qGp (q0M q0K (qIq s x)) (q9Z s x) (qK4 s x) ≥ (0 : Int)) = true) → (VLe (vi 6) (vi (q1M s)))) ∧ ((decide (qGp (q0M q0K (qIq s x)) (q9Z s x) (qK4 s x) ≥ (0 : Int)) = false) → ((inK IntKind.i64 ((↑x : Int) + (1 : Int))) ∧ (∃ y : Nat, ((SLe (AS.mk [(1, V.oref 128 0 0), (qLC s), (31, vi (↑(q7K s) : Int)), (32, vi ((↑x : Int) + (1 : Int)))] [(qKF s)]) (AS.mk [(1, V.oref 128 0 0), (qLC s), (31, vi (↑(q7K s) : Int)), (32, vi (↑y : Int))] [(qKF s)])) ∧ (((y ≤ List.length (q05.marks s)) ∧ (q1w (q7N (q05.marks s)) y = (0 : Int))) ∧ (List.length (q05.marks s) - y < List.length (q05.marks s) - x))))))))))))))))))))))))))))) ∧ ((decide ((↑x : Int) < (↑(q7K s) : Int)) = false) → (VLe (vi 0) (vi (q1M s))))))))))))))))))) := by
  delta qLC; delta qJz; delta qJr; delta qML; delta qK4; delta qKF; delta q9Z; delta qIq; delta q7K; delta vi
  obtain ⟨⟨hn, hnb⟩, hs, hk, hkb⟩ := hpre
  have hk' := hk
  unfold maxLen at hk'
  simp only [q0s, q19, q2u, q40, qCf]
  refine ⟨⟨VLe.refl _, hn⟩, fun h => q0J (by unfold q1M; rw [if_pos (q6V h)]), fun h => ?_⟩
  have c1 := q3Y h
  refine ⟨⟨VLe.refl _, hs⟩, fun h => q0J (by unfold q1M; rw [if_neg c1, if_pos (q6V h)]), fun h => ?_⟩
  have c2 := q3Y h
  refine ⟨trivial, fun h => ?_, fun h => ?_⟩
  ·have c3 : ¬ inR s.now 0 9000 := by simpa using h
   exact q0J (by unfold q1M; rw [if_neg c1, if_neg c2, if_pos c3])
  have c3 : inR s.now 0 9000 := by simpa using h
  refine ⟨fun h => ?_, fun h => ?_⟩
  ·have c4 : 40 < s.marks.length := by have := of_decide_eq_true h; omega
   exact q0J (by unfold q1M; rw [if_neg c1, if_neg c2, if_neg (not_not_intro c3), if_pos c4])
  have c4 : ¬ 40 < s.marks.length := by have := of_decide_eq_false h; omega
  refine ⟨⟨0, SLe.refl _, by omega, rfl⟩, ?_⟩
  rintro i ⟨hi, hz⟩
  refine ⟨fun h2 => ?_, fun h2 => ?_⟩
  ·have hlt : i < s.marks.length := by have := of_decide_eq_true h2; omega
   have hbd : (s.marks.getD i default).bd := hkb _ (by simp [hlt])
   simp only [Int.toNat_natCast]
   have stop : ∀ c, c = q7N s.marks i → c ≠ 0 → VLe (.int .i64 c) (.int .i64 (q1M s)) := fun c hc h0 => q0J (by
    unfold q1M
    rw [if_neg c1, if_neg c2, if_neg (not_not_intro c3), if_neg c4, q4X hz (by rw [← hc]; exact h0) _ hlt, hc])
   refine ⟨⟨by omega, by omega⟩, trivial, ?_⟩
   repeat (first | (refine And.intro (fun h _ => h) ?_) | (refine And.intro (fun _ h => h) ?_) | (refine And.intro ?aa ?_; case aa => (exact (tqI _))) | (refine And.intro ?aa ?_; case aa => (exact (fun _ => trivial))) | (refine And.intro ?aa ?_; case aa => (exact (fun _ => ⟨VLe.refl _, hbd⟩))) | (refine And.intro ?aa ?_; case aa => (intros; simp_all [qLG, qLf, qKd, qDl, q4w, qO3, qOR]; done)) | (refine And.intro ?aa ?_; case aa => (intros; exact q0U (by omega))) | (refine And.intro ?aa ?_; case aa => (intros; simp only [decide_eq_true_eq] at *; omega)) | (intro q hq))
   rename_i q1 hq1
   have e0 : q = decide (¬ (inR (q6u s.marks i).client 1 9 ∧ inR (q6u s.marks i).number 1 99 ∧ q3X (q6u s.marks i).reply)) := by
    rw [hq, hq1, Bool.eq_iff_iff, decide_eq_true_eq]
    by_cases a1 : inR (q6u s.marks i).client 1 9 <;> by_cases a2 : inR (q6u s.marks i).number 1 99 <;> by_cases a3 : q3X (q6u s.marks i).reply <;> simp only [a1, a2, a3, decide_true, decide_false, Bool.not_true, Bool.not_false, cond_true, cond_false, and_true, true_and, and_false, false_and, not_true_eq_false, not_false_eq_true, Bool.false_eq_true]
   clear hq hq1
   rw [e0]
   refine ⟨fun h5 => stop _ (by unfold q7N; rw [if_pos (of_decide_eq_true h5)]) (by decide), fun h5 => ?_⟩
   have e2 : q7N s.marks i = if 0 ≤ qGp (s.marks.take i) (q6u s.marks i).client (q6u s.marks i).number then 6 else 0 := if_neg (of_decide_eq_false h5)
   clear e0
   simp only [Option.getD_some, Option.getD_none, Int.toNat_natCast, Nat.sub_zero, qKr (q1y 1) 1 s.marks i hi]
   refine ⟨⟨by omega, by omega, by omega⟩, fun k hk => ⟨rfl, rfl⟩, ⟨qOB hi, by show (s.marks.take i).length ≤ maxLen; rw [List.length_take]; unfold maxLen; omega⟩, fun h6 => ?_, fun h6 => ⟨q0U (by omega), i + 1, SLe.refl _, ⟨by omega, ?_⟩, by omega⟩⟩
   ·exact stop _ (by rw [e2, if_pos (of_decide_eq_true h6)]) (by decide)
   ·exact q4U hz (by rw [e2, if_neg (of_decide_eq_false h6)])
  ·have hge : i = s.marks.length := by have := of_decide_eq_false h2; omega
   exact q0J (by unfold q1M; rw [if_neg c1, if_neg c2, if_neg (not_not_intro c3), if_neg c4, ← hge, hz])
 exact Eq.mp (by kernel_rfl) key
theorem x8f : q0T Tryz.prog 46 x2y := by
 refine q09 q1C (pol := 0) Tryz.func46 rfl (by kernel_rfl) fun args bin ob r bout hDe hob => ?_
 unfold x2y at hDe
 split at hDe
 ·rename_i a0
  cases hDe
  exact okB (x9T (q0B a0) (hob.2)) x8L (args_of_vles ⟨hob.1, trivial⟩)
 ·cases hDe
def x4R (s : q05) : Prop := s.bd
noncomputable def x5y (s : q05) : V := .int .i64 (q1M s)
noncomputable def qYC : q0G := fun args bin => match args, bin with
 | [a0], [] => some (VLe a0 (q0d 1 ((q0w a0))) ∧ x4R (q0w a0), x5y (q0w a0), [])
 | _, _ => none
noncomputable def qS5 (s : q05) : q0O :=
 ⟨Nat, fun i => ⟨[(0, q0d 1 s), (5, .int .i64 i)], []⟩,
  fun i => i ≤ s.marks.length ∧ q1w (q7N s.marks) i = 0, fun i => s.marks.length - i⟩
noncomputable def x97 (s : q05) : Nat → Option q0O := fun rg_ => match rg_ with
 | 12 => some (qS5 s)
 | _ => none
noncomputable def D87 : Nat → Option (Fl × q0G) := lk [(149, (.ro, qQe)), (150, (.ro, qS9)), (137, (.ro, qR2)), (110, (.ro, qNU)), (151, (.ro, q9G)), (152, (.ro, qSQ)), (141, (.ro, qRo))]
theorem x9B : q0D Tryz.prog D87 := q01 x5P (q01 qYD (q01 qYI (q01 qRi (q01 qAT (q01 x5N (q01 x2N (q07)))))))
noncomputable def x95 (s : q05) : Cx := ⟨tt, D87, Tryz.f87.ntmps, [0, 2, 3, 4, 5, 6, 13, 21, 28, 34, 41, 70, 82], [(12, ⟨[(0, none), (5, none)], []⟩)], [], x97 s, [], noM, []⟩
noncomputable def q7Y (s : q05) (x : Nat) : Int := (q0L.client (List.getD (q05.marks s) (Int.toNat (↑x : Int)) default))
noncomputable def qH5 (s : q05) (x : Nat) : Int := (q0L.number (List.getD (q05.marks s) (Int.toNat (↑x : Int)) default))
noncomputable def qO6 (s : q05) (x : Nat) : q0W := (q0L.reply (List.getD (q05.marks s) (Int.toNat (↑x : Int)) default))
noncomputable def qMB (s : q05) (x : Nat) : V := (V.ptr [vi (q7Y s x), vi (qH5 s x), vi (q0W.code (qO6 s x)), vi (q0W.value (qO6 s x)), V.str (q0W.path (qO6 s x))] 2 1)
noncomputable def qJS (s : q05) : List q06 := (q0M q08 (q0H (q02 1) 1 (q05.sessions s)))
noncomputable def qJk (s : q05) : List q03 := (q0M q04 (q0H (q00 1) 1 (q05.nodes s)))
noncomputable def qIu (s : q05) : Nat := (List.length (q05.marks s))
theorem x8x (s : q05) (hpre : x4R s) : q0f (x95 s) Tryz.f87 0 [q0d 1 (s)] (fun rr => VLe rr (x5y s)) := by
 have key : (((VLe (q0H (q00 1) 1 (q05.nodes s)) (q0H (q00 1) 1 (qJk s))) ∧ (qO5 (qJk s))) ∧ ((((q0p (qJk s) != 0) = true) → (VLe (vi (q0p (qJk s))) (vi (q1M s)))) ∧ (((q0p (qJk s) != 0) = false) → (((VLe (q0H (q02 1) 1 (q05.sessions s)) (q0H (q02 1) 1 (qJS s))) ∧ (qOf (qJS s))) ∧ ((((q1x (qJS s) != 0) = true) → (VLe (vi (q1x (qJS s))) (vi (q1M s)))) ∧ (((q1x (qJS s) != 0) = false) → ((qOU (q05.now s)) ∧ ((((!decide (inR (q05.now s) 0 9000)) = true) → (VLe (vi 3) (vi (q1M s)))) ∧ (((!decide (inR (q05.now s) 0 9000)) = false) → (((decide ((↑(qIu s) : Int) > (40 : Int)) = true) → (VLe (vi 2) (vi (q1M s)))) ∧ ((decide ((↑(qIu s) : Int) > (40 : Int)) = false) → ((∃ x : Nat, ((SLe (AS.mk [(0, q0d 1 s), (5, vi 0)] []) (AS.mk [(0, q0d 1 s), (5, vi (↑x : Int))] [])) ∧ ((x ≤ List.length (q05.marks s)) ∧ (q1w (q7N (q05.marks s)) x = (0 : Int))))) ∧ (∀ x : Nat, (((x ≤ List.length (q05.marks s)) ∧ (q1w (q7N (q05.marks s)) x = (0 : Int))) → (((decide ((↑x : Int) < (↑(qIu s) : Int)) = true) → ((((0 : Int) ≤ (↑x : Int)) ∧ ((↑x : Int) < (↑(qIu s) : Int))) ∧ ((qEb (q7Y s x)) ∧ ((tq (!!decide (inR (q7Y s x) (1 : Int) (9 : Int)))) ∧ ((tq (!!decide (inR (q7Y s x) (1 : Int) (9 : Int)))) ∧ ((tq (!!decide (inR (q7Y s x) (1 : Int) (9 : Int)))) ∧ ((tq (!!decide (inR (q7Y s x) (1 : Int) (9 : Int)))) ∧ ((((!!decide (inR (q7Y s x) (1 : Int) (9 : Int))) = true) → (q4f (qH5 s x) (1 : Int) (99 : Int))) ∧ ((tq (!!decide (inR (q7Y s x) (1 : Int) (9 : Int)))) ∧ (((true = true) → (((!decide (inR (q7Y s x) (1 : Int) (9 : Int))) = false) → ((!!decide (inR (q7Y s x) (1 : Int) (9 : Int))) = true))) ∧ (∀ b : Bool, ((b = bif !decide (inR (q7Y s x) (1 : Int) (9 : Int)) then true else !decide (inR (qH5 s x) (1 : Int) (99 : Int))) → ((tq (!b)) ∧ ((tq (!b)) ∧ ((tq (!b)) ∧ ((((!b) = true) → ((VLe (qMB s x) (q5u 1 (q2V (qMB s x)))) ∧ (qPU (q2V (qMB s x))))) ∧ ((tq (!b)) ∧ (((true = true) → ((b = false) → ((!b) = true))) ∧ (∀ b_1 : Bool, ((b_1 = bif b then true else !decide (q3X (q0L.reply (q2V (qMB s x))))) → (((b_1 = true) → (VLe (vi 3) (vi (q1M s)))) ∧ ((b_1 = false) → (((VLe (q0d 1 s) (q0d 1 (q0w (q0d 1 s)))) ∧ (qPF (q0w (q0d 1 s)) (q7Y s x) (qH5 s x))) ∧ ((((qGp (q05.marks (q0w (q0d 1 s))) (q7Y s x) (qH5 s x) != (↑x : Int)) = true) → (VLe (vi 6) (vi (q1M s)))) ∧ (((qGp (q05.marks (q0w (q0d 1 s))) (q7Y s x) (qH5 s x) != (↑x : Int)) = false) → ((inK IntKind.i64 ((↑x : Int) + (1 : Int))) ∧ (∃ y : Nat, ((SLe (AS.mk [(0, q0d 1 s), (5, vi ((↑x : Int) + (1 : Int)))] []) (AS.mk [(0, q0d 1 s), (5, vi (↑y : Int))] [])) ∧ (((y ≤ List.length (q05.marks s)) ∧ (q1w (q7N (q05.marks s)) y = (0 : Int))) ∧ (List.length (q05.marks s) - y < List.length (q05.marks s) - x)))))))))))))))))))))))))))))) ∧ ((decide ((↑x : Int) < (↑(qIu s) : Int)) = false) → (VLe (vi 0) (vi (q1M s))))))))))))))))))) := by
  delta qIu; delta qJk; delta qJS; delta qMB; delta qO6; delta qH5; delta q7Y; delta vi
  obtain ⟨⟨hn, hnb⟩, hs, hk, hkb⟩ := hpre
  have hk' := hk
  unfold maxLen at hk'
  simp only [q0s, q19, q2u, q40, qCf]
  refine ⟨⟨VLe.refl _, hn⟩, fun h => q0J (by unfold q1M; rw [if_pos (q6V h)]), fun h => ?_⟩
  have c1 := q3Y h
  refine ⟨⟨VLe.refl _, hs⟩, fun h => q0J (by unfold q1M; rw [if_neg c1, if_pos (q6V h)]), fun h => ?_⟩
  have c2 := q3Y h
  refine ⟨trivial, fun h => ?_, fun h => ?_⟩
  ·have c3 : ¬ inR s.now 0 9000 := by simpa using h
   exact q0J (by unfold q1M; rw [if_neg c1, if_neg c2, if_pos c3])
  have c3 : inR s.now 0 9000 := by simpa using h
  refine ⟨fun h => ?_, fun h => ?_⟩
  ·have c4 : 40 < s.marks.length := by have := of_decide_eq_true h; omega
   exact q0J (by unfold q1M; rw [if_neg c1, if_neg c2, if_neg (not_not_intro c3), if_pos c4])
  have c4 : ¬ 40 < s.marks.length := by have := of_decide_eq_false h; omega
  refine ⟨⟨0, SLe.refl _, by omega, rfl⟩, ?_⟩
  rintro i ⟨hi, hz⟩
  refine ⟨fun h2 => ?_, fun h2 => ?_⟩
  ·have hlt : i < s.marks.length := by have := of_decide_eq_true h2; omega
   have hbd : (s.marks.getD i default).bd := hkb _ (by simp [hlt])
   simp only [Int.toNat_natCast]
   have stop : ∀ c, c = q7N s.marks i → c ≠ 0 → VLe (.int .i64 c) (.int .i64 (q1M s)) := fun c hc h0 => q0J (by
    unfold q1M
    rw [if_neg c1, if_neg c2, if_neg (not_not_intro c3), if_neg c4, q4X hz (by rw [← hc]; exact h0) _ hlt, hc])
   refine ⟨⟨by omega, by omega⟩, trivial, ?_⟩
   repeat (first | (refine And.intro (fun h _ => h) ?_) | (refine And.intro (fun _ h => h) ?_) | (refine And.intro ?aa ?_; case aa => (exact (tqI _))) | (refine And.intro ?aa ?_; case aa => (exact (fun _ => trivial))) | (refine And.intro ?aa ?_; case aa => (exact (fun _ => ⟨VLe.refl _, hbd⟩))) | (refine And.intro ?aa ?_; case aa => (intros; simp_all [qO5, qOf, qOU, qEb, q4f, qPU, qPF]; done)) | (refine And.intro ?aa ?_; case aa => (intros; exact q0U (by omega))) | (refine And.intro ?aa ?_; case aa => (intros; simp only [decide_eq_true_eq] at *; omega)) | (intro q hq))
   rename_i q1 hq1
   have e0 : q = decide (¬ (inR (q6u s.marks i).client 1 9 ∧ inR (q6u s.marks i).number 1 99 ∧ q3X (q6u s.marks i).reply)) := by
    rw [hq, hq1, Bool.eq_iff_iff, decide_eq_true_eq]
    by_cases a1 : inR (q6u s.marks i).client 1 9 <;> by_cases a2 : inR (q6u s.marks i).number 1 99 <;> by_cases a3 : q3X (q6u s.marks i).reply <;> simp only [a1, a2, a3, decide_true, decide_false, Bool.not_true, Bool.not_false, cond_true, cond_false, and_true, true_and, and_false, false_and, not_true_eq_false, not_false_eq_true, Bool.false_eq_true]
   clear hq hq1
   rw [e0]
   refine ⟨fun h5 => stop _ (by unfold q7N; rw [if_pos (of_decide_eq_true h5)]) (by decide), fun h5 => ?_⟩
   have e2 : q7N s.marks i = if 0 ≤ qGp (s.marks.take i) (q6u s.marks i).client (q6u s.marks i).number then 6 else 0 := if_neg (of_decide_eq_false h5)
   clear e0
   have hm := qNL hlt
   refine ⟨⟨VLe.refl _, hk⟩, fun h6 => ?_, fun h6 => ⟨q0U (by omega), i + 1, SLe.refl _, ⟨by omega, ?_⟩, by omega⟩⟩
   ·exact stop _ (by rw [e2, if_pos (Classical.byContradiction fun g => q6V h6 (hm.2 g))]) (by decide)
   ·exact q4U hz (by rw [e2, if_neg (hm.1 (Classical.not_not.1 (q3Y h6)))])
  ·have hge : i = s.marks.length := by have := of_decide_eq_false h2; omega
   exact q0J (by unfold q1M; rw [if_neg c1, if_neg c2, if_neg (not_not_intro c3), if_neg c4, ← hge, hz])
 exact Eq.mp (by kernel_rfl) key
theorem x8s : q0T Tryz.prog 87 qYC := by
 refine q09 q1C (pol := 0) Tryz.func87 rfl (by kernel_rfl) fun args bin ob r bout hDe hob => ?_
 unfold qYC at hDe
 split at hDe
 ·rename_i a0
  cases hDe
  exact okB (x8x (q0w a0) (hob.2)) x9B (args_of_vles ⟨hob.1, trivial⟩)
 ·cases hDe
theorem q9H {l : List q06} (h : q1x l = 0) : okS l := by
 unfold q1x at h
 split at h
 ·cases h
 ·rename_i h6
  have hs := q7p h
  have hE : ∀ i, i < l.length → (inR (l.getD i default).id 1 9 ∧ inR (l.getD i default).upto 0 9999) ∧ ¬ (0 < i ∧ (l.getD i default).id ≤ (l.getD (i - 1) default).id) := fun i hi => by
   have := hs i hi
   unfold q6w at this
   split at this
   ·cases this
   ·rename_i c
    split at this
    ·cases this
    ·rename_i c2
     exact ⟨Classical.not_not.1 c, c2⟩
  refine ⟨by omega, qNn fun i h0 hi => ?_, fun s hs => ?_⟩
  ·have := (hE i hi).2
   omega
  ·obtain ⟨i, hi, rfl⟩ := List.getElem_of_mem hs
   have := (hE i hi).1
   simpa [hi] using this
def qQj (l : List q06) (id : Int) (now : Int) : Prop := l.length ≤ maxLen
noncomputable def qTl (l : List q06) (id : Int) (now : Int) : V := .int .i64 (if q1x l ≠ 0 then q1x l else if ¬ (inR id 1 9 ∧ inR now 0 9000) then 3 else 0)
noncomputable def qS1 : q0G := fun args bin => match args, bin with
 | [a0, .int .i64 a1, .int .i64 a2], [] => some (VLe a0 (q0H (q02 1) 1 (((q0M q08) a0))) ∧ qQj ((q0M q08) a0) a1 a2, qTl ((q0M q08) a0) a1 a2, [])
 | _, _ => none
noncomputable def x6P : Nat → Option (Fl × q0G) := lk [(118, (.ro, qOZ)), (107, (.ro, qJV)), (119, (.ro, qOi))]
theorem x2D : q0D Tryz.prog x6P := q01 qUF (q01 qOM (q01 qWp (q07)))
noncomputable def x4S (l : List q06) (id : Int) (now : Int) : Cx := ⟨tt, x6P, Tryz.f224.ntmps, [0, 1, 2, 6, 7, 11, 20], [], [], fun _ => none, [], noM, []⟩
noncomputable def qCG (l : List q06) : List q06 := (q0M q08 (q0H (q02 1) 1 l))
theorem x4X (l : List q06) (id : Int) (now : Int) (hpre : qQj l id now) : q0f (x4S l id now) Tryz.f224 0 [q0H (q02 1) 1 (l), .int .i64 (id), .int .i64 (now)] (fun rr => VLe rr (qTl l id now)) := by
 have key : (((VLe (q0H (q02 1) 1 l) (q0H (q02 1) 1 (qCG l))) ∧ (qLf (qCG l))) ∧ ((((q1x (qCG l) != 0) = true) → (VLe (vi (q1x (qCG l))) (vi (if q1x l ≠ (0 : Int) then q1x l else if ¬(inR id 1 9 ∧ inR now 0 9000) then (3 : Int) else (0 : Int))))) ∧ (((q1x (qCG l) != 0) = false) → ((qDl id) ∧ ((tq (!!decide (inR id 1 9))) ∧ ((((!!decide (inR id 1 9)) = true) → (qKd now)) ∧ ((tq (!!decide (inR id 1 9))) ∧ (((true = true) → (((!decide (inR id 1 9)) = false) → ((!!decide (inR id 1 9)) = true))) ∧ (∀ b : Bool, ((b = bif !decide (inR id 1 9) then true else !decide (inR now 0 9000)) → (((b = true) → (VLe (vi 3) (vi (if q1x l ≠ (0 : Int) then q1x l else if ¬(inR id 1 9 ∧ inR now 0 9000) then (3 : Int) else (0 : Int))))) ∧ ((b = false) → (VLe (vi 0) (vi (if q1x l ≠ (0 : Int) then q1x l else if ¬(inR id 1 9 ∧ inR now 0 9000) then (3 : Int) else (0 : Int)))))))))))))))) := by
  delta qCG; delta vi
  have hl : l.length ≤ maxLen := hpre
  simp only [q19]
  refine ⟨⟨VLe.refl _, hl⟩, fun h => q0J ?_, fun h => ?_⟩
  ·have h1 : q1x l ≠ 0 := by simpa using h
   rw [if_pos h1]
  ·have h1 : q1x l = 0 := by simpa using h
   rw [if_neg (not_not_intro h1)]
   repeat (first | refine And.intro (tqI _) ?_ | refine And.intro (fun _ h => h) ?_ | refine And.intro (fun h _ => h) ?_ | refine And.intro (fun _ => trivial) ?_ | refine And.intro trivial ?_ | refine And.intro (fun _ h => by rw [h]; rfl) ?_)
   intro q hq
   refine ⟨fun h2 => q0J ?_, fun h2 => q0J ?_⟩
   ·rw [h2] at hq
    rw [if_pos]
    rintro ⟨a1, a2⟩
    rw [decide_eq_true a1, decide_eq_true a2] at hq
    cases hq
   ·rw [h2] at hq
    rw [if_neg]
    intro g
    apply g
    by_cases a1 : inR id 1 9
    ·by_cases a2 : inR now 0 9000
     ·exact ⟨a1, a2⟩
     ·rw [decide_eq_true a1, decide_eq_false a2] at hq; cases hq
    ·rw [decide_eq_false a1] at hq; cases hq
 exact Eq.mp (by kernel_rfl) key
theorem x4B : q0T Tryz.prog 224 qS1 := by
 refine q09 q1C (pol := 0) Tryz.func224 rfl (by kernel_rfl) fun args bin ob r bout hDe hob => ?_
 unfold qS1 at hDe
 split at hDe
 ·rename_i a0 a1 a2
  cases hDe
  exact okB (x4X ((q0M q08) a0) a1 a2 (hob.2)) x2D (args_of_vles ⟨hob.1, VLe.refl _, VLe.refl _, trivial⟩)
 ·cases hDe
def qMF (l : List q06) (id : Int) (now : Int) : Prop := q1x l = 0 ∧ inR id 1 9 ∧ inR now 0 9000
noncomputable def q4M (l : List q06) (id : Int) (now : Int) : q0R := q37 l id now
noncomputable def qQ4 (l : List q06) (id : Int) (now : Int) : List Blk := [(.arr 2 ((q4M l id now).sessions).length (gL (q02 1) ((q4M l id now).sessions)) q0i)]
noncomputable def qPm (l : List q06) (id : Int) (now : Int) : V := .agg [.int .i64 ((q4M l id now).code), .osl 0 ((q4M l id now).sessions).length]
noncomputable def qKR : q0G := fun args bin => match args, bin with
 | [a0, .int .i64 a1, .int .i64 a2], [] => some (VLe a0 (q0H (q02 1) 1 (((q0M q08) a0))) ∧ qMF ((q0M q08) a0) a1 a2, qPm ((q0M q08) a0) a1 a2, qQ4 ((q0M q08) a0) a1 a2)
 | _, _ => none
noncomputable def qVQ : Nat → Option (Fl × q0G) := lk [(224, (.ro, qS1)), (228, (.ro, qPJ)), (163, (.ro, qEe)), (235, (.mv, qSO))]
theorem qVr : q0D Tryz.prog qVQ := q01 x4B (q01 qTr (q01 qN4 (q01 x0T (q07))))
noncomputable def qUh (l : List q06) (id : Int) (now : Int) : Cx := ⟨tt, qVQ, Tryz.f177.ntmps, [0, 1, 2, 6, 7, 8, 9, 15, 24, 27], [], [], fun _ => none, [], noM, []⟩
noncomputable def q2g (l : List q06) : List q06 := (q0M q08 (q0H (q02 1) 1 l))
noncomputable def qGd (l : List q06) (id : Int) (now : Int) : Blk := (Blk.arr 2 (List.length (q0R.sessions (q4M l id now))) (gL (q02 1) (q0R.sessions (q4M l id now))) 100)
def qDH (l : List q06) (id : Int) (now : Int) : Prop := ((BLe (Blk.arr 2 0 (fun (x : Nat) ↦ V.undef) 100) (qGd l id now)) ∧ (True))
noncomputable def qEE (l : List q06) : List q06 := (q0M q08 (q0H (q02 1) 1 (q2i (q2g l))))
noncomputable def qDB (id : Int) (now : Int) : List q06 := (q0M q08 (V.sl 1 (q2o [V.agg [vi id, vi (now + (10 : Int))]]) 1))
noncomputable def qE9 (l : List q06) (id : Int) (now : Int) : List q06 := (q8S (qEE l) (↑(q8N (q2g l) id) : Int) (qDB id now))
noncomputable def qAI (l : List q06) (id : Int) (now : Int) : V := (V.agg [vi (q0R.code (q4M l id now)), V.osl 0 (List.length (q0R.sessions (q4M l id now)))])
def qDX (l : List q06) : Prop := (VLe (q0H (q02 1) 1 l) (q0H (q02 1) 1 (q2g l)))
noncomputable def qGR (l : List q06) (id : Int) (now : Int) : Bool := ((if q1x (q2g l) ≠ (0 : Int) then q1x (q2g l) else if ¬(inR id 1 9 ∧ inR now 0 9000) then (3 : Int) else (0 : Int)) != 0)
theorem qUU (l : List q06) (id : Int) (now : Int) (hpre : qMF l id now) : q3H (qUh l id now) Tryz.f177 [(1, 2)] [q0H (q02 1) 1 (l), .int .i64 (id), .int .i64 (now)] [] (fun rr bs => VLe rr (qPm l id now) ∧ q1d bs (qQ4 l id now)) := by
 have key : (((qDX l) ∧ (qQj (q2g l) id now)) ∧ ((((qGR l id now) = true) → ((VLe (V.agg [vi (if q1x (q2g l) ≠ (0 : Int) then q1x (q2g l) else if ¬(inR id 1 9 ∧ inR now 0 9000) then (3 : Int) else (0 : Int)), V.osl 0 0]) (qAI l id now)) ∧ (qDH l id now))) ∧ (((qGR l id now) = false) → (((qDX l) ∧ (qNv (q2g l) id)) ∧ (((q9Y (q2g l) id = true) → ((VLe (V.agg [vi 6, V.osl 0 0]) (qAI l id now)) ∧ (qDH l id now))) ∧ ((q9Y (q2g l) id = false) → (((((↑(List.length l) : Int) == (6 : Int)) = true) → ((VLe (V.agg [vi 2, V.osl 0 0]) (qAI l id now)) ∧ (qDH l id now))) ∧ ((((↑(List.length l) : Int) == (6 : Int)) = false) → (((qDX l) ∧ (qFf (q2g l))) ∧ ((inK IntKind.i64 (now + (10 : Int))) ∧ ((((0 = 0) ∧ ((2 = 2) ∧ ((100 = 100) ∧ ((List.length (q2i (q2g l)) = List.length (q2i (q2g l))) ∧ (∀ i : Nat, ((i < List.length (q2i (q2g l))) → (ELe (q02 1 (List.getD (q2i (q2g l)) i default)) (q02 1 (List.getD (qEE l) i default))))))))) ∧ (((1 = 1) ∧ ((2 = 2) ∧ ((100 = 100) ∧ ((1 = 1) ∧ (∀ i : Nat, ((i < 1) → (ELe (q2o [V.agg [vi id, vi (now + (10 : Int))]] i) (q02 1 (List.getD (qDB id now) i default))))))))) ∧ (qRV (qEE l) (↑(q8N (q2g l) id) : Int) (qDB id now)))) ∧ ((VLe (V.agg [vi 0, V.osl 0 (List.length (qE9 l id now))]) (qAI l id now)) ∧ ((BLe (Blk.arr 2 (List.length (qE9 l id now)) (gL (q02 1) (qE9 l id now)) 100) (qGd l id now)) ∧ (True)))))))))))))) := by
  delta qGR; delta qDX; delta qAI; delta qE9; delta qDB; delta qEE; delta qDH; delta qGd; delta q2g; delta vi
  obtain ⟨h0, hid, hnow⟩ := hpre
  have hk := q9H h0
  have hl := hk.1
  have hp := qSY l id
  have hnow2 := hnow
  unfold inR at hnow2
  have ec : (if q1x l ≠ 0 then q1x l else if ¬ (inR id 1 9 ∧ inR now 0 9000) then 3 else 0) = 0 := by rw [if_neg (not_not_intro h0), if_neg (not_not_intro ⟨hid, hnow⟩)]
  have ew : q0M q08 (.sl 1 (q2o [.agg [.int .i64 id, .int .i64 (now + 10)]]) 1) = [⟨id, now + 10⟩] := rfl
  have es := qQ7 hk.2.1 id
  simp only [q19, ec, ew, q2i]
  refine ⟨⟨VLe.refl _, by show l.length ≤ maxLen; unfold maxLen; omega⟩, fun h => absurd h (by decide), fun _ => ⟨⟨VLe.refl _, hk, hid⟩, fun h => ?_, fun h => ⟨fun h2 => ?_, fun h2 => ?_⟩⟩⟩
  ·have e : q4M l id now = (⟨6, []⟩ : q0R) := by
    show q37 l id now = _
    unfold q37
    rw [if_pos (by rw [es, if_pos h]; omega)]
   rw [e]
   exact ⟨VLe.refl _, q2h _, trivial⟩
  ·have h3 : ¬ 0 ≤ sAt l id := by
    have : ¬ (q9Y l id = true) := by rw [h]; decide
    rw [es, if_neg this]
    omega
   have e : q4M l id now = (⟨2, []⟩ : q0R) := by
    show q37 l id now = _
    unfold q37
    rw [if_neg h3, if_pos (by have := eq_of_beq h2; omega)]
   rw [e]
   exact ⟨VLe.refl _, q2h _, trivial⟩
  ·have h3 : ¬ 0 ≤ sAt l id := by
    have : ¬ (q9Y l id = true) := by rw [h]; decide
    rw [es, if_neg this]
    omega
   have h4 : ¬ (l.length : Int) = 6 := by simpa using h2
   have e : q4M l id now = (⟨0, l.take (q8N l id) ++ ⟨id, now + 10⟩ :: l.drop (q8N l id)⟩ : q0R) := by
    show q37 l id now = _
    unfold q37
    rw [if_neg h3, if_neg (by omega)]
   have e2 : q8S l (q8N l id : Int) [⟨id, now + 10⟩] = l.take (q8N l id) ++ ⟨id, now + 10⟩ :: l.drop (q8N l id) := by
    show l.take _ ++ [_] ++ l.drop _ = _
    rw [List.append_assoc]
    rfl
   rw [e, e2]
   refine ⟨⟨VLe.refl _, by show l.length ≤ 1000; omega⟩, q0U (by omega), ⟨⟨trivial, trivial, trivial, trivial, fun i hi => ELe.refl _⟩, ⟨trivial, trivial, trivial, trivial, fun i hi => ?_⟩, ?_⟩, VLe.refl _, BLe.refl _, trivial⟩
   ·have : i = 0 := by omega
    subst this
    exact ELe.refl _
   ·exact ⟨by omega, by omega, by show 0 < 1; omega, by show l.length + 1 ≤ 1000; omega⟩
 exact Eq.mp (by kernel_rfl) key
theorem qX0 : q0T Tryz.prog 177 qKR := by
 refine q0V q1C (tpl := [(1, 2)]) Tryz.func177 rfl (by kernel_rfl) fun args bin ob r bout hDe hob => ?_
 unfold qKR at hDe
 split at hDe
 ·rename_i a0 a1 a2
  cases hDe
  exact okQ (qUU ((q0M q08) a0) a1 a2 (hob.2)) qVr (args_of_vles ⟨hob.1, VLe.refl _, VLe.refl _, trivial⟩) trivial
 ·cases hDe
theorem qZI {n : Int} (h : 0 ≤ n ∧ n ≤ 255) : inK .u8 n := Go.IntWalk.u8_in _ h
theorem agT {c : Int} {t : ByteArray} {x : q0q} (h : x = ⟨c, t⟩) : VLe (.agg [.int .i64 c, .str t]) (q5g 1 x) := by
 subst h
 exact VLe.refl _
def qH9 (n : Int) : Prop := inR n 0 9
noncomputable def qWU (n : Int) : V := .str (qKS n)
noncomputable def qSh : q0G := fun args bin => match args, bin with
 | [.int .i64 a0], [] => some (qH9 a0, qWU a0, [])
 | _, _ => none
noncomputable def x8B : Nat → Option (Fl × q0G) := lk []
theorem x59 : q0D Tryz.prog x8B := q07
noncomputable def x5A (n : Int) : Cx := ⟨tt, x8B, Tryz.f276.ntmps, [0, 2, 4, 10], [], [2, 5], fun _ => none, [], noM, []⟩
theorem x2s (n : Int) (hpre : qH9 n) : q0f (x5A n) Tryz.f276 0 [.int .i64 (n)] (fun rr => VLe rr (qWU n)) := by
 have key : (((decide (n < (0 : Int)) = true) → (False)) ∧ ((decide (n < (0 : Int)) = false) → (((decide (n < (10 : Int)) = true) → ((inK IntKind.i64 ((48 : Int) + n)) ∧ ((inK IntKind.u8 ((48 : Int) + n)) ∧ ((∀ i : Nat, ((i < 1) → (qNa (V.int IntKind.u8 (List.getD [(48 : Int) + n] i (0 : Int))) = true))) ∧ (VLe (V.str (q4g 1 (q2o [V.int IntKind.u8 ((48 : Int) + n)]))) (V.str (qKS n))))))) ∧ ((decide (n < (10 : Int)) = false) → (False))))) := by
  unfold qH9 inR at hpre
  exact ⟨fun h => by have := of_decide_eq_true h; omega, fun _ => ⟨fun _ => ⟨q0U (by omega), qZI (by omega), fun i hi => by
   have : i = 0 := by omega
   subst this
   rfl, VLe.refl _⟩, fun h => by have := of_decide_eq_false h; omega⟩⟩
 exact Eq.mp (by kernel_rfl) key
theorem x0p : q0T Tryz.prog 276 qSh := by
 refine q09 q1C (pol := 0) Tryz.func276 rfl (by kernel_rfl) fun args bin ob r bout hDe hob => ?_
 unfold qSh at hDe
 split at hDe
 ·rename_i a0
  cases hDe
  exact okB (x2s a0 (hob)) x59 (args_of_vles ⟨VLe.refl _, trivial⟩)
 ·cases hDe
theorem q7n {α : Type} [Inhabited α] {enc : α → V} {sz n i te : Nat} {xs : List α} {g : Nat → V} {x : α} (hi : i < xs.length) (h : ELe (g i) (enc x)) (ho : ∀ j, j ≠ i → g j = gL enc xs j) :
  BLe (.arr sz n g te) (.arr sz n (gL enc (xs.set i x)) te) := by
 refine q1B (fun k hk => ?_) (Or.inl rfl)
 by_cases e : k = i
 ·subst e
  simp only [gL]
  rw [q2S _ _ _ _ hi]
  exact h
 ·rw [ho k e]
  simp only [gL]
  rw [q2X _ _ _ _ e]
  exact ELe.refl _
end Go.Av
