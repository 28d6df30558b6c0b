/- The messages that a source draws. -/
import Derived.Test.YtakcaanpnmkccaaGreatR1
import Derived.Test.YtakcaanpnmkccaaGreatE5
namespace Go.Av
open Go.Proofs
set_option maxRecDepth 100000
set_option maxHeartbeats 2000000
set_option linter.unusedVariables false
set_option linter.unusedSimpArgs false

theorem ble_nilR {α : Type} [Inhabited α] (enc : α → V) {sz te te' : Nat} {g : Nat → V} : BLe (.arr sz 0 g te) (.arr sz ([] : List α).length (gL enc []) te') := ble_arr (fun i hi => absurd hi (Nat.not_lt_zero i)) (Or.inr (Or.inr (Or.inr rfl)))
theorem srcO {xs : List Int} {p : Prop} (h : p) : (True ∧ True ∧ True) ∧ VLe (encL encY 1 xs) (encL encY 1 xs) ∧ p := ⟨⟨trivial, trivial, trivial⟩, VLe.refl _, h⟩
theorem pickO {xs : List Int} {p : Prop} {n : Nat} {g : Nat → Int} (h : p) : (True ∧ True ∧ True) ∧ VLe (encL encY 1 xs) (encL encY 1 xs) ∧ (True ∧ True ∧ True ∧ True ∧ ∀ i, i < n → ELe (V.int .i64 (g i)) (V.int .i64 (intA (V.int .i64 (g i))))) ∧ p :=
  ⟨⟨trivial, trivial, trivial⟩, VLe.refl _, ⟨trivial, trivial, trivial, trivial, fun i hi => ELe.refl _⟩, h⟩
theorem pkF : List.map (fun i => intA (V.int .i64 (([1, 1, 1, 1, 2, 0, 1, 1, 3] : List Int).getD i 0))) (List.range 9) = [1, 1, 1, 1, 2, 0, 1, 1, 3] := rfl
theorem pkK : List.map (fun i => intA (V.int .i64 (([1, 2, 2, 3, 3, 4, 5] : List Int).getD i 0))) (List.range 7) = [1, 2, 2, 3, 3, 4, 5] := rfl
theorem pk0 : List.map (fun i => intA (V.int .i64 (([0, 1, 4, 6] : List Int).getD i 0))) (List.range 4) = [0, 1, 4, 6] := rfl
theorem pk1 : List.map (fun i => intA (V.int .i64 (([-1, 20, 21] : List Int).getD i 0))) (List.range 3) = [-1, 20, 21] := rfl
theorem pk2 : List.map (fun i => intA (V.int .i64 (([0, 4, 7, 8] : List Int).getD i 0))) (List.range 4) = [0, 4, 7, 8] := rfl
theorem pk3 : List.map (fun i => intA (V.int .i64 (([0, 30, 31] : List Int).getD i 0))) (List.range 3) = [0, 30, 31] := rfl
theorem pk4 : List.map (fun i => intA (V.int .i64 (([-1, 12, 13] : List Int).getD i 0))) (List.range 3) = [-1, 12, 13] := rfl
theorem okX.up {xs : List Int} {a : Int} (h : okX xs a) (k : Int) (h1 : 0 ≤ k) (h2 : a + k ≤ 1000000) : okX xs (a + k) := h.to (by have := h.2.2.1; omega) h2
theorem bif_and {p q : Prop} [Decidable p] [Decidable q] : (bif decide p then decide q else false) = decide (p ∧ q) := by
  by_cases hp : p <;> simp [hp]
theorem tqB (x : Bool) : tq x := fun h _ => h
theorem sizedL_agg {sz : Nat} {cs : List V} (h : cs.length = sz) (h2 : solid (.agg cs) = true) : sizedL sz 1 (rowg [.agg cs]) := by
  intro k hk
  have : k = 0 := by omega
  subst this
  exact ⟨h, h2⟩
theorem sizedL_int {a : Int} : sizedL 1 1 (rowg [.int .i64 a]) := by
  intro k hk
  have : k = 0 := by omega
  subst this
  exact ⟨rfl, rfl⟩
theorem certsD_hit {xs : List Int} {v : Int} {f : Nat} {k a : Int} {l : List Cert} (hk : k < 4 ∧ 0 < v) (h : nextF xs a 3 = 0) : certsD xs v (f + 1) k a l = certsD xs v f (k + 1) (a + 3) (l ++ [⟨k, nextF xs (a + 1) v, nextF xs (a + 2) 3⟩]) := by
  rw [certsD, if_pos hk, if_pos h]
theorem certsD_miss {xs : List Int} {v : Int} {f : Nat} {k a : Int} {l : List Cert} (hk : k < 4 ∧ 0 < v) (h : ¬ nextF xs a 3 = 0) : certsD xs v (f + 1) k a l = certsD xs v f (k + 1) (a + 1) l := by
  rw [certsD, if_pos hk, if_neg h]
theorem certsD_end {xs : List Int} {v : Int} {f : Nat} {k a : Int} {l : List Cert} (hk : ¬ (k < 4 ∧ 0 < v)) : certsD xs v f k a l = (l, a) := by
  cases f with
  | zero => rfl
  | succ f => rw [certsD, if_neg hk]
theorem refsD_hit {xs : List Int} {n : Int} {f : Nat} {k a : Int} {l : List Int} (hk : k < n ∧ l.length < 4) (h : nextF xs a 3 = 0) : refsD xs n (f + 1) k a l = refsD xs n f (k + 1) (a + 1) (l ++ [k]) := by
  rw [refsD, if_pos hk, if_pos h]
theorem refsD_miss {xs : List Int} {n : Int} {f : Nat} {k a : Int} {l : List Int} (hk : k < n ∧ l.length < 4) (h : ¬ nextF xs a 3 = 0) : refsD xs n (f + 1) k a l = refsD xs n f (k + 1) (a + 1) l := by
  rw [refsD, if_pos hk, if_neg h]
theorem refsD_end {xs : List Int} {n : Int} {f : Nat} {k a : Int} {l : List Int} (hk : ¬ (k < n ∧ l.length < 4)) : refsD xs n f k a l = (l, a) := by
  cases f with
  | zero => rfl
  | succ f => rw [refsD, if_neg hk]

/-! ### spec.l8DrawF -/
def pr25 (xs : List Int) (at_ : Int)  : Prop := okX xs at_
noncomputable def rs25 (xs : List Int) (at_ : Int)  : V := .int .i64 (pickF xs at_ [1, 1, 1, 1, 2, 0, 1, 1, 3])
noncomputable def ra25 (xs : List Int) (at_ : Int)  : Int := at_ + 1
noncomputable def D25 : Nat → Option (Bool × FSpec) := lk [(45, (true, sp45))]
theorem da25 : SoundAll Tryz.prog D25 := soundAll_cons so45 (soundAll_nil)
noncomputable def cx25 (xs : List Int) (at_ : Int)  : Cx := ⟨tt, D25, Tryz.f25.ntmps, [0, 2], [], [], fun _ => none, [], noM, []⟩
theorem bd25 (xs : List Int) (at_ : Int)  (hpre : pr25 xs at_ ) : bodyO (cx25 xs at_ ) Tryz.f25 [] [.oref 0 0 0] [(.box [encL encY 1 xs, .int .i64 at_])] (fun rr bs => VLe rr (rs25 xs at_ ) ∧ BinLe bs [(.box [encL encY 1 xs, .int .i64 (ra25 xs at_ )])]) := by
  have key : ((((0 = 0) ∧ ((0 = 0) ∧ (0 = 0))) ∧ ((VLe (encL encY 1 xs) (encL encY 1 (decL decY (encL encY 1 xs)))) ∧ (((1 = 1) ∧ ((1 = 1) ∧ ((100 = 100) ∧ ((9 = 9) ∧ (∀ i : Nat, ((i < 9) → (ELe (vi (List.getD [(1 : Int), (1 : Int), (1 : Int), (1 : Int), (2 : Int), (0 : Int), (1 : Int), (1 : Int), (3 : Int)] i (0 : Int))) (vi (intA (vi (List.getD [(1 : Int), (1 : Int), (1 : Int), (1 : Int), (2 : Int), (0 : Int), (1 : Int), (1 : Int), (3 : Int)] i (0 : Int)))))))))))) ∧ (pr45 (decL decY (encL encY 1 xs)) at_ (List.map (fun (i : Nat) ↦ intA (vi (List.getD [(1 : Int), (1 : Int), (1 : Int), (1 : Int), (2 : Int), (0 : Int), (1 : Int), (1 : Int), (3 : Int)] i (0 : Int)))) (List.range 9)))))) ∧ ((9 = 9) ∧ ((VLe (vi (pickF (decL decY (encL encY 1 xs)) at_ (List.map (fun (i : Nat) ↦ intA (vi (List.getD [(1 : Int), (1 : Int), (1 : Int), (1 : Int), (2 : Int), (0 : Int), (1 : Int), (1 : Int), (3 : Int)] i (0 : Int)))) (List.range 9)))) (vi (pickF xs at_ [(1 : Int), (1 : Int), (1 : Int), (1 : Int), (2 : Int), (0 : Int), (1 : Int), (1 : Int), (3 : Int)]))) ∧ ((BLe (Blk.box [encL encY 1 (decL decY (encL encY 1 xs)), vi (ra45 (decL decY (encL encY 1 xs)) at_ (List.map (fun (i : Nat) ↦ intA (vi (List.getD [(1 : Int), (1 : Int), (1 : Int), (1 : Int), (2 : Int), (0 : Int), (1 : Int), (1 : Int), (3 : Int)] i (0 : Int)))) (List.range 9)))]) (Blk.box [encL encY 1 xs, vi (ra25 xs at_)])) ∧ (True))))) := by
    delta vi
    simp only [decL_bytes, pkF, ra45]
    exact ⟨pickO ⟨hpre, by decide, by decide⟩, trivial, VLe.refl _, BLe.refl _, trivial⟩
  exact Eq.mp (by kernel_rfl) key
noncomputable def sp25 : FSpec := fun args bin => match args, bin with
  | [.oref i0 j0 o0], [.box [v0, .int .i64 p0]] => some ((i0 = 0 ∧ j0 = 0 ∧ o0 = 0) ∧ VLe v0 (encL encY 1 (decL decY v0)) ∧ pr25 (decL decY v0) p0, rs25 (decL decY v0) p0, [.box [encL encY 1 (decL decY v0), .int .i64 (ra25 (decL decY v0) p0)]])
  | _, _ => none
theorem so25 : Sound Tryz.prog 25 sp25 := by
  refine sound_of_bodyO hmix (tpl := []) Tryz.func25 rfl (by kernel_rfl) fun args bin ob r bout hDe hob => ?_
  unfold sp25 at hDe
  split at hDe
  · rename_i i0 j0 o0 v0 p0
    cases hDe
    obtain ⟨⟨rfl, rfl, rfl⟩, h0, hpre⟩ := hob
    have hb := bd25 (decL decY v0) p0 hpre
    exact ⟨Nat.le_of_ble_eq_true (by kernel_rfl), cx25 (decL decY v0) p0, Eq.mp (by kernel_rfl) htt, Eq.mp (by kernel_rfl) da25, Eq.mp (by kernel_rfl) (noM_sound (P := Tryz.prog)), by kernel_rfl, [.oref 0 0 0], [(.box [encL encY 1 (decL decY v0), .int .i64 p0])], args_of_vles (l' := [.oref 0 0 0]) ⟨VLe.refl _, trivial⟩, ⟨ble_box ⟨h0, VLe.refl _, trivial⟩, trivial⟩, Eq.mp (by kernel_rfl) hb⟩
  · cases hDe

/-! ### spec.l8Draw -/
def pr99 (xs : List Int) (at_ : Int) (n : Int) : Prop := okX xs at_ ∧ at_ ≤ 990000 ∧ n ≤ 1000
noncomputable def ro99 (xs : List Int) (at_ : Int) (n : Int) : Msg := (drawM xs at_ n).1
noncomputable def rs99 (xs : List Int) (at_ : Int) (n : Int) : V := .agg [.int .i64 ((ro99 xs at_ n).kind), .int .i64 ((ro99 xs at_ n).view), .int .i64 ((ro99 xs at_ n).sender), .int .i64 ((ro99 xs at_ n).slot), .int .i64 ((ro99 xs at_ n).value), .osl 1 ((ro99 xs at_ n).certs).length, .osl 2 ((ro99 xs at_ n).refs).length]
noncomputable def rb99 (xs : List Int) (at_ : Int) (n : Int) : List Blk := [(.arr 3 ((ro99 xs at_ n).certs).length (gL (encCert 1) ((ro99 xs at_ n).certs)) tagS), (.arr 1 ((ro99 xs at_ n).refs).length (gL encI ((ro99 xs at_ n).refs)) tagS)]
noncomputable def ra99 (xs : List Int) (at_ : Int) (n : Int) : Int := (drawM xs at_ n).2
noncomputable def in99_7 (xs : List Int) (at_ : Int) (n : Int) : LoopInv :=
  ⟨Nat × Int × List Cert, fun p => ⟨[(0, .oref 0 0 0), (4, .oref 320 0 0), (5, .oref 384 0 0), (6, .int .i64 (4 - p.1))], [(0, .box [encL encY 0 xs, .int .i64 p.2.1]), (320, .box [.int .i64 0, .int .i64 0, .int .i64 0, .int .i64 0, .int .i64 0, .nil, .nil]), (384, .box [.int .i64 (drawK xs at_), .int .i64 (drawV xs at_), .int .i64 (drawS xs at_), .int .i64 0, .int .i64 0, .osl (canonB 384 5) p.2.2.length, .nil]), (canonB 384 5, .arr 3 p.2.2.length (gL (encCert 1) p.2.2) tagS)]⟩,
    fun p => p.1 ≤ 3 ∧ certsD xs (drawV xs at_) p.1 (4 - p.1) p.2.1 p.2.2 = certsD xs (drawV xs at_) 3 1 (at_ + 3) [] ∧ at_ + 3 ≤ p.2.1 ∧ p.2.1 ≤ at_ + 3 + 3 * (3 - p.1) ∧ p.2.2.length ≤ 3 - p.1, fun p => p.1⟩
noncomputable def in99_13 (xs : List Int) (at_ : Int) (n : Int) : LoopInv :=
  ⟨Nat × Int × List Int, fun p => ⟨[(0, .oref 0 0 0), (1, .int .i64 n), (4, .oref 320 0 0), (5, .oref 384 0 0), (7, .int .i64 (n.toNat - p.1))], [(0, .box [encL encY 0 xs, .int .i64 p.2.1]), (320, .box [.int .i64 0, .int .i64 0, .int .i64 0, .int .i64 0, .int .i64 0, .nil, .nil]), (384, .box [.int .i64 (drawK xs at_), .int .i64 (drawV xs at_), .int .i64 (drawS xs at_), .int .i64 0, .int .i64 0, .nil, .osl (canonB 384 6) p.2.2.length]), (canonB 384 6, .arr 1 p.2.2.length (gL encI p.2.2) tagS)]⟩,
    fun p => p.1 ≤ n.toNat ∧ refsD xs n p.1 (n.toNat - p.1) p.2.1 p.2.2 = refsD xs n n.toNat 0 (at_ + 3) [] ∧ at_ + 3 ≤ p.2.1 ∧ p.2.1 ≤ at_ + 3 + (n.toNat - p.1) ∧ p.2.2.length ≤ n.toNat - p.1, fun p => p.1⟩
noncomputable def iv99 (xs : List Int) (at_ : Int) (n : Int) : Nat → Option LoopInv := fun k0 => match k0 with
  | 7 => some (in99_7 xs at_ n)
  | 13 => some (in99_13 xs at_ n)
  | _ => none
noncomputable def D99 : Nat → Option (Bool × FSpec) := lk [(59, (true, sp59)), (45, (true, sp45)), (52, (true, sp52))]
theorem da99 : SoundAll Tryz.prog D99 := soundAll_cons so59 (soundAll_cons so45 (soundAll_cons so52 (soundAll_nil)))
noncomputable def cx99 (xs : List Int) (at_ : Int) (n : Int) : Cx := ⟨tt, D99, Tryz.f99.ntmps, [0, 1, 4, 5, 6, 7, 18, 26, 34, 38, 52, 62, 66], [(7, ⟨[(0, none), (4, none), (5, none), (6, none)], [(0, []), (320, []), (384, [(5, 3)])]⟩), (13, ⟨[(0, none), (1, none), (4, none), (5, none), (7, none)], [(0, []), (320, []), (384, [(6, 1)])]⟩)], [], iv99 xs at_ n, [], noM, []⟩
noncomputable def k99_0 (xs : List Int) (at_ : Int) : Int := (ra59 (decL decY (encL encY 1 (decL decY (encL encY 1 xs)))) (ra45 (decL decY (encL encY 1 xs)) at_ (List.map (fun (i : Nat) ↦ intA (vi (List.getD [(1 : Int), (2 : Int), (2 : Int), (3 : Int), (3 : Int), (4 : Int), (5 : Int)] i (0 : Int)))) (List.range 7))) (3 : Int))
noncomputable def k99_1 (xs : List Int) : List Int := (decL decY (encL encY 1 (decL decY (encL encY 1 (decL decY (encL encY 1 xs))))))
noncomputable def k99_2 : Nat × Blk := (320, Blk.box [vi (0 : Int), vi (0 : Int), vi (0 : Int), vi (0 : Int), vi (0 : Int), V.nil, V.nil])
noncomputable def k99_3 (xs : List Int) : V := (encL encY 1 (decL decY (encL encY 1 xs)))
noncomputable def k99_4 (xs : List Int) (at_ : Int) : Int := (ra45 (decL decY (encL encY 1 xs)) at_ (List.map (fun (i : Nat) ↦ intA (vi (List.getD [(1 : Int), (2 : Int), (2 : Int), (3 : Int), (3 : Int), (4 : Int), (5 : Int)] i (0 : Int)))) (List.range 7)))
noncomputable def k99_5 (xs : List Int) (at_ : Int) (n : Int) : V := (V.agg [vi (Msg.kind (ro99 xs at_ n)), vi (Msg.view (ro99 xs at_ n)), vi (Msg.sender (ro99 xs at_ n)), vi (Msg.slot (ro99 xs at_ n)), vi (Msg.value (ro99 xs at_ n)), V.osl 1 (List.length (Msg.certs (ro99 xs at_ n))), V.osl 2 (List.length (Msg.refs (ro99 xs at_ n)))])
noncomputable def k99_6 (xs : List Int) (at_ : Int) : Int := (pickF (decL decY (encL encY 1 xs)) at_ (List.map (fun (i : Nat) ↦ intA (vi (List.getD [(1 : Int), (2 : Int), (2 : Int), (3 : Int), (3 : Int), (4 : Int), (5 : Int)] i (0 : Int)))) (List.range 7)))
noncomputable def k99_7 (xs : List Int) (at_ : Int) (n : Int) (y : Nat × Int × List Int) : AS := (AS.mk [(0, V.oref 0 0 0), (1, vi n), (4, V.oref 320 0 0), (5, V.oref 384 0 0), (7, vi ((↑(Int.toNat n) : Int) - (↑y.1 : Int)))] [(0, Blk.box [encL encY 0 xs, vi y.2.1]), k99_2, (384, Blk.box [vi (drawK xs at_), vi (drawV xs at_), vi (drawS xs at_), vi (0 : Int), vi (0 : Int), V.nil, V.osl 65573248 (List.length y.2.2)]), (65573248, Blk.arr 1 (List.length y.2.2) (gL encI y.2.2) 100)])
noncomputable def k99_8 (xs : List Int) (at_ : Int) (y : Nat × Int × List Cert) : AS := (AS.mk [(0, V.oref 0 0 0), (4, V.oref 320 0 0), (5, V.oref 384 0 0), (6, vi ((4 : Int) - (↑y.1 : Int)))] [(0, Blk.box [encL encY 0 xs, vi y.2.1]), k99_2, (384, Blk.box [vi (drawK xs at_), vi (drawV xs at_), vi (drawS xs at_), vi (0 : Int), vi (0 : Int), V.osl 65573184 (List.length y.2.2), V.nil]), (65573184, Blk.arr 3 (List.length y.2.2) (gL (encCert 1) y.2.2) 100)])
noncomputable def k99_9 (xs : List Int) (x : Nat × Int × List Cert) : Int := (ra52 (decL decY (encL encY 1 xs)) x.2.1 (3 : Int))
noncomputable def k99_10 (xs : List Int) : V := (encL encY 1 (decL decY (encL encY 1 (k99_1 xs))))
noncomputable def k99_11 (xs : List Int) (at_ : Int) : Int := (ra59 (k99_1 xs) (k99_0 xs at_) (4 : Int))
noncomputable def k99_12 (xs : List Int) (at_ : Int) (n : Int) : Blk := (Blk.arr 3 (List.length (Msg.certs (ro99 xs at_ n))) (gL (encCert 1) (Msg.certs (ro99 xs at_ n))) 100)
noncomputable def k99_13 (xs : List Int) (at_ : Int) (x : Nat × Int × List Cert) : List V := [V.agg [vi ((4 : Int) - (↑x.1 : Int)), vi (nextF (decL decY (k99_3 xs)) (k99_9 xs x) (drawV xs at_)), vi (nextF (k99_1 xs) (ra59 (decL decY (k99_3 xs)) (k99_9 xs x) (drawV xs at_)) (3 : Int))]]
noncomputable def k99_14 (xs : List Int) (at_ : Int) (n : Int) : Blk := (Blk.arr 1 (List.length (Msg.refs (ro99 xs at_ n))) (gL encI (Msg.refs (ro99 xs at_ n))) 100)
theorem bd99 (xs : List Int) (at_ : Int) (n : Int) (hpre : pr99 xs at_ n) : bodyO (cx99 xs at_ n) Tryz.f99 [(5, 3), (6, 1)] [.oref 0 0 0, .int .i64 (n)] [(.box [encL encY 1 xs, .int .i64 at_])] (fun rr bs => VLe rr (rs99 xs at_ n) ∧ BinLe bs [(.box [encL encY 1 xs, .int .i64 (ra99 xs at_ n)]), (.arr 3 ((ro99 xs at_ n).certs).length (gL (encCert 1) ((ro99 xs at_ n).certs)) tagS), (.arr 1 ((ro99 xs at_ n).refs).length (gL encI ((ro99 xs at_ n).refs)) tagS)]) := by
  have key : ((((0 = 0) ∧ ((0 = 0) ∧ (0 = 0))) ∧ ((VLe (encL encY 1 xs) (k99_3 xs)) ∧ (((1 = 1) ∧ ((1 = 1) ∧ ((100 = 100) ∧ ((7 = 7) ∧ (∀ i : Nat, ((i < 7) → (ELe (vi (List.getD [(1 : Int), (2 : Int), (2 : Int), (3 : Int), (3 : Int), (4 : Int), (5 : Int)] i (0 : Int))) (vi (intA (vi (List.getD [(1 : Int), (2 : Int), (2 : Int), (3 : Int), (3 : Int), (4 : Int), (5 : Int)] i (0 : Int)))))))))))) ∧ (pr45 (decL decY (encL encY 1 xs)) at_ (List.map (fun (i : Nat) ↦ intA (vi (List.getD [(1 : Int), (2 : Int), (2 : Int), (3 : Int), (3 : Int), (4 : Int), (5 : Int)] i (0 : Int)))) (List.range 7)))))) ∧ ((7 = 7) ∧ ((((0 = 0) ∧ ((0 = 0) ∧ (0 = 0))) ∧ ((VLe (k99_3 xs) (encL encY 1 (decL decY (k99_3 xs)))) ∧ (pr59 (decL decY (k99_3 xs)) (k99_4 xs at_) (3 : Int)))) ∧ ((((0 = 0) ∧ ((0 = 0) ∧ (0 = 0))) ∧ ((VLe (encL encY 1 (decL decY (k99_3 xs))) (encL encY 1 (k99_1 xs))) ∧ (pr59 (k99_1 xs) (k99_0 xs at_) (4 : Int)))) ∧ ((inK IntKind.i64 ((1 : Int) + nextF (k99_1 xs) (k99_0 xs at_) (4 : Int))) ∧ ((((pickF (decL decY (encL encY 1 xs)) at_ (List.map (fun (i : Nat) ↦ intA (vi (List.getD [(1 : Int), (2 : Int), (2 : Int), (3 : Int), (3 : Int), (4 : Int), (5 : Int)] i (0 : Int)))) (List.range 7)) == (4 : Int)) = true) → ((∃ x : Nat × Int × List Cert, ((SLe (AS.mk [(0, V.oref 0 0 0), (4, V.oref 320 0 0), (5, V.oref 384 0 0), (6, vi (1 : Int))] [(0, Blk.box [encL encY 0 (k99_1 xs), vi (k99_11 xs at_)]), k99_2, (384, Blk.box [vi (k99_6 xs at_), vi (nextF (decL decY (k99_3 xs)) (k99_4 xs at_) (3 : Int)), vi ((1 : Int) + nextF (k99_1 xs) (k99_0 xs at_) (4 : Int)), vi (0 : Int), vi (0 : Int), V.osl 65573184 0, V.nil]), (65573184, Blk.arr 3 0 (fun (x : Nat) ↦ V.undef) 100)]) (AS.mk [(0, V.oref 0 0 0), (4, V.oref 320 0 0), (5, V.oref 384 0 0), (6, vi ((4 : Int) - (↑x.1 : Int)))] [(0, Blk.box [encL encY 0 xs, vi x.2.1]), k99_2, (384, Blk.box [vi (drawK xs at_), vi (drawV xs at_), vi (drawS xs at_), vi (0 : Int), vi (0 : Int), V.osl 65573184 (List.length x.2.2), V.nil]), (65573184, Blk.arr 3 (List.length x.2.2) (gL (encCert 1) x.2.2) 100)])) ∧ ((Prod.fst x ≤ 3) ∧ ((certsD xs (drawV xs at_) x.1 ((4 : Int) - (↑x.1 : Int)) x.2.1 x.2.2 = certsD xs (drawV xs at_) 3 (1 : Int) (at_ + (3 : Int)) []) ∧ ((at_ + (3 : Int) ≤ Prod.fst x.2) ∧ ((Prod.fst x.2 ≤ at_ + (3 : Int) + (3 : Int) * ((3 : Int) - (↑x.1 : Int))) ∧ (List.length x.2.2 ≤ 3 - Prod.fst x))))))) ∧ (∀ x : Nat × Int × List Cert, (((Prod.fst x ≤ 3) ∧ ((certsD xs (drawV xs at_) x.1 ((4 : Int) - (↑x.1 : Int)) x.2.1 x.2.2 = certsD xs (drawV xs at_) 3 (1 : Int) (at_ + (3 : Int)) []) ∧ ((at_ + (3 : Int) ≤ Prod.fst x.2) ∧ ((Prod.fst x.2 ≤ at_ + (3 : Int) + (3 : Int) * ((3 : Int) - (↑x.1 : Int))) ∧ (List.length x.2.2 ≤ 3 - Prod.fst x))))) → ((tq (decide ((4 : Int) - (↑x.1 : Int) < (4 : Int)))) ∧ ((tq (decide ((4 : Int) - (↑x.1 : Int) < (4 : Int)))) ∧ (((true = true) → ((decide ((4 : Int) - (↑x.1 : Int) < (4 : Int)) = true) → (decide ((4 : Int) - (↑x.1 : Int) < (4 : Int)) = true))) ∧ (∀ b : Bool, ((b = bif decide ((4 : Int) - (↑x.1 : Int) < (4 : Int)) then decide (drawV xs at_ > (0 : Int)) else false) → (((b = true) → ((((0 = 0) ∧ ((0 = 0) ∧ (0 = 0))) ∧ ((VLe (encL encY 1 xs) (k99_3 xs)) ∧ (pr52 (decL decY (encL encY 1 xs)) x.2.1 (3 : Int)))) ∧ (((decide (nextF (decL decY (encL encY 1 xs)) x.2.1 (3 : Int) = (0 : Int)) = true) → ((((0 = 0) ∧ ((0 = 0) ∧ (0 = 0))) ∧ ((VLe (k99_3 xs) (encL encY 1 (decL decY (k99_3 xs)))) ∧ (pr59 (decL decY (k99_3 xs)) (k99_9 xs x) (drawV xs at_)))) ∧ ((((0 = 0) ∧ ((0 = 0) ∧ (0 = 0))) ∧ ((VLe (encL encY 1 (decL decY (k99_3 xs))) (encL encY 1 (k99_1 xs))) ∧ (pr59 (k99_1 xs) (ra59 (decL decY (k99_3 xs)) (k99_9 xs x) (drawV xs at_)) (3 : Int)))) ∧ ((List.length x.2.2 = List.length x.2.2) ∧ ((List.length x.2.2 + 1 ≤ 1073741824) ∧ ((sizedL 3 1 (rowg (k99_13 xs at_ x))) ∧ ((inK IntKind.i64 ((4 : Int) - (↑x.1 : Int) + (1 : Int))) ∧ (∃ y : Nat × Int × List Cert, ((SLe (AS.mk [(0, V.oref 0 0 0), (4, V.oref 320 0 0), (5, V.oref 384 0 0), (6, vi ((4 : Int) - (↑x.1 : Int) + (1 : Int)))] [(0, Blk.box [encL encY 0 (k99_1 xs), vi (ra59 (k99_1 xs) (ra59 (decL decY (k99_3 xs)) (k99_9 xs x) (drawV xs at_)) (3 : Int))]), k99_2, (384, Blk.box [vi (drawK xs at_), vi (drawV xs at_), vi (drawS xs at_), vi (0 : Int), vi (0 : Int), V.osl 65573184 (List.length x.2.2 + 1), V.nil]), (65573184, Blk.arr 3 (List.length x.2.2 + 1) (appg (List.length x.2.2) (gL (encCert 1) x.2.2) (rowg (k99_13 xs at_ x))) 100)]) (k99_8 xs at_ y)) ∧ (((Prod.fst y ≤ 3) ∧ ((certsD xs (drawV xs at_) y.1 ((4 : Int) - (↑y.1 : Int)) y.2.1 y.2.2 = certsD xs (drawV xs at_) 3 (1 : Int) (at_ + (3 : Int)) []) ∧ ((at_ + (3 : Int) ≤ Prod.fst y.2) ∧ ((Prod.fst y.2 ≤ at_ + (3 : Int) + (3 : Int) * ((3 : Int) - (↑y.1 : Int))) ∧ (List.length y.2.2 ≤ 3 - Prod.fst y))))) ∧ (Prod.fst y < Prod.fst x))))))))))) ∧ ((decide (nextF (decL decY (encL encY 1 xs)) x.2.1 (3 : Int) = (0 : Int)) = false) → ((inK IntKind.i64 ((4 : Int) - (↑x.1 : Int) + (1 : Int))) ∧ (∃ y : Nat × Int × List Cert, ((SLe (AS.mk [(0, V.oref 0 0 0), (4, V.oref 320 0 0), (5, V.oref 384 0 0), (6, vi ((4 : Int) - (↑x.1 : Int) + (1 : Int)))] [(0, Blk.box [encL encY 0 (decL decY (encL encY 1 xs)), vi (k99_9 xs x)]), k99_2, (384, Blk.box [vi (drawK xs at_), vi (drawV xs at_), vi (drawS xs at_), vi (0 : Int), vi (0 : Int), V.osl 65573184 (List.length x.2.2), V.nil]), (65573184, Blk.arr 3 (List.length x.2.2) (gL (encCert 1) x.2.2) 100)]) (k99_8 xs at_ y)) ∧ (((Prod.fst y ≤ 3) ∧ ((certsD xs (drawV xs at_) y.1 ((4 : Int) - (↑y.1 : Int)) y.2.1 y.2.2 = certsD xs (drawV xs at_) 3 (1 : Int) (at_ + (3 : Int)) []) ∧ ((at_ + (3 : Int) ≤ Prod.fst y.2) ∧ ((Prod.fst y.2 ≤ at_ + (3 : Int) + (3 : Int) * ((3 : Int) - (↑y.1 : Int))) ∧ (List.length y.2.2 ≤ 3 - Prod.fst y))))) ∧ (Prod.fst y < Prod.fst x))))))))) ∧ ((b = false) → ((VLe (V.agg [vi (drawK xs at_), vi (drawV xs at_), vi (drawS xs at_), vi (0 : Int), vi (0 : Int), V.osl 1 (List.length x.2.2), V.osl 2 0]) (k99_5 xs at_ n)) ∧ ((BLe (Blk.box [encL encY 1 xs, vi x.2.1]) (Blk.box [encL encY 1 xs, vi (ra99 xs at_ n)])) ∧ ((BLe (Blk.arr 3 (List.length x.2.2) (gL (encCert 1) x.2.2) 100) (k99_12 xs at_ n)) ∧ ((BLe (Blk.arr 1 0 (fun (x : Nat) ↦ V.undef) 100) (k99_14 xs at_ n)) ∧ (True)))))))))))))))) ∧ (((pickF (decL decY (encL encY 1 xs)) at_ (List.map (fun (i : Nat) ↦ intA (vi (List.getD [(1 : Int), (2 : Int), (2 : Int), (3 : Int), (3 : Int), (4 : Int), (5 : Int)] i (0 : Int)))) (List.range 7)) == (4 : Int)) = false) → ((((pickF (decL decY (encL encY 1 xs)) at_ (List.map (fun (i : Nat) ↦ intA (vi (List.getD [(1 : Int), (2 : Int), (2 : Int), (3 : Int), (3 : Int), (4 : Int), (5 : Int)] i (0 : Int)))) (List.range 7)) == (5 : Int)) = true) → ((∃ x : Nat × Int × List Int, ((SLe (AS.mk [(0, V.oref 0 0 0), (1, vi n), (4, V.oref 320 0 0), (5, V.oref 384 0 0), (7, vi (0 : Int))] [(0, Blk.box [encL encY 0 (k99_1 xs), vi (k99_11 xs at_)]), k99_2, (384, Blk.box [vi (k99_6 xs at_), vi (nextF (decL decY (k99_3 xs)) (k99_4 xs at_) (3 : Int)), vi ((1 : Int) + nextF (k99_1 xs) (k99_0 xs at_) (4 : Int)), vi (0 : Int), vi (0 : Int), V.nil, V.osl 65573248 0]), (65573248, Blk.arr 1 0 (fun (x : Nat) ↦ V.undef) 100)]) (AS.mk [(0, V.oref 0 0 0), (1, vi n), (4, V.oref 320 0 0), (5, V.oref 384 0 0), (7, vi ((↑(Int.toNat n) : Int) - (↑x.1 : Int)))] [(0, Blk.box [encL encY 0 xs, vi x.2.1]), k99_2, (384, Blk.box [vi (drawK xs at_), vi (drawV xs at_), vi (drawS xs at_), vi (0 : Int), vi (0 : Int), V.nil, V.osl 65573248 (List.length x.2.2)]), (65573248, Blk.arr 1 (List.length x.2.2) (gL encI x.2.2) 100)])) ∧ ((Prod.fst x ≤ Int.toNat n) ∧ ((refsD xs n x.1 ((↑(Int.toNat n) : Int) - (↑x.1 : Int)) x.2.1 x.2.2 = refsD xs n (Int.toNat n) (0 : Int) (at_ + (3 : Int)) []) ∧ ((at_ + (3 : Int) ≤ Prod.fst x.2) ∧ ((Prod.fst x.2 ≤ at_ + (3 : Int) + ((↑(Int.toNat n) : Int) - (↑x.1 : Int))) ∧ (List.length x.2.2 ≤ Int.toNat n - Prod.fst x))))))) ∧ (∀ x : Nat × Int × List Int, (((Prod.fst x ≤ Int.toNat n) ∧ ((refsD xs n x.1 ((↑(Int.toNat n) : Int) - (↑x.1 : Int)) x.2.1 x.2.2 = refsD xs n (Int.toNat n) (0 : Int) (at_ + (3 : Int)) []) ∧ ((at_ + (3 : Int) ≤ Prod.fst x.2) ∧ ((Prod.fst x.2 ≤ at_ + (3 : Int) + ((↑(Int.toNat n) : Int) - (↑x.1 : Int))) ∧ (List.length x.2.2 ≤ Int.toNat n - Prod.fst x))))) → ((tq (decide ((↑(Int.toNat n) : Int) - (↑x.1 : Int) < n))) ∧ ((tq (decide ((↑(Int.toNat n) : Int) - (↑x.1 : Int) < n))) ∧ ((tq (decide ((↑(Int.toNat n) : Int) - (↑x.1 : Int) < n))) ∧ (((true = true) → ((decide ((↑(Int.toNat n) : Int) - (↑x.1 : Int) < n) = true) → (decide ((↑(Int.toNat n) : Int) - (↑x.1 : Int) < n) = true))) ∧ (∀ b : Bool, ((b = bif decide ((↑(Int.toNat n) : Int) - (↑x.1 : Int) < n) then decide ((↑(List.length x.2.2) : Int) < (4 : Int)) else false) → (((b = true) → ((((0 = 0) ∧ ((0 = 0) ∧ (0 = 0))) ∧ ((VLe (encL encY 1 xs) (k99_3 xs)) ∧ (pr52 (decL decY (encL encY 1 xs)) x.2.1 (3 : Int)))) ∧ (((decide (nextF (decL decY (encL encY 1 xs)) x.2.1 (3 : Int) = (0 : Int)) = true) → ((List.length x.2.2 = List.length x.2.2) ∧ ((List.length x.2.2 + 1 ≤ 1073741824) ∧ ((sizedL 1 1 (rowg [vi ((↑(Int.toNat n) : Int) - (↑x.1 : Int))])) ∧ ((inK IntKind.i64 ((↑(Int.toNat n) : Int) - (↑x.1 : Int) + (1 : Int))) ∧ (∃ y : Nat × Int × List Int, ((SLe (AS.mk [(0, V.oref 0 0 0), (1, vi n), (4, V.oref 320 0 0), (5, V.oref 384 0 0), (7, vi ((↑(Int.toNat n) : Int) - (↑x.1 : Int) + (1 : Int)))] [(0, Blk.box [encL encY 0 (decL decY (encL encY 1 xs)), vi (ra52 (decL decY (encL encY 1 xs)) x.2.1 (3 : Int))]), k99_2, (384, Blk.box [vi (drawK xs at_), vi (drawV xs at_), vi (drawS xs at_), vi (0 : Int), vi (0 : Int), V.nil, V.osl 65573248 (List.length x.2.2 + 1)]), (65573248, Blk.arr 1 (List.length x.2.2 + 1) (appg (List.length x.2.2) (gL encI x.2.2) (rowg [vi ((↑(Int.toNat n) : Int) - (↑x.1 : Int))])) 100)]) (k99_7 xs at_ n y)) ∧ (((Prod.fst y ≤ Int.toNat n) ∧ ((refsD xs n y.1 ((↑(Int.toNat n) : Int) - (↑y.1 : Int)) y.2.1 y.2.2 = refsD xs n (Int.toNat n) (0 : Int) (at_ + (3 : Int)) []) ∧ ((at_ + (3 : Int) ≤ Prod.fst y.2) ∧ ((Prod.fst y.2 ≤ at_ + (3 : Int) + ((↑(Int.toNat n) : Int) - (↑y.1 : Int))) ∧ (List.length y.2.2 ≤ Int.toNat n - Prod.fst y))))) ∧ (Prod.fst y < Prod.fst x))))))))) ∧ ((decide (nextF (decL decY (encL encY 1 xs)) x.2.1 (3 : Int) = (0 : Int)) = false) → ((inK IntKind.i64 ((↑(Int.toNat n) : Int) - (↑x.1 : Int) + (1 : Int))) ∧ (∃ y : Nat × Int × List Int, ((SLe (AS.mk [(0, V.oref 0 0 0), (1, vi n), (4, V.oref 320 0 0), (5, V.oref 384 0 0), (7, vi ((↑(Int.toNat n) : Int) - (↑x.1 : Int) + (1 : Int)))] [(0, Blk.box [encL encY 0 (decL decY (encL encY 1 xs)), vi (ra52 (decL decY (encL encY 1 xs)) x.2.1 (3 : Int))]), k99_2, (384, Blk.box [vi (drawK xs at_), vi (drawV xs at_), vi (drawS xs at_), vi (0 : Int), vi (0 : Int), V.nil, V.osl 65573248 (List.length x.2.2)]), (65573248, Blk.arr 1 (List.length x.2.2) (gL encI x.2.2) 100)]) (k99_7 xs at_ n y)) ∧ (((Prod.fst y ≤ Int.toNat n) ∧ ((refsD xs n y.1 ((↑(Int.toNat n) : Int) - (↑y.1 : Int)) y.2.1 y.2.2 = refsD xs n (Int.toNat n) (0 : Int) (at_ + (3 : Int)) []) ∧ ((at_ + (3 : Int) ≤ Prod.fst y.2) ∧ ((Prod.fst y.2 ≤ at_ + (3 : Int) + ((↑(Int.toNat n) : Int) - (↑y.1 : Int))) ∧ (List.length y.2.2 ≤ Int.toNat n - Prod.fst y))))) ∧ (Prod.fst y < Prod.fst x))))))))) ∧ ((b = false) → ((VLe (V.agg [vi (drawK xs at_), vi (drawV xs at_), vi (drawS xs at_), vi (0 : Int), vi (0 : Int), V.osl 1 0, V.osl 2 (List.length x.2.2)]) (k99_5 xs at_ n)) ∧ ((BLe (Blk.box [encL encY 1 xs, vi x.2.1]) (Blk.box [encL encY 1 xs, vi (ra99 xs at_ n)])) ∧ ((BLe (Blk.arr 3 0 (fun (x : Nat) ↦ V.undef) 100) (k99_12 xs at_ n)) ∧ ((BLe (Blk.arr 1 (List.length x.2.2) (gL encI x.2.2) 100) (k99_14 xs at_ n)) ∧ (True))))))))))))))))) ∧ (((pickF (decL decY (encL encY 1 xs)) at_ (List.map (fun (i : Nat) ↦ intA (vi (List.getD [(1 : Int), (2 : Int), (2 : Int), (3 : Int), (3 : Int), (4 : Int), (5 : Int)] i (0 : Int)))) (List.range 7)) == (5 : Int)) = false) → ((((0 = 0) ∧ ((0 = 0) ∧ (0 = 0))) ∧ ((VLe (encL encY 1 (k99_1 xs)) (k99_10 xs)) ∧ (pr59 (decL decY (encL encY 1 (k99_1 xs))) (k99_11 xs at_) (2 : Int)))) ∧ ((inK IntKind.i64 ((1 : Int) + nextF (decL decY (encL encY 1 (k99_1 xs))) (k99_11 xs at_) (2 : Int))) ∧ ((((0 = 0) ∧ ((0 = 0) ∧ (0 = 0))) ∧ ((VLe (k99_10 xs) (encL encY 1 (decL decY (k99_10 xs)))) ∧ (pr59 (decL decY (k99_10 xs)) (ra59 (decL decY (encL encY 1 (k99_1 xs))) (k99_11 xs at_) (2 : Int)) (3 : Int)))) ∧ ((VLe (V.agg [vi (k99_6 xs at_), vi (nextF (decL decY (k99_3 xs)) (k99_4 xs at_) (3 : Int)), vi ((1 : Int) + nextF (k99_1 xs) (k99_0 xs at_) (4 : Int)), vi ((1 : Int) + nextF (decL decY (encL encY 1 (k99_1 xs))) (k99_11 xs at_) (2 : Int)), vi (nextF (decL decY (k99_10 xs)) (ra59 (decL decY (encL encY 1 (k99_1 xs))) (k99_11 xs at_) (2 : Int)) (3 : Int)), V.osl 1 0, V.osl 2 0]) (k99_5 xs at_ n)) ∧ ((BLe (Blk.box [encL encY 1 (decL decY (k99_10 xs)), vi (ra59 (decL decY (k99_10 xs)) (ra59 (decL decY (encL encY 1 (k99_1 xs))) (k99_11 xs at_) (2 : Int)) (3 : Int))]) (Blk.box [encL encY 1 xs, vi (ra99 xs at_ n)])) ∧ ((BLe (Blk.arr 3 0 (fun (x : Nat) ↦ V.undef) 100) (k99_12 xs at_ n)) ∧ ((BLe (Blk.arr 1 0 (fun (x : Nat) ↦ V.undef) 100) (k99_14 xs at_ n)) ∧ (True))))))))))))))))) := by
    delta k99_14; delta k99_13; delta k99_12; delta k99_11; delta k99_10; delta k99_9; delta k99_8; delta k99_7; delta k99_6; delta k99_5; delta k99_4; delta k99_3; delta k99_2; delta k99_1; delta k99_0; delta vi
    obtain ⟨h0, h1, h2⟩ := hpre
    have h3 := h0.2.2.1
    have b1 := nextF_bd (h0.up 1 (by omega) (by omega)) 3
    have b2 := nextF_bd (h0.up 2 (by omega) (by omega)) 4
    simp only [decL_bytes, pkK, ra45, ra59, ra52, Int.add_assoc, Int.reduceAdd]
    refine ⟨pickO ⟨h0, by decide, by decide⟩, trivial, srcO (h0.up 1 (by omega) (by omega)), srcO (h0.up 2 (by omega) (by omega)), inK64 (by omega), fun hk => ⟨?_, ?_⟩, fun hk => ⟨fun hk2 => ⟨?_, ?_⟩, fun hk2 => ?_⟩⟩
    · exact ⟨(3, at_ + 3, []), sle_of ⟨rfl, VLe.refl _, rfl, VLe.refl _, rfl, VLe.refl _, rfl, vle_int rfl, trivial⟩ ⟨rfl, BLe.refl _, rfl, BLe.refl _, rfl, BLe.refl _, rfl, ble_nilR _, trivial⟩, Nat.le_refl _, rfl, by simp only; omega, by simp only; omega, Nat.zero_le _⟩
    · have hK : drawK xs at_ = 4 := eq_of_beq hk
      rintro ⟨f, a, c⟩ ⟨hf, he, ha1, ha2, hc⟩
      simp only at hf he ha1 ha2 hc ⊢
      refine ⟨tqB _, tqB _, fun _ h => h, fun b hb => ⟨fun h => ?_, fun h => ?_⟩⟩
      · rw [h, bif_and] at hb
        have hg := of_decide_eq_true hb.symm
        cases f with
        | zero => omega
        | succ f =>
          have e4 : (4 : Int) - ((f + 1 : Nat) : Int) + 1 = 4 - (f : Int) := by omega
          refine ⟨srcO (h0.to (by omega) (by omega)), fun h2 => ⟨srcO (h0.to (by omega) (by omega)), srcO (h0.to (by omega) (by omega)), trivial, by omega, sizedL_agg rfl rfl, inK64 (by omega), (f, a + 3, c ++ [⟨4 - ((f + 1 : Nat) : Int), nextF xs (a + 1) (drawV xs at_), nextF xs (a + 2) 3⟩]), ?_, ⟨by simp only; omega, ?_, by simp only; omega, by simp only; omega, ?_⟩, by simp only; omega⟩, fun h2 => ⟨inK64 (by omega), (f, a + 1, c), ?_, ⟨by simp only; omega, ?_, by simp only; omega, by simp only; omega, by simp only; omega⟩, by simp only; omega⟩⟩
          · simp only [List.length_append, List.length_singleton]
            exact sle_of ⟨rfl, VLe.refl _, rfl, VLe.refl _, rfl, VLe.refl _, rfl, vle_int e4, trivial⟩ ⟨rfl, BLe.refl _, rfl, BLe.refl _, rfl, BLe.refl _, rfl, ble_push rfl rfl, trivial⟩
          · rw [← he, certsD_hit hg (of_decide_eq_true h2), e4]
          · simp only [List.length_append, List.length_singleton]
            omega
          · exact sle_of ⟨rfl, VLe.refl _, rfl, VLe.refl _, rfl, VLe.refl _, rfl, vle_int e4, trivial⟩ ⟨rfl, BLe.refl _, rfl, BLe.refl _, rfl, BLe.refl _, rfl, BLe.refl _, trivial⟩
          · rw [← he, certsD_miss hg (of_decide_eq_false h2), e4]
      · rw [h, bif_and] at hb
        have hg := of_decide_eq_false hb.symm
        rw [certsD_end hg] at he
        have e : drawM xs at_ n = (⟨drawK xs at_, drawV xs at_, drawS xs at_, 0, 0, c, []⟩, a) := by
          unfold drawM
          rw [if_pos hK, ← he]
        unfold ro99
        rw [e]
        exact ⟨VLe.refl _, ble_src (by show a = (drawM xs at_ n).2; rw [e]), BLe.refl _, ble_nilR _, trivial⟩
    · exact ⟨(n.toNat, at_ + 3, []), sle_of ⟨rfl, VLe.refl _, rfl, VLe.refl _, rfl, VLe.refl _, rfl, VLe.refl _, rfl, vle_int (by simp), trivial⟩ ⟨rfl, BLe.refl _, rfl, BLe.refl _, rfl, BLe.refl _, rfl, ble_nilR _, trivial⟩, Nat.le_refl _, by simp, by simp only; omega, by simp only; omega, Nat.zero_le _⟩
    · have hK : ¬ drawK xs at_ = 4 := beq_eq_false_iff_ne.1 hk
      have hK2 : drawK xs at_ = 5 := eq_of_beq hk2
      rintro ⟨f, a, c⟩ ⟨hf, he, ha1, ha2, hc⟩
      simp only at hf he ha1 ha2 hc ⊢
      refine ⟨tqB _, tqB _, tqB _, fun _ h => h, fun b hb => ⟨fun h => ?_, fun h => ?_⟩⟩
      · rw [h, bif_and] at hb
        have hg0 := of_decide_eq_true hb.symm
        have hg : (n.toNat : Int) - (f : Int) < n ∧ c.length < 4 := ⟨hg0.1, by omega⟩
        cases f with
        | zero => omega
        | succ f =>
          have e4 : (n.toNat : Int) - ((f + 1 : Nat) : Int) + 1 = n.toNat - (f : Int) := by omega
          refine ⟨srcO (h0.to (by omega) (by omega)), fun h2 => ⟨trivial, by omega, sizedL_int, inK64 (by omega), (f, a + 1, c ++ [(n.toNat : Int) - ((f + 1 : Nat) : Int)]), ?_, ⟨by simp only; omega, ?_, by simp only; omega, by simp only; omega, ?_⟩, by simp only; omega⟩, fun h2 => ⟨inK64 (by omega), (f, a + 1, c), ?_, ⟨by simp only; omega, ?_, by simp only; omega, by simp only; omega, by simp only; omega⟩, by simp only; omega⟩⟩
          · simp only [List.length_append, List.length_singleton]
            exact sle_of ⟨rfl, VLe.refl _, rfl, VLe.refl _, rfl, VLe.refl _, rfl, VLe.refl _, rfl, vle_int e4, trivial⟩ ⟨rfl, BLe.refl _, rfl, BLe.refl _, rfl, BLe.refl _, rfl, ble_push rfl rfl, trivial⟩
          · rw [← he, refsD_hit hg (of_decide_eq_true h2), e4]
          · simp only [List.length_append, List.length_singleton]
            omega
          · exact sle_of ⟨rfl, VLe.refl _, rfl, VLe.refl _, rfl, VLe.refl _, rfl, VLe.refl _, rfl, vle_int e4, trivial⟩ ⟨rfl, BLe.refl _, rfl, BLe.refl _, rfl, BLe.refl _, rfl, BLe.refl _, trivial⟩
          · rw [← he, refsD_miss hg (of_decide_eq_false h2), e4]
      · rw [h, bif_and] at hb
        have hg0 := of_decide_eq_false hb.symm
        have hg : ¬ ((n.toNat : Int) - (f : Int) < n ∧ c.length < 4) := fun g => hg0 ⟨g.1, by omega⟩
        rw [refsD_end hg] at he
        have e : drawM xs at_ n = (⟨drawK xs at_, drawV xs at_, drawS xs at_, 0, 0, [], c⟩, a) := by
          unfold drawM
          rw [if_neg hK, if_pos hK2, ← he]
        unfold ro99
        rw [e]
        exact ⟨VLe.refl _, ble_src (by show a = (drawM xs at_ n).2; rw [e]), ble_nilR _, BLe.refl _, trivial⟩
    · have hK : ¬ drawK xs at_ = 4 := beq_eq_false_iff_ne.1 hk
      have hK2 : ¬ drawK xs at_ = 5 := beq_eq_false_iff_ne.1 hk2
      have b3 := nextF_bd (h0.up 3 (by omega) (by omega)) 2
      have e : drawM xs at_ n = (⟨drawK xs at_, drawV xs at_, drawS xs at_, 1 + nextF xs (at_ + 3) 2, nextF xs (at_ + 4) 3, [], []⟩, at_ + 5) := by
        unfold drawM
        rw [if_neg hK, if_neg hK2]
      refine ⟨srcO (h0.up 3 (by omega) (by omega)), inK64 (by omega), srcO (h0.up 4 (by omega) (by omega)), ?_⟩
      unfold ro99
      rw [e]
      exact ⟨VLe.refl _, ble_src (by show at_ + 5 = (drawM xs at_ n).2; rw [e]), ble_nilR _, ble_nilR _, trivial⟩
  exact Eq.mp (by kernel_rfl) key
noncomputable def sp99 : FSpec := fun args bin => match args, bin with
  | [.oref i0 j0 o0, .int .i64 a1], [.box [v0, .int .i64 p0]] => some ((i0 = 0 ∧ j0 = 0 ∧ o0 = 0) ∧ VLe v0 (encL encY 1 (decL decY v0)) ∧ pr99 (decL decY v0) p0 a1, rs99 (decL decY v0) p0 a1, [.box [encL encY 1 (decL decY v0), .int .i64 (ra99 (decL decY v0) p0 a1)]] ++ rb99 (decL decY v0) p0 a1)
  | _, _ => none
theorem so99 : Sound Tryz.prog 99 sp99 := by
  refine sound_of_bodyO hmix (tpl := [(5, 3), (6, 1)]) Tryz.func99 rfl (by kernel_rfl) fun args bin ob r bout hDe hob => ?_
  unfold sp99 at hDe
  split at hDe
  · rename_i i0 j0 o0 a1 v0 p0
    cases hDe
    obtain ⟨⟨rfl, rfl, rfl⟩, h0, hpre⟩ := hob
    have hb := bd99 (decL decY v0) p0 a1 hpre
    exact ⟨Nat.le_of_ble_eq_true (by kernel_rfl), cx99 (decL decY v0) p0 a1, Eq.mp (by kernel_rfl) htt, Eq.mp (by kernel_rfl) da99, Eq.mp (by kernel_rfl) (noM_sound (P := Tryz.prog)), by kernel_rfl, [.oref 0 0 0, .int .i64 (a1)], [(.box [encL encY 1 (decL decY v0), .int .i64 p0])], args_of_vles (l' := [.oref 0 0 0, .int .i64 (a1)]) ⟨VLe.refl _, VLe.refl _, trivial⟩, ⟨ble_box ⟨h0, VLe.refl _, trivial⟩, trivial⟩, Eq.mp (by kernel_rfl) hb⟩
  · cases hDe

end Go.Av
