/- More messages that a source draws. -/
import Derived.Test.YtakcaanpnmkccaaGreatR2
namespace Go.Av
open Go.Proofs
set_option maxRecDepth 100000
set_option maxHeartbeats 2000000
set_option linter.unusedVariables false
set_option linter.unusedSimpArgs false

theorem bdL_short {l : List Msg} {n : Nat} (h : shortM n l) (hn : n ≤ 1000000) (hl : l.length ≤ 1000000) : bdL l :=
  ⟨by unfold maxLen; omega, fun x hx => ⟨by have := h x hx; unfold maxLen; omega, by have := h x hx; unfold maxLen; omega⟩⟩
theorem ble_pushE {α : Type} [Inhabited α] {enc : α → V} {sz te : Nat} {xs : List α} {x : α} {g : Nat → V} (h : ELe (g 0) (enc x)) :
    BLe (.arr sz (xs.length + 1) (appg xs.length (gL enc xs) g) te) (.arr sz (xs.length + 1) (gL enc (xs ++ [x])) te) := by
  refine ble_arr (fun i hi => ?_) (Or.inl rfl)
  simp only [appg, gL]
  by_cases e : i < xs.length
  · rw [if_pos e]
    have : (xs ++ [x]).getD i default = xs.getD i default := by simp [List.getElem?_append, e]
    rw [this]
    exact ELe.refl _
  · have e2 : i = xs.length := by omega
    subst e2
    rw [if_neg e, Nat.sub_self]
    have : (xs ++ [x]).getD xs.length default = x := by simp
    rw [this]
    exact h
theorem msgAt_neg (l : List Msg) (m : Msg) : msgAt l m < 0 ↔ ¬ m ∈ l := by
  have h : decide (0 ≤ msgAt l m) = l.any (fun x => decide (x = m)) := idxF_nonneg _ l
  rw [Bool.eq_iff_iff, decide_eq_true_eq, List.any_eq_true] at h
  constructor
  · intro g hm
    have := h.2 ⟨m, hm, by simp⟩
    omega
  · intro g
    refine Classical.byContradiction fun g2 => ?_
    obtain ⟨x, hx, e⟩ := h.1 (by omega)
    rw [of_decide_eq_true e] at hx
    exact g hx
theorem src0 {xs : List Int} {a : Int} : BLe (.box [encL encY 1 xs, .int .i64 a]) (.box [encL encY 0 xs, .int .i64 a]) := ble_box ⟨vle_sl_eq (fun _ _ => rfl) (Or.inr rfl), VLe.refl _, trivial⟩
theorem ele_bare (a b c d e : Int) : ELe (.agg [.int .i64 a, .int .i64 b, .int .i64 c, .int .i64 d, .int .i64 e, .nil, .nil]) (encMsg 1 ⟨a, b, c, d, e, [], []⟩) := ele_of ⟨PLe.refl _, PLe.refl _, PLe.refl _, PLe.refl _, PLe.refl _, ple_nil _ _, ple_nil _ _, trivial⟩

/-! ### spec.l8Bent -/
def pr83 (xs : List Int) (at_ : Int)  : Prop := okX xs at_ ∧ at_ ≤ 980000
noncomputable def ro83 (xs : List Int) (at_ : Int)  : Msg := (bentM xs at_).1
noncomputable def rs83 (xs : List Int) (at_ : Int)  : V := .agg [.int .i64 ((ro83 xs at_ ).kind), .int .i64 ((ro83 xs at_ ).view), .int .i64 ((ro83 xs at_ ).sender), .int .i64 ((ro83 xs at_ ).slot), .int .i64 ((ro83 xs at_ ).value), .osl 1 ((ro83 xs at_ ).certs).length, .osl 2 ((ro83 xs at_ ).refs).length]
noncomputable def rb83 (xs : List Int) (at_ : Int)  : List Blk := [(.arr 3 ((ro83 xs at_ ).certs).length (gL (encCert 1) ((ro83 xs at_ ).certs)) tagS), (.arr 1 ((ro83 xs at_ ).refs).length (gL encI ((ro83 xs at_ ).refs)) tagS)]
noncomputable def ra83 (xs : List Int) (at_ : Int)  : Int := (bentM xs at_).2
noncomputable def D83 : Nat → Option (Bool × FSpec) := lk [(59, (true, sp59)), (45, (true, sp45)), (99, (true, sp99))]
theorem da83 : SoundAll Tryz.prog D83 := soundAll_cons so59 (soundAll_cons so45 (soundAll_cons so99 (soundAll_nil)))
noncomputable def cx83 (xs : List Int) (at_ : Int)  : Cx := ⟨tt, D83, Tryz.f83.ntmps, [0, 2, 3, 7, 8, 14, 20, 26, 32, 38], [], [], fun _ => none, [], noM, []⟩
noncomputable def k83_0 (xs : List Int) : List Int := (decL decY (encL encY 1 (decL decY (encL encY 1 xs))))
noncomputable def k83_1 (xs : List Int) (at_ : Int) : Prop := (BLe (Blk.arr 1 (List.length (Msg.refs (ro99 (decL decY (encL encY 1 xs)) at_ (6 : Int)))) (gL encI (Msg.refs (ro99 (decL decY (encL encY 1 xs)) at_ (6 : Int)))) 100) (Blk.arr 1 (List.length (Msg.refs (ro83 xs at_))) (gL encI (Msg.refs (ro83 xs at_))) 100))
noncomputable def k83_2 (xs : List Int) (at_ : Int) : V := (V.agg [vi (Msg.kind (ro83 xs at_)), vi (Msg.view (ro83 xs at_)), vi (Msg.sender (ro83 xs at_)), vi (Msg.slot (ro83 xs at_)), vi (Msg.value (ro83 xs at_)), V.osl 1 (List.length (Msg.certs (ro83 xs at_))), V.osl 2 (List.length (Msg.refs (ro83 xs at_)))])
noncomputable def k83_3 (xs : List Int) (at_ : Int) : Prop := (BLe (Blk.arr 3 (List.length (Msg.certs (ro99 (decL decY (encL encY 1 xs)) at_ (6 : Int)))) (gL (encCert 1) (Msg.certs (ro99 (decL decY (encL encY 1 xs)) at_ (6 : Int)))) 100) (Blk.arr 3 (List.length (Msg.certs (ro83 xs at_))) (gL (encCert 1) (Msg.certs (ro83 xs at_))) 100))
noncomputable def k83_4 (xs : List Int) (at_ : Int) : Int := (ra99 (decL decY (encL encY 1 xs)) at_ (6 : Int))
noncomputable def k83_5 (xs : List Int) (at_ : Int) : Int := (ra59 (k83_0 xs) (k83_4 xs at_) (12 : Int))
noncomputable def k83_6 (xs : List Int) (at_ : Int) : Nat := (List.length (Msg.certs (ro99 (decL decY (encL encY 1 xs)) at_ (6 : Int))))
noncomputable def k83_7 (xs : List Int) (at_ : Int) : Nat := (List.length (Msg.refs (ro99 (decL decY (encL encY 1 xs)) at_ (6 : Int))))
noncomputable def k83_8 (xs : List Int) : Prop := (VLe (encL encY 1 (k83_0 xs)) (encL encY 1 (decL decY (encL encY 1 (k83_0 xs)))))
noncomputable def k83_9 (xs : List Int) (at_ : Int) : Blk := (Blk.box [encL encY 1 xs, vi (ra83 xs at_)])
theorem bd83 (xs : List Int) (at_ : Int)  (hpre : pr83 xs at_ ) : bodyO (cx83 xs at_ ) Tryz.f83 [(5, 3), (6, 1)] [.oref 0 0 0] [(.box [encL encY 1 xs, .int .i64 at_])] (fun rr bs => VLe rr (rs83 xs at_ ) ∧ BinLe bs [(.box [encL encY 1 xs, .int .i64 (ra83 xs at_ )]), (.arr 3 ((ro83 xs at_ ).certs).length (gL (encCert 1) ((ro83 xs at_ ).certs)) tagS), (.arr 1 ((ro83 xs at_ ).refs).length (gL encI ((ro83 xs at_ ).refs)) tagS)]) := by
  have key : ((((0 = 0) ∧ ((0 = 0) ∧ (0 = 0))) ∧ ((VLe (encL encY 1 xs) (encL encY 1 (decL decY (encL encY 1 xs)))) ∧ (pr99 (decL decY (encL encY 1 xs)) at_ (6 : Int)))) ∧ ((((0 = 0) ∧ ((0 = 0) ∧ (0 = 0))) ∧ ((VLe (encL encY 1 (decL decY (encL encY 1 xs))) (encL encY 1 (k83_0 xs))) ∧ (pr59 (k83_0 xs) (k83_4 xs at_) (12 : Int)))) ∧ ((((nextF (k83_0 xs) (k83_4 xs at_) (12 : Int) == (0 : Int)) = true) → ((((0 = 0) ∧ ((0 = 0) ∧ (0 = 0))) ∧ ((k83_8 xs) ∧ (((1 = 1) ∧ ((1 = 1) ∧ ((100 = 100) ∧ ((4 = 4) ∧ (∀ i : Nat, ((i < 4) → (ELe (vi (List.getD [(0 : Int), (1 : Int), (4 : Int), (6 : Int)] i (0 : Int))) (vi (intA (vi (List.getD [(0 : Int), (1 : Int), (4 : Int), (6 : Int)] i (0 : Int)))))))))))) ∧ (pr45 (decL decY (encL encY 1 (k83_0 xs))) (k83_5 xs at_) (List.map (fun (i : Nat) ↦ intA (vi (List.getD [(0 : Int), (1 : Int), (4 : Int), (6 : Int)] i (0 : Int)))) (List.range 4)))))) ∧ ((4 = 4) ∧ ((VLe (V.agg [vi (pickF (decL decY (encL encY 1 (k83_0 xs))) (k83_5 xs at_) (List.map (fun (i : Nat) ↦ intA (vi (List.getD [(0 : Int), (1 : Int), (4 : Int), (6 : Int)] i (0 : Int)))) (List.range 4))), vi (Msg.view (ro99 (decL decY (encL encY 1 xs)) at_ (6 : Int))), vi (Msg.sender (ro99 (decL decY (encL encY 1 xs)) at_ (6 : Int))), vi (Msg.slot (ro99 (decL decY (encL encY 1 xs)) at_ (6 : Int))), vi (Msg.value (ro99 (decL decY (encL encY 1 xs)) at_ (6 : Int))), V.osl 1 (k83_6 xs at_), V.osl 2 (k83_7 xs at_)]) (k83_2 xs at_)) ∧ ((BLe (Blk.box [encL encY 1 (decL decY (encL encY 1 (k83_0 xs))), vi (ra45 (decL decY (encL encY 1 (k83_0 xs))) (k83_5 xs at_) (List.map (fun (i : Nat) ↦ intA (vi (List.getD [(0 : Int), (1 : Int), (4 : Int), (6 : Int)] i (0 : Int)))) (List.range 4)))]) (k83_9 xs at_)) ∧ ((k83_3 xs at_) ∧ ((k83_1 xs at_) ∧ (True)))))))) ∧ (((nextF (k83_0 xs) (k83_4 xs at_) (12 : Int) == (0 : Int)) = false) → ((((nextF (k83_0 xs) (k83_4 xs at_) (12 : Int) == (1 : Int)) = true) → ((((0 = 0) ∧ ((0 = 0) ∧ (0 = 0))) ∧ ((k83_8 xs) ∧ (((1 = 1) ∧ ((1 = 1) ∧ ((100 = 100) ∧ ((3 = 3) ∧ (∀ i : Nat, ((i < 3) → (ELe (vi (List.getD [(-1 : Int), (20 : Int), (21 : Int)] i (0 : Int))) (vi (intA (vi (List.getD [(-1 : Int), (20 : Int), (21 : Int)] i (0 : Int)))))))))))) ∧ (pr45 (decL decY (encL encY 1 (k83_0 xs))) (k83_5 xs at_) (List.map (fun (i : Nat) ↦ intA (vi (List.getD [(-1 : Int), (20 : Int), (21 : Int)] i (0 : Int)))) (List.range 3)))))) ∧ ((3 = 3) ∧ ((VLe (V.agg [vi (Msg.kind (ro99 (decL decY (encL encY 1 xs)) at_ (6 : Int))), vi (pickF (decL decY (encL encY 1 (k83_0 xs))) (k83_5 xs at_) (List.map (fun (i : Nat) ↦ intA (vi (List.getD [(-1 : Int), (20 : Int), (21 : Int)] i (0 : Int)))) (List.range 3))), vi (Msg.sender (ro99 (decL decY (encL encY 1 xs)) at_ (6 : Int))), vi (Msg.slot (ro99 (decL decY (encL encY 1 xs)) at_ (6 : Int))), vi (Msg.value (ro99 (decL decY (encL encY 1 xs)) at_ (6 : Int))), V.osl 1 (k83_6 xs at_), V.osl 2 (k83_7 xs at_)]) (k83_2 xs at_)) ∧ ((BLe (Blk.box [encL encY 1 (decL decY (encL encY 1 (k83_0 xs))), vi (ra45 (decL decY (encL encY 1 (k83_0 xs))) (k83_5 xs at_) (List.map (fun (i : Nat) ↦ intA (vi (List.getD [(-1 : Int), (20 : Int), (21 : Int)] i (0 : Int)))) (List.range 3)))]) (k83_9 xs at_)) ∧ ((k83_3 xs at_) ∧ ((k83_1 xs at_) ∧ (True)))))))) ∧ (((nextF (k83_0 xs) (k83_4 xs at_) (12 : Int) == (1 : Int)) = false) → ((((nextF (k83_0 xs) (k83_4 xs at_) (12 : Int) == (2 : Int)) = true) → ((((0 = 0) ∧ ((0 = 0) ∧ (0 = 0))) ∧ ((k83_8 xs) ∧ (((1 = 1) ∧ ((1 = 1) ∧ ((100 = 100) ∧ ((4 = 4) ∧ (∀ i : Nat, ((i < 4) → (ELe (vi (List.getD [(0 : Int), (4 : Int), (7 : Int), (8 : Int)] i (0 : Int))) (vi (intA (vi (List.getD [(0 : Int), (4 : Int), (7 : Int), (8 : Int)] i (0 : Int)))))))))))) ∧ (pr45 (decL decY (encL encY 1 (k83_0 xs))) (k83_5 xs at_) (List.map (fun (i : Nat) ↦ intA (vi (List.getD [(0 : Int), (4 : Int), (7 : Int), (8 : Int)] i (0 : Int)))) (List.range 4)))))) ∧ ((4 = 4) ∧ ((VLe (V.agg [vi (Msg.kind (ro99 (decL decY (encL encY 1 xs)) at_ (6 : Int))), vi (Msg.view (ro99 (decL decY (encL encY 1 xs)) at_ (6 : Int))), vi (pickF (decL decY (encL encY 1 (k83_0 xs))) (k83_5 xs at_) (List.map (fun (i : Nat) ↦ intA (vi (List.getD [(0 : Int), (4 : Int), (7 : Int), (8 : Int)] i (0 : Int)))) (List.range 4))), vi (Msg.slot (ro99 (decL decY (encL encY 1 xs)) at_ (6 : Int))), vi (Msg.value (ro99 (decL decY (encL encY 1 xs)) at_ (6 : Int))), V.osl 1 (k83_6 xs at_), V.osl 2 (k83_7 xs at_)]) (k83_2 xs at_)) ∧ ((BLe (Blk.box [encL encY 1 (decL decY (encL encY 1 (k83_0 xs))), vi (ra45 (decL decY (encL encY 1 (k83_0 xs))) (k83_5 xs at_) (List.map (fun (i : Nat) ↦ intA (vi (List.getD [(0 : Int), (4 : Int), (7 : Int), (8 : Int)] i (0 : Int)))) (List.range 4)))]) (k83_9 xs at_)) ∧ ((k83_3 xs at_) ∧ ((k83_1 xs at_) ∧ (True)))))))) ∧ (((nextF (k83_0 xs) (k83_4 xs at_) (12 : Int) == (2 : Int)) = false) → ((((nextF (k83_0 xs) (k83_4 xs at_) (12 : Int) == (3 : Int)) = true) → ((((0 = 0) ∧ ((0 = 0) ∧ (0 = 0))) ∧ ((k83_8 xs) ∧ (((1 = 1) ∧ ((1 = 1) ∧ ((100 = 100) ∧ ((3 = 3) ∧ (∀ i : Nat, ((i < 3) → (ELe (vi (List.getD [(0 : Int), (30 : Int), (31 : Int)] i (0 : Int))) (vi (intA (vi (List.getD [(0 : Int), (30 : Int), (31 : Int)] i (0 : Int)))))))))))) ∧ (pr45 (decL decY (encL encY 1 (k83_0 xs))) (k83_5 xs at_) (List.map (fun (i : Nat) ↦ intA (vi (List.getD [(0 : Int), (30 : Int), (31 : Int)] i (0 : Int)))) (List.range 3)))))) ∧ ((3 = 3) ∧ ((VLe (V.agg [vi (Msg.kind (ro99 (decL decY (encL encY 1 xs)) at_ (6 : Int))), vi (Msg.view (ro99 (decL decY (encL encY 1 xs)) at_ (6 : Int))), vi (Msg.sender (ro99 (decL decY (encL encY 1 xs)) at_ (6 : Int))), vi (pickF (decL decY (encL encY 1 (k83_0 xs))) (k83_5 xs at_) (List.map (fun (i : Nat) ↦ intA (vi (List.getD [(0 : Int), (30 : Int), (31 : Int)] i (0 : Int)))) (List.range 3))), vi (Msg.value (ro99 (decL decY (encL encY 1 xs)) at_ (6 : Int))), V.osl 1 (k83_6 xs at_), V.osl 2 (k83_7 xs at_)]) (k83_2 xs at_)) ∧ ((BLe (Blk.box [encL encY 1 (decL decY (encL encY 1 (k83_0 xs))), vi (ra45 (decL decY (encL encY 1 (k83_0 xs))) (k83_5 xs at_) (List.map (fun (i : Nat) ↦ intA (vi (List.getD [(0 : Int), (30 : Int), (31 : Int)] i (0 : Int)))) (List.range 3)))]) (k83_9 xs at_)) ∧ ((k83_3 xs at_) ∧ ((k83_1 xs at_) ∧ (True)))))))) ∧ (((nextF (k83_0 xs) (k83_4 xs at_) (12 : Int) == (3 : Int)) = false) → ((((nextF (k83_0 xs) (k83_4 xs at_) (12 : Int) == (4 : Int)) = true) → ((((0 = 0) ∧ ((0 = 0) ∧ (0 = 0))) ∧ ((k83_8 xs) ∧ (((1 = 1) ∧ ((1 = 1) ∧ ((100 = 100) ∧ ((3 = 3) ∧ (∀ i : Nat, ((i < 3) → (ELe (vi (List.getD [(-1 : Int), (12 : Int), (13 : Int)] i (0 : Int))) (vi (intA (vi (List.getD [(-1 : Int), (12 : Int), (13 : Int)] i (0 : Int)))))))))))) ∧ (pr45 (decL decY (encL encY 1 (k83_0 xs))) (k83_5 xs at_) (List.map (fun (i : Nat) ↦ intA (vi (List.getD [(-1 : Int), (12 : Int), (13 : Int)] i (0 : Int)))) (List.range 3)))))) ∧ ((3 = 3) ∧ ((VLe (V.agg [vi (Msg.kind (ro99 (decL decY (encL encY 1 xs)) at_ (6 : Int))), vi (Msg.view (ro99 (decL decY (encL encY 1 xs)) at_ (6 : Int))), vi (Msg.sender (ro99 (decL decY (encL encY 1 xs)) at_ (6 : Int))), vi (Msg.slot (ro99 (decL decY (encL encY 1 xs)) at_ (6 : Int))), vi (pickF (decL decY (encL encY 1 (k83_0 xs))) (k83_5 xs at_) (List.map (fun (i : Nat) ↦ intA (vi (List.getD [(-1 : Int), (12 : Int), (13 : Int)] i (0 : Int)))) (List.range 3))), V.osl 1 (k83_6 xs at_), V.osl 2 (k83_7 xs at_)]) (k83_2 xs at_)) ∧ ((BLe (Blk.box [encL encY 1 (decL decY (encL encY 1 (k83_0 xs))), vi (ra45 (decL decY (encL encY 1 (k83_0 xs))) (k83_5 xs at_) (List.map (fun (i : Nat) ↦ intA (vi (List.getD [(-1 : Int), (12 : Int), (13 : Int)] i (0 : Int)))) (List.range 3)))]) (k83_9 xs at_)) ∧ ((k83_3 xs at_) ∧ ((k83_1 xs at_) ∧ (True)))))))) ∧ (((nextF (k83_0 xs) (k83_4 xs at_) (12 : Int) == (4 : Int)) = false) → ((((nextF (k83_0 xs) (k83_4 xs at_) (12 : Int) == (5 : Int)) = true) → ((List.length (Msg.certs (ro99 (decL decY (encL encY 1 xs)) at_ (6 : Int))) = List.length (Msg.certs (ro99 (decL decY (encL encY 1 xs)) at_ (6 : Int)))) ∧ ((List.length (Msg.certs (ro99 (decL decY (encL encY 1 xs)) at_ (6 : Int))) + 1 ≤ 1073741824) ∧ ((sizedL 3 1 (rowg [V.agg [vi (1 : Int), vi (0 : Int), vi (1 : Int)]])) ∧ ((VLe (V.agg [vi (Msg.kind (ro99 (decL decY (encL encY 1 xs)) at_ (6 : Int))), vi (Msg.view (ro99 (decL decY (encL encY 1 xs)) at_ (6 : Int))), vi (Msg.sender (ro99 (decL decY (encL encY 1 xs)) at_ (6 : Int))), vi (Msg.slot (ro99 (decL decY (encL encY 1 xs)) at_ (6 : Int))), vi (Msg.value (ro99 (decL decY (encL encY 1 xs)) at_ (6 : Int))), V.osl 1 (List.length (Msg.certs (ro99 (decL decY (encL encY 1 xs)) at_ (6 : Int))) + 1), V.osl 2 (k83_7 xs at_)]) (k83_2 xs at_)) ∧ ((BLe (Blk.box [encL encY 1 (k83_0 xs), vi (k83_5 xs at_)]) (k83_9 xs at_)) ∧ ((BLe (Blk.arr 3 (List.length (Msg.certs (ro99 (decL decY (encL encY 1 xs)) at_ (6 : Int))) + 1) (appg (k83_6 xs at_) (gL (encCert 1) (Msg.certs (ro99 (decL decY (encL encY 1 xs)) at_ (6 : Int)))) (rowg [V.agg [vi (1 : Int), vi (0 : Int), vi (1 : Int)]])) 100) (Blk.arr 3 (List.length (Msg.certs (ro83 xs at_))) (gL (encCert 1) (Msg.certs (ro83 xs at_))) 100)) ∧ ((k83_1 xs at_) ∧ (True))))))))) ∧ (((nextF (k83_0 xs) (k83_4 xs at_) (12 : Int) == (5 : Int)) = false) → ((VLe (V.agg [vi (Msg.kind (ro99 (decL decY (encL encY 1 xs)) at_ (6 : Int))), vi (Msg.view (ro99 (decL decY (encL encY 1 xs)) at_ (6 : Int))), vi (Msg.sender (ro99 (decL decY (encL encY 1 xs)) at_ (6 : Int))), vi (Msg.slot (ro99 (decL decY (encL encY 1 xs)) at_ (6 : Int))), vi (Msg.value (ro99 (decL decY (encL encY 1 xs)) at_ (6 : Int))), V.osl 1 (k83_6 xs at_), V.osl 2 (k83_7 xs at_)]) (k83_2 xs at_)) ∧ ((BLe (Blk.box [encL encY 1 (k83_0 xs), vi (k83_5 xs at_)]) (k83_9 xs at_)) ∧ ((k83_3 xs at_) ∧ ((k83_1 xs at_) ∧ (True))))))))))))))))))) := by
    delta k83_9; delta k83_8; delta k83_7; delta k83_6; delta k83_5; delta k83_4; delta k83_3; delta k83_2; delta k83_1; delta k83_0; delta vi
    obtain ⟨h0, h1⟩ := hpre
    have h3 := h0.2.2.1
    have hd := drawM_bd xs at_ 6
    have e6 : (6 : Int).toNat = 6 := rfl
    rw [e6] at hd
    simp only [decL_bytes, pk0, pk1, pk2, pk3, pk4, ra99, ra45, ra59, Int.add_assoc, Int.reduceAdd]
    have q1 := nextF_bd (h0.to (b := (drawM xs at_ 6).2) (by omega) (by omega)) 12
    have a1 : okX xs (drawM xs at_ 6).2 := h0.to (by omega) (by omega)
    have a2 : okX xs ((drawM xs at_ 6).2 + 1) := h0.to (by omega) (by omega)
    have st : ∀ (j : Int) (m : Msg) (b : Int), bentM xs at_ = (m, b) → ro83 xs at_ = m ∧ b = ra83 xs at_ := fun j m b e => by
      unfold ro83 ra83
      rw [e]
      exact ⟨rfl, rfl⟩
    have ed : ro99 xs at_ 6 = (drawM xs at_ 6).1 := rfl
    rw [ed]
    refine ⟨srcO ⟨h0, by omega, by decide⟩, srcO a1, fun c0 => ?_, fun c0 => ⟨fun c1 => ?_, fun c1 => ⟨fun c2 => ?_, fun c2 => ⟨fun c3 => ?_, fun c3 => ⟨fun c4 => ?_, fun c4 => ⟨fun c5 => ?_, fun c5 => ?_⟩⟩⟩⟩⟩⟩
    · obtain ⟨e1, e2⟩ := st 0 _ _ (if_pos (eq_of_beq c0))
      rw [e1]
      exact ⟨pickO ⟨a2, by decide, by decide⟩, trivial, VLe.refl _, ble_src e2, BLe.refl _, BLe.refl _, trivial⟩
    · obtain ⟨e1, e2⟩ := st 0 _ _ ((if_neg (beq_eq_false_iff_ne.1 c0)).trans (if_pos (eq_of_beq c1)))
      rw [e1]
      exact ⟨pickO ⟨a2, by decide, by decide⟩, trivial, VLe.refl _, ble_src e2, BLe.refl _, BLe.refl _, trivial⟩
    · obtain ⟨e1, e2⟩ := st 0 _ _ ((if_neg (beq_eq_false_iff_ne.1 c0)).trans ((if_neg (beq_eq_false_iff_ne.1 c1)).trans (if_pos (eq_of_beq c2))))
      rw [e1]
      exact ⟨pickO ⟨a2, by decide, by decide⟩, trivial, VLe.refl _, ble_src e2, BLe.refl _, BLe.refl _, trivial⟩
    · obtain ⟨e1, e2⟩ := st 0 _ _ ((if_neg (beq_eq_false_iff_ne.1 c0)).trans ((if_neg (beq_eq_false_iff_ne.1 c1)).trans ((if_neg (beq_eq_false_iff_ne.1 c2)).trans (if_pos (eq_of_beq c3)))))
      rw [e1]
      exact ⟨pickO ⟨a2, by decide, by decide⟩, trivial, VLe.refl _, ble_src e2, BLe.refl _, BLe.refl _, trivial⟩
    · obtain ⟨e1, e2⟩ := st 0 _ _ ((if_neg (beq_eq_false_iff_ne.1 c0)).trans ((if_neg (beq_eq_false_iff_ne.1 c1)).trans ((if_neg (beq_eq_false_iff_ne.1 c2)).trans ((if_neg (beq_eq_false_iff_ne.1 c3)).trans (if_pos (eq_of_beq c4))))))
      rw [e1]
      exact ⟨pickO ⟨a2, by decide, by decide⟩, trivial, VLe.refl _, ble_src e2, BLe.refl _, BLe.refl _, trivial⟩
    · obtain ⟨e1, e2⟩ := st 0 _ _ ((if_neg (beq_eq_false_iff_ne.1 c0)).trans ((if_neg (beq_eq_false_iff_ne.1 c1)).trans ((if_neg (beq_eq_false_iff_ne.1 c2)).trans ((if_neg (beq_eq_false_iff_ne.1 c3)).trans ((if_neg (beq_eq_false_iff_ne.1 c4)).trans (if_pos (eq_of_beq c5)))))))
      rw [e1]
      simp only [List.length_append, List.length_singleton]
      exact ⟨trivial, by omega, sizedL_agg rfl rfl, VLe.refl _, ble_src e2, ble_push rfl rfl, BLe.refl _, trivial⟩
    · obtain ⟨e1, e2⟩ := st 0 _ _ ((if_neg (beq_eq_false_iff_ne.1 c0)).trans ((if_neg (beq_eq_false_iff_ne.1 c1)).trans ((if_neg (beq_eq_false_iff_ne.1 c2)).trans ((if_neg (beq_eq_false_iff_ne.1 c3)).trans ((if_neg (beq_eq_false_iff_ne.1 c4)).trans (if_neg (beq_eq_false_iff_ne.1 c5)))))))
      rw [e1]
      exact ⟨VLe.refl _, ble_src e2, BLe.refl _, BLe.refl _, trivial⟩
  exact Eq.mp (by kernel_rfl) key
noncomputable def sp83 : FSpec := fun args bin => match args, bin with
  | [.oref i0 j0 o0], [.box [v0, .int .i64 p0]] => some ((i0 = 0 ∧ j0 = 0 ∧ o0 = 0) ∧ VLe v0 (encL encY 1 (decL decY v0)) ∧ pr83 (decL decY v0) p0, rs83 (decL decY v0) p0, [.box [encL encY 1 (decL decY v0), .int .i64 (ra83 (decL decY v0) p0)]] ++ rb83 (decL decY v0) p0)
  | _, _ => none
theorem so83 : Sound Tryz.prog 83 sp83 := by
  refine sound_of_bodyO hmix (tpl := [(5, 3), (6, 1)]) Tryz.func83 rfl (by kernel_rfl) fun args bin ob r bout hDe hob => ?_
  unfold sp83 at hDe
  split at hDe
  · rename_i i0 j0 o0 v0 p0
    cases hDe
    obtain ⟨⟨rfl, rfl, rfl⟩, h0, hpre⟩ := hob
    have hb := bd83 (decL decY v0) p0 hpre
    exact ⟨Nat.le_of_ble_eq_true (by kernel_rfl), cx83 (decL decY v0) p0, Eq.mp (by kernel_rfl) htt, Eq.mp (by kernel_rfl) da83, Eq.mp (by kernel_rfl) (noM_sound (P := Tryz.prog)), by kernel_rfl, [.oref 0 0 0], [(.box [encL encY 1 (decL decY v0), .int .i64 p0])], args_of_vles (l' := [.oref 0 0 0]) ⟨VLe.refl _, trivial⟩, ⟨ble_box ⟨h0, VLe.refl _, trivial⟩, trivial⟩, Eq.mp (by kernel_rfl) hb⟩
  · cases hDe

/-! ### spec.l8Many -/
def pr82 (xs : List Int) (at_ : Int)  : Prop := okX xs at_ ∧ at_ ≤ 980000
noncomputable def ro82 (xs : List Int) (at_ : Int)  : List Msg := (manyD xs (nextF xs at_ 16).toNat (at_ + 1) []).1
noncomputable def rs82 (xs : List Int) (at_ : Int)  : V := .osl 1 (ro82 xs at_ ).length
noncomputable def rb82 (xs : List Int) (at_ : Int)  : List Blk := [(.arr 7 (ro82 xs at_ ).length (gL (encMsg 1) (ro82 xs at_ )) 2)]
noncomputable def ra82 (xs : List Int) (at_ : Int)  : Int := (manyD xs (nextF xs at_ 16).toNat (at_ + 1) []).2
noncomputable def in82_3 (xs : List Int) (at_ : Int)  : LoopInv :=
  ⟨Nat × Int × List Msg, fun p => ⟨[(0, .oref 0 0 0), (3, .osl (canonT 3) p.2.2.length), (4, .int .i64 p.1)], [(canonT 3, .arr 7 p.2.2.length (gL (encMsg 1) p.2.2) 2), (0, .box [encL encY 0 xs, .int .i64 p.2.1])]⟩,
    fun p => manyD xs p.1 p.2.1 p.2.2 = manyD xs (nextF xs at_ 16).toNat (at_ + 1) [] ∧ at_ + 1 ≤ p.2.1 ∧ p.2.1 ≤ at_ + 1 + 112 * (15 - p.1) ∧ p.2.2.length + p.1 ≤ 15 ∧ shortM 100 p.2.2, fun p => p.1⟩
noncomputable def iv82 (xs : List Int) (at_ : Int)  : Nat → Option LoopInv := fun k0 => match k0 with
  | 3 => some (in82_3 xs at_ )
  | _ => none
noncomputable def D82 : Nat → Option (Bool × FSpec) := lk [(59, (true, sp59)), (99, (true, sp99)), (91, (false, sp91))]
theorem da82 : SoundAll Tryz.prog D82 := soundAll_cons so59 (soundAll_cons so99 (soundAll_cons so91 (soundAll_nil)))
noncomputable def cx82 (xs : List Int) (at_ : Int)  : Cx := ⟨tt, D82, Tryz.f82.ntmps, [0, 2, 3, 4, 5, 10, 19], [(3, ⟨[(0, none), (3, some 7), (4, none)], [(0, [])]⟩)], [], iv82 xs at_ , [], noM, []⟩
noncomputable def k82_0 (xs : List Int) (x : Nat × Int × List Msg) : V := (encPMsg 1 (ro99 (decL decY (encL encY 1 xs)) x.2.1 (↑(List.length x.2.2) : Int)))
noncomputable def k82_1 (xs : List Int) (y : Nat × Int × List Msg) : AS := (AS.mk [(0, V.oref 0 0 0), (3, V.osl 32000256 (List.length y.2.2)), (4, vi (↑y.1 : Int))] [(32000256, Blk.arr 7 (List.length y.2.2) (gL (encMsg 1) y.2.2) 2), (0, Blk.box [encL encY 0 xs, vi y.2.1])])
theorem bd82 (xs : List Int) (at_ : Int)  (hpre : pr82 xs at_ ) : bodyO (cx82 xs at_ ) Tryz.f82 [(0, 7)] [.oref 0 0 0] [(.box [encL encY 1 xs, .int .i64 at_])] (fun rr bs => VLe rr (rs82 xs at_ ) ∧ BinLe bs [(.box [encL encY 1 xs, .int .i64 (ra82 xs at_ )]), (.arr 7 (ro82 xs at_ ).length (gL (encMsg 1) (ro82 xs at_ )) 2)]) := by
  have key : ((((0 = 0) ∧ ((0 = 0) ∧ (0 = 0))) ∧ ((VLe (encL encY 1 xs) (encL encY 1 (decL decY (encL encY 1 xs)))) ∧ (pr59 (decL decY (encL encY 1 xs)) at_ (16 : Int)))) ∧ ((∃ x : Nat × Int × List Msg, ((SLe (AS.mk [(0, V.oref 0 0 0), (3, V.osl 32000256 0), (4, vi (nextF (decL decY (encL encY 1 xs)) at_ (16 : Int)))] [(32000256, Blk.arr 7 0 (rowg []) 2), (0, Blk.box [encL encY 0 (decL decY (encL encY 1 xs)), vi (ra59 (decL decY (encL encY 1 xs)) at_ (16 : Int))])]) (AS.mk [(0, V.oref 0 0 0), (3, V.osl 32000256 (List.length x.2.2)), (4, vi (↑x.1 : Int))] [(32000256, Blk.arr 7 (List.length x.2.2) (gL (encMsg 1) x.2.2) 2), (0, Blk.box [encL encY 0 xs, vi x.2.1])])) ∧ ((manyD xs x.1 x.2.1 x.2.2 = manyD xs (Int.toNat (nextF xs at_ (16 : Int))) (at_ + (1 : Int)) []) ∧ ((at_ + (1 : Int) ≤ Prod.fst x.2) ∧ ((Prod.fst x.2 ≤ at_ + (1 : Int) + (112 : Int) * ((15 : Int) - (↑x.1 : Int))) ∧ ((List.length x.2.2 + Prod.fst x ≤ 15) ∧ (shortM 100 x.2.2))))))) ∧ (∀ x : Nat × Int × List Msg, (((manyD xs x.1 x.2.1 x.2.2 = manyD xs (Int.toNat (nextF xs at_ (16 : Int))) (at_ + (1 : Int)) []) ∧ ((at_ + (1 : Int) ≤ Prod.fst x.2) ∧ ((Prod.fst x.2 ≤ at_ + (1 : Int) + (112 : Int) * ((15 : Int) - (↑x.1 : Int))) ∧ ((List.length x.2.2 + Prod.fst x ≤ 15) ∧ (shortM 100 x.2.2))))) → (((decide ((↑x.1 : Int) > (0 : Int)) = true) → ((((0 = 0) ∧ ((0 = 0) ∧ (0 = 0))) ∧ ((VLe (encL encY 1 xs) (encL encY 1 (decL decY (encL encY 1 xs)))) ∧ (pr99 (decL decY (encL encY 1 xs)) x.2.1 (↑(List.length x.2.2) : Int)))) ∧ (((VLe (encL (encMsg 1) 1 x.2.2) (encL (encMsg 1) 1 (decL decMsg (encL (encMsg 1) 1 x.2.2)))) ∧ ((VLe (k82_0 xs x) (encPMsg 1 (decPMsg (k82_0 xs x)))) ∧ (pr91 (decL decMsg (encL (encMsg 1) 1 x.2.2)) (decPMsg (k82_0 xs x))))) ∧ (((decide (msgAt (decL decMsg (encL (encMsg 1) 1 x.2.2)) (decPMsg (k82_0 xs x)) < (0 : Int)) = true) → ((List.length x.2.2 = List.length x.2.2) ∧ ((List.length x.2.2 + 1 ≤ 1073741824) ∧ ((sizedL 7 1 (rowg [encMsg 2 (ro99 (decL decY (encL encY 1 xs)) x.2.1 (↑(List.length x.2.2) : Int))])) ∧ ((inK IntKind.i64 ((↑x.1 : Int) - (1 : Int))) ∧ (∃ y : Nat × Int × List Msg, ((SLe (AS.mk [(0, V.oref 0 0 0), (3, V.osl 32000256 (List.length x.2.2 + 1)), (4, vi ((↑x.1 : Int) - (1 : Int)))] [(32000256, Blk.arr 7 (List.length x.2.2 + 1) (appg (List.length x.2.2) (gL (encMsg 1) x.2.2) (rowg [encMsg 2 (ro99 (decL decY (encL encY 1 xs)) x.2.1 (↑(List.length x.2.2) : Int))])) 2), (0, Blk.box [encL encY 0 (decL decY (encL encY 1 xs)), vi (ra99 (decL decY (encL encY 1 xs)) x.2.1 (↑(List.length x.2.2) : Int))])]) (k82_1 xs y)) ∧ (((manyD xs y.1 y.2.1 y.2.2 = manyD xs (Int.toNat (nextF xs at_ (16 : Int))) (at_ + (1 : Int)) []) ∧ ((at_ + (1 : Int) ≤ Prod.fst y.2) ∧ ((Prod.fst y.2 ≤ at_ + (1 : Int) + (112 : Int) * ((15 : Int) - (↑y.1 : Int))) ∧ ((List.length y.2.2 + Prod.fst y ≤ 15) ∧ (shortM 100 y.2.2))))) ∧ (Prod.fst y < Prod.fst x))))))))) ∧ ((decide (msgAt (decL decMsg (encL (encMsg 1) 1 x.2.2)) (decPMsg (k82_0 xs x)) < (0 : Int)) = false) → ((inK IntKind.i64 ((↑x.1 : Int) - (1 : Int))) ∧ (∃ y : Nat × Int × List Msg, ((SLe (AS.mk [(0, V.oref 0 0 0), (3, V.osl 32000256 (List.length x.2.2)), (4, vi ((↑x.1 : Int) - (1 : Int)))] [(32000256, Blk.arr 7 (List.length x.2.2) (gL (encMsg 1) x.2.2) 2), (0, Blk.box [encL encY 0 (decL decY (encL encY 1 xs)), vi (ra99 (decL decY (encL encY 1 xs)) x.2.1 (↑(List.length x.2.2) : Int))])]) (k82_1 xs y)) ∧ (((manyD xs y.1 y.2.1 y.2.2 = manyD xs (Int.toNat (nextF xs at_ (16 : Int))) (at_ + (1 : Int)) []) ∧ ((at_ + (1 : Int) ≤ Prod.fst y.2) ∧ ((Prod.fst y.2 ≤ at_ + (1 : Int) + (112 : Int) * ((15 : Int) - (↑y.1 : Int))) ∧ ((List.length y.2.2 + Prod.fst y ≤ 15) ∧ (shortM 100 y.2.2))))) ∧ (Prod.fst y < Prod.fst x)))))))))) ∧ ((decide ((↑x.1 : Int) > (0 : Int)) = false) → ((VLe (V.osl 1 (List.length x.2.2)) (V.osl 1 (List.length (ro82 xs at_)))) ∧ ((BLe (Blk.box [encL encY 1 xs, vi x.2.1]) (Blk.box [encL encY 1 xs, vi (ra82 xs at_)])) ∧ ((BLe (Blk.arr 7 (List.length x.2.2) (gL (encMsg 1) x.2.2) 2) (Blk.arr 7 (List.length (ro82 xs at_)) (gL (encMsg 1) (ro82 xs at_)) 2)) ∧ (True)))))))))) := by
    delta k82_1; delta k82_0; delta vi
    obtain ⟨h0, h1⟩ := hpre
    have h3 := h0.2.2.1
    have n1 := nextF_bd h0 16
    simp only [decL_bytes, decL_Msg, dec_encPMsg, ra99, ra59, Int.add_assoc, Int.reduceAdd]
    have en : nextF xs at_ 16 = ((nextF xs at_ 16).toNat : Int) := by omega
    refine ⟨srcO h0, ⟨((nextF xs at_ 16).toNat, at_ + 1, []), sle_of ⟨rfl, VLe.refl _, rfl, VLe.refl _, rfl, vle_int en, trivial⟩ ⟨rfl, ble_nilR _, rfl, BLe.refl _, trivial⟩, rfl, by simp only; omega, by simp only; omega, by simp only [List.length_nil]; omega, shortM_nil _⟩, ?_⟩
    rintro ⟨f, a, l⟩ ⟨he, h4, h5, h6, h7⟩
    simp only at he h4 h5 h6 h7 ⊢
    refine ⟨fun h => ?_, fun h => ?_⟩
    · cases f with
      | zero => simp at h
      | succ f =>
        have hd := drawM_bd xs a l.length
        rw [Int.toNat_natCast] at hd
        have ed : ro99 xs a l.length = (drawM xs a l.length).1 := rfl
        have ef : ((f + 1 : Nat) : Int) - 1 = f := by omega
        rw [ed]
        refine ⟨srcO ⟨h0.to (by omega) (by omega), by omega, by omega⟩, ⟨VLe.refl _, VLe.refl _, bdL_short h7 (by omega) (by omega)⟩, fun h2 => ⟨trivial, by omega, ?_, inK64 (by omega), (f, (drawM xs a l.length).2, l ++ [(drawM xs a l.length).1]), ?_, ⟨?_, by simp only; omega, by simp only; omega, ?_, h7.app (by omega) (by omega)⟩, by simp only; omega⟩, fun h2 => ⟨inK64 (by omega), (f, (drawM xs a l.length).2, l), ?_, ⟨?_, by simp only; omega, by simp only; omega, by simp only; omega, h7⟩, by simp only; omega⟩⟩
        · intro k hk
          have : k = 0 := by omega
          subst this
          exact ⟨rfl, rfl⟩
        · simp only [List.length_append, List.length_singleton]
          exact sle_of ⟨rfl, VLe.refl _, rfl, VLe.refl _, rfl, vle_int ef, trivial⟩ ⟨rfl, ble_pushE (ele_Msg 2 1 _), rfl, BLe.refl _, trivial⟩
        · have hm := (msgAt_neg _ _).1 (of_decide_eq_true h2)
          rw [← he, manyD, if_neg hm]
        · simp only [List.length_append, List.length_singleton]
          omega
        · exact sle_of ⟨rfl, VLe.refl _, rfl, VLe.refl _, rfl, vle_int ef, trivial⟩ ⟨rfl, BLe.refl _, rfl, BLe.refl _, trivial⟩
        · have hm : (drawM xs a l.length).1 ∈ l := Classical.byContradiction fun g => of_decide_eq_false h2 ((msgAt_neg _ _).2 g)
          rw [← he, manyD, if_pos hm]
    · have hf : f = 0 := by simp at h; omega
      subst hf
      have e : manyD xs (nextF xs at_ 16).toNat (at_ + 1) [] = (l, a) := he.symm
      have e1 : ro82 xs at_ = l := by
        show (manyD xs (nextF xs at_ 16).toNat (at_ + 1) []).1 = l
        rw [e]
      rw [e1]
      exact ⟨VLe.refl _, ble_src (by show a = (manyD xs (nextF xs at_ 16).toNat (at_ + 1) []).2; rw [e]), BLe.refl _, trivial⟩
  exact Eq.mp (by kernel_rfl) key
noncomputable def sp82 : FSpec := fun args bin => match args, bin with
  | [.oref i0 j0 o0], [.box [v0, .int .i64 p0]] => some ((i0 = 0 ∧ j0 = 0 ∧ o0 = 0) ∧ VLe v0 (encL encY 1 (decL decY v0)) ∧ pr82 (decL decY v0) p0, rs82 (decL decY v0) p0, [.box [encL encY 1 (decL decY v0), .int .i64 (ra82 (decL decY v0) p0)]] ++ rb82 (decL decY v0) p0)
  | _, _ => none
theorem so82 : Sound Tryz.prog 82 sp82 := by
  refine sound_of_bodyO hmix (tpl := [(0, 7)]) Tryz.func82 rfl (by kernel_rfl) fun args bin ob r bout hDe hob => ?_
  unfold sp82 at hDe
  split at hDe
  · rename_i i0 j0 o0 v0 p0
    cases hDe
    obtain ⟨⟨rfl, rfl, rfl⟩, h0, hpre⟩ := hob
    have hb := bd82 (decL decY v0) p0 hpre
    exact ⟨Nat.le_of_ble_eq_true (by kernel_rfl), cx82 (decL decY v0) p0, Eq.mp (by kernel_rfl) htt, Eq.mp (by kernel_rfl) da82, Eq.mp (by kernel_rfl) (noM_sound (P := Tryz.prog)), by kernel_rfl, [.oref 0 0 0], [(.box [encL encY 1 (decL decY v0), .int .i64 p0])], args_of_vles (l' := [.oref 0 0 0]) ⟨VLe.refl _, trivial⟩, ⟨ble_box ⟨h0, VLe.refl _, trivial⟩, trivial⟩, Eq.mp (by kernel_rfl) hb⟩
  · cases hDe

/-! ### spec.l8Wrong -/
def pr57 (xs : List Int) (at_ : Int)  : Prop := okX xs at_ ∧ at_ ≤ 970000
noncomputable def ro57 (xs : List Int) (at_ : Int)  : List Msg := (wrongD xs at_).1
noncomputable def rs57 (xs : List Int) (at_ : Int)  : V := .osl 1 (ro57 xs at_ ).length
noncomputable def rb57 (xs : List Int) (at_ : Int)  : List Blk := [(.arr 7 (ro57 xs at_ ).length (gL (encMsg 1) (ro57 xs at_ )) 2)]
noncomputable def ra57 (xs : List Int) (at_ : Int)  : Int := (wrongD xs at_).2
noncomputable def D57 : Nat → Option (Bool × FSpec) := lk [(59, (true, sp59)), (82, (true, sp82)), (83, (true, sp83))]
theorem da57 : SoundAll Tryz.prog D57 := soundAll_cons so59 (soundAll_cons so82 (soundAll_cons so83 (soundAll_nil)))
noncomputable def cx57 (xs : List Int) (at_ : Int)  : Cx := ⟨tt, D57, Tryz.f57.ntmps, [0, 2, 3, 7, 8, 15], [], [], fun _ => none, [], noM, []⟩
noncomputable def k57_0 (xs : List Int) : List Int := (decL decY (encL encY 1 (decL decY (encL encY 1 xs))))
noncomputable def k57_1 (xs : List Int) (at_ : Int) : Int := (ra59 (k57_0 xs) (ra82 (decL decY (encL encY 1 xs)) at_) (12 : Int))
theorem bd57 (xs : List Int) (at_ : Int)  (hpre : pr57 xs at_ ) : bodyO (cx57 xs at_ ) Tryz.f57 [(0, 7)] [.oref 0 0 0] [(.box [encL encY 1 xs, .int .i64 at_])] (fun rr bs => VLe rr (rs57 xs at_ ) ∧ BinLe bs [(.box [encL encY 1 xs, .int .i64 (ra57 xs at_ )]), (.arr 7 (ro57 xs at_ ).length (gL (encMsg 1) (ro57 xs at_ )) 2)]) := by
  have key : ((((0 = 0) ∧ ((0 = 0) ∧ (0 = 0))) ∧ ((VLe (encL encY 1 xs) (encL encY 1 (decL decY (encL encY 1 xs)))) ∧ (pr82 (decL decY (encL encY 1 xs)) at_))) ∧ ((((0 = 0) ∧ ((0 = 0) ∧ (0 = 0))) ∧ ((VLe (encL encY 1 (decL decY (encL encY 1 xs))) (encL encY 1 (k57_0 xs))) ∧ (pr59 (k57_0 xs) (ra82 (decL decY (encL encY 1 xs)) at_) (12 : Int)))) ∧ ((((nextF (k57_0 xs) (ra82 (decL decY (encL encY 1 xs)) at_) (12 : Int) == (0 : Int)) = true) → ((((0 = 0) ∧ ((0 = 0) ∧ (0 = 0))) ∧ ((VLe (encL encY 1 (k57_0 xs)) (encL encY 1 (decL decY (encL encY 1 (k57_0 xs))))) ∧ (pr83 (decL decY (encL encY 1 (k57_0 xs))) (k57_1 xs at_)))) ∧ ((List.length (ro82 (decL decY (encL encY 1 xs)) at_) = List.length (ro82 (decL decY (encL encY 1 xs)) at_)) ∧ ((List.length (ro82 (decL decY (encL encY 1 xs)) at_) + 1 ≤ 1073741824) ∧ ((sizedL 7 1 (rowg [encMsg 2 (ro83 (decL decY (encL encY 1 (k57_0 xs))) (k57_1 xs at_))])) ∧ ((VLe (V.osl 1 (List.length (ro82 (decL decY (encL encY 1 xs)) at_) + 1)) (V.osl 1 (List.length (ro57 xs at_)))) ∧ ((BLe (Blk.box [encL encY 1 (decL decY (encL encY 1 (k57_0 xs))), vi (ra83 (decL decY (encL encY 1 (k57_0 xs))) (k57_1 xs at_))]) (Blk.box [encL encY 1 xs, vi (ra57 xs at_)])) ∧ ((BLe (Blk.arr 7 (List.length (ro82 (decL decY (encL encY 1 xs)) at_) + 1) (appg (List.length (ro82 (decL decY (encL encY 1 xs)) at_)) (gL (encMsg 1) (ro82 (decL decY (encL encY 1 xs)) at_)) (rowg [encMsg 2 (ro83 (decL decY (encL encY 1 (k57_0 xs))) (k57_1 xs at_))])) 2) (Blk.arr 7 (List.length (ro57 xs at_)) (gL (encMsg 1) (ro57 xs at_)) 2)) ∧ (True))))))))) ∧ (((nextF (k57_0 xs) (ra82 (decL decY (encL encY 1 xs)) at_) (12 : Int) == (0 : Int)) = false) → ((((nextF (k57_0 xs) (ra82 (decL decY (encL encY 1 xs)) at_) (12 : Int) == (1 : Int)) = true) → ((((0 : Int) ≤ (241 : Int)) ∧ (((241 : Int) ≤ (241 : Int)) ∧ ((241 : Int) ≤ (↑1073741824 : Int)))) ∧ ((VLe (V.osl 1 241) (V.osl 1 (List.length (ro57 xs at_)))) ∧ ((BLe (Blk.box [encL encY 1 (k57_0 xs), vi (k57_1 xs at_)]) (Blk.box [encL encY 1 xs, vi (ra57 xs at_)])) ∧ ((BLe (Blk.arr 7 241 (fun (x : Nat) ↦ V.agg [vi (0 : Int), vi (0 : Int), vi (0 : Int), vi (0 : Int), vi (0 : Int), V.nil, V.nil]) 2) (Blk.arr 7 (List.length (ro57 xs at_)) (gL (encMsg 1) (ro57 xs at_)) 2)) ∧ (True)))))) ∧ (((nextF (k57_0 xs) (ra82 (decL decY (encL encY 1 xs)) at_) (12 : Int) == (1 : Int)) = false) → ((VLe (V.osl 1 (List.length (ro82 (decL decY (encL encY 1 xs)) at_))) (V.osl 1 (List.length (ro57 xs at_)))) ∧ ((BLe (Blk.box [encL encY 1 (k57_0 xs), vi (k57_1 xs at_)]) (Blk.box [encL encY 1 xs, vi (ra57 xs at_)])) ∧ ((BLe (Blk.arr 7 (List.length (ro82 (decL decY (encL encY 1 xs)) at_)) (gL (encMsg 1) (ro82 (decL decY (encL encY 1 xs)) at_)) 2) (Blk.arr 7 (List.length (ro57 xs at_)) (gL (encMsg 1) (ro57 xs at_)) 2)) ∧ (True)))))))))) := by
    delta k57_1; delta k57_0; delta vi
    obtain ⟨h0, h1⟩ := hpre
    have h3 := h0.2.2.1
    simp only [decL_bytes, decL_Msg, ra82, ra83, ra59, Int.add_assoc, Int.reduceAdd]
    have n1 := nextF_bd h0 16
    have dm := manyD_bd xs (nextF xs at_ 16).toNat (at_ + 1) [] (by simp only [List.length_nil]; omega) (shortM_nil _)
    simp only [List.length_nil] at dm
    have hb := bentM_bd xs ((manyD xs (nextF xs at_ 16).toNat (at_ + 1) []).2 + 1)
    have e1 : ro82 xs at_ = (manyD xs (nextF xs at_ 16).toNat (at_ + 1) []).1 := rfl
    have e2 : ∀ b, ro83 xs b = (bentM xs b).1 := fun b => rfl
    have st : ∀ (m : List Msg) (b : Int), wrongD xs at_ = (m, b) → ro57 xs at_ = m ∧ b = ra57 xs at_ := fun m b e => by
      unfold ro57 ra57
      rw [e]
      exact ⟨rfl, rfl⟩
    have w0 : wrongD xs at_ = if nextF xs (manyD xs (nextF xs at_ 16).toNat (at_ + 1) []).2 12 = 0 then ((manyD xs (nextF xs at_ 16).toNat (at_ + 1) []).1 ++ [(bentM xs ((manyD xs (nextF xs at_ 16).toNat (at_ + 1) []).2 + 1)).1], (bentM xs ((manyD xs (nextF xs at_ 16).toNat (at_ + 1) []).2 + 1)).2)
      else if nextF xs (manyD xs (nextF xs at_ 16).toNat (at_ + 1) []).2 12 = 1 then (List.replicate 241 default, (manyD xs (nextF xs at_ 16).toNat (at_ + 1) []).2 + 1)
      else ((manyD xs (nextF xs at_ 16).toNat (at_ + 1) []).1, (manyD xs (nextF xs at_ 16).toNat (at_ + 1) []).2 + 1) := rfl
    rw [e1]
    simp only [e2]
    generalize manyD xs (nextF xs at_ 16).toNat (at_ + 1) [] = d at *
    refine ⟨srcO ⟨h0, by omega⟩, srcO (h0.to (by omega) (by omega)), fun c0 => ?_, fun c0 => ⟨fun c1 => ?_, fun c1 => ?_⟩⟩
    · obtain ⟨g1, g2⟩ := st _ _ (w0.trans (if_pos (eq_of_beq c0)))
      rw [g1]
      simp only [List.length_append, List.length_singleton]
      refine ⟨srcO ⟨h0.to (by omega) (by omega), by omega⟩, trivial, by omega, ?_, VLe.refl _, ble_src g2, ble_pushE (ele_Msg 2 1 _), trivial⟩
      intro k hk
      have : k = 0 := by omega
      subst this
      exact ⟨rfl, rfl⟩
    · obtain ⟨g1, g2⟩ := st _ _ ((w0.trans (if_neg (beq_eq_false_iff_ne.1 c0))).trans (if_pos (eq_of_beq c1)))
      rw [g1, List.length_replicate]
      refine ⟨⟨by omega, by omega, by omega⟩, VLe.refl _, ble_src g2, ?_, trivial⟩
      refine ble_arr (fun i hi => ?_) (Or.inl rfl)
      have e : gL (encMsg 1) (List.replicate 241 default) i = encMsg 1 default := by
        have : (List.replicate 241 (default : Msg)).getD i default = default := by
          rw [List.getD_eq_getElem?_getD, List.getElem?_replicate]
          split <;> rfl
        simp only [gL, this]
      rw [e]
      exact zele_Msg
    · obtain ⟨g1, g2⟩ := st _ _ ((w0.trans (if_neg (beq_eq_false_iff_ne.1 c0))).trans (if_neg (beq_eq_false_iff_ne.1 c1)))
      rw [g1]
      exact ⟨VLe.refl _, ble_src g2, BLe.refl _, trivial⟩
  exact Eq.mp (by kernel_rfl) key
noncomputable def sp57 : FSpec := fun args bin => match args, bin with
  | [.oref i0 j0 o0], [.box [v0, .int .i64 p0]] => some ((i0 = 0 ∧ j0 = 0 ∧ o0 = 0) ∧ VLe v0 (encL encY 1 (decL decY v0)) ∧ pr57 (decL decY v0) p0, rs57 (decL decY v0) p0, [.box [encL encY 1 (decL decY v0), .int .i64 (ra57 (decL decY v0) p0)]] ++ rb57 (decL decY v0) p0)
  | _, _ => none
theorem so57 : Sound Tryz.prog 57 sp57 := by
  refine sound_of_bodyO hmix (tpl := [(0, 7)]) Tryz.func57 rfl (by kernel_rfl) fun args bin ob r bout hDe hob => ?_
  unfold sp57 at hDe
  split at hDe
  · rename_i i0 j0 o0 v0 p0
    cases hDe
    obtain ⟨⟨rfl, rfl, rfl⟩, h0, hpre⟩ := hob
    have hb := bd57 (decL decY v0) p0 hpre
    exact ⟨Nat.le_of_ble_eq_true (by kernel_rfl), cx57 (decL decY v0) p0, Eq.mp (by kernel_rfl) htt, Eq.mp (by kernel_rfl) da57, Eq.mp (by kernel_rfl) (noM_sound (P := Tryz.prog)), by kernel_rfl, [.oref 0 0 0], [(.box [encL encY 1 (decL decY v0), .int .i64 p0])], args_of_vles (l' := [.oref 0 0 0]) ⟨VLe.refl _, trivial⟩, ⟨ble_box ⟨h0, VLe.refl _, trivial⟩, trivial⟩, Eq.mp (by kernel_rfl) hb⟩
  · cases hDe

end Go.Av
