/- Replicas that a source draws; what is drawn of changes of view, of new views. -/
import Derived.Test.YtakcaanpnmkccaaGreatR9
import Derived.Test.YtakcaanpnmkccaaGreatR5a
import Derived.Test.YtakcaanpnmkccaaGreatP32
namespace Go.Av
open Go.Proofs
set_option maxRecDepth 100000
set_option maxHeartbeats 2000000
set_option linter.unusedVariables false
set_option linter.unusedSimpArgs false

theorem pk8 : List.map (fun i => intA (V.int .i64 (([0, 0, 0, 1, 30] : List Int).getD i 0))) (List.range 5) = [0, 0, 0, 1, 30] := rfl
theorem pk9 : List.map (fun i => intA (V.int .i64 (([0, 8, 2] : List Int).getD i 0))) (List.range 3) = [0, 8, 2] := rfl
theorem pk10 : List.map (fun i => intA (V.int .i64 (([-1, 21, 2] : List Int).getD i 0))) (List.range 3) = [-1, 21, 2] := rfl
theorem pk11 : List.map (fun i => intA (V.int .i64 (([0, 3] : List Int).getD i 0))) (List.range 2) = [0, 3] := rfl
theorem pk12 : List.map (fun i => intA (V.int .i64 (([1, 2, 3, 0, 21] : List Int).getD i 0))) (List.range 5) = [1, 2, 3, 0, 21] := rfl
theorem pk13 (v : Int) : List.map (fun i => intA (V.int .i64 (([1, 1, 1, 1, 1, 1, v] : List Int).getD i 0))) (List.range 7) = [1, 1, 1, 1, 1, 1, v] := rfl
noncomputable def tF (code : List Int) : Int := pickF code 1 [1, 1, 1, 1, 1, 1, drawF code 0]
noncomputable def tL (code : List Int) : List Msg := (wrong10 code 2).1
noncomputable def tR (code : List Int) : Replica := (repD code (wrong10 code 2).2 (tL code)).1
noncomputable def tV (code : List Int) : Int := pickF code 26 [1, 2, 3, 0, 21]
noncomputable def uR (code : List Int) : Replica := if nextF code 26 2 = 0 then ⟨2, 1, -1, 0⟩ else tR code

/-! ### spec.l1Later -/
def pr44 (xs : List Int) (n : Int) : Prop := 0 ≤ n ∧ n ≤ 100
noncomputable def sb44 (xs : List Int) (n : Int) : List V := [encL encY 1 xs, .int .i64 (5 + 7 * n)]
noncomputable def D44 : Nat → Option (Bool × FSpec) := lk []
theorem da44 : SoundAll Tryz.prog D44 := soundAll_nil
noncomputable def cx44 (xs : List Int) (n : Int) : Cx := ⟨tt, D44, Tryz.f44.ntmps, [0, 1, 4], [], [], fun _ => none, [], noM, []⟩
theorem bd44 (xs : List Int) (n : Int) (hpre : pr44 xs n) : bodyB (cx44 xs n) Tryz.f44 [encL encY 1 xs, .int .i64 (n)] (fun cs => BLe (.box cs) (.box (sb44 xs n))) := by
  have key : ((inK IntKind.i64 ((7 : Int) * n)) ∧ ((inK IntKind.i64 ((5 : Int) + (7 : Int) * n)) ∧ (BLe (Blk.box [encL encY 1 xs, vi ((5 : Int) + (7 : Int) * n)]) (Blk.box [encL encY 1 xs, vi ((5 : Int) + (7 : Int) * n)])))) := by
    delta vi
    exact ⟨inK64 (by have := hpre.1; have := hpre.2; omega), inK64 (by have := hpre.1; have := hpre.2; omega), BLe.refl _⟩
  exact Eq.mp (by kernel_rfl) key
noncomputable def sp44 : FSpec := fun args bin => match args, bin with
  | [v0, .int .i64 a1], [] => some (VLe v0 (encL encY 1 (decL decY v0)) ∧ pr44 (decL decY v0) a1, .oref 0 0 0, [.box (sb44 (decL decY v0) a1)])
  | _, _ => none
theorem so44 : Sound Tryz.prog 44 sp44 := by
  refine sound_of_bodyB hmix Tryz.func44 rfl (by kernel_rfl) fun args bin ob r bout hDe hob => ?_
  unfold sp44 at hDe
  split at hDe
  · rename_i v0 a1
    cases hDe
    obtain ⟨h0, hpre⟩ := hob
    exact ⟨rfl, rfl, _, rfl, Nat.le_of_ble_eq_true (by kernel_rfl), cx44 (decL decY v0) a1, Eq.mp (by kernel_rfl) htt, Eq.mp (by kernel_rfl) da44, Eq.mp (by kernel_rfl) (noM_sound (P := Tryz.prog)), by kernel_rfl, [encL encY 1 (decL decY v0), .int .i64 (a1)], args_of_vles (l' := [encL encY 1 (decL decY v0), .int .i64 (a1)]) ⟨h0, VLe.refl _, trivial⟩, Eq.mp (by kernel_rfl) (bd44 (decL decY v0) a1 hpre)⟩
  · cases hDe

/-! ### spec.l11Draw -/
def pr73 (xs : List Int) (at_ : Int) (l : List Msg) : Prop := okX xs at_ ∧ at_ ≤ 980000 ∧ l.length ≤ 1000
noncomputable def rs73 (xs : List Int) (at_ : Int) (l : List Msg) : V := encReplica 2 ((repD xs at_ l).1)
noncomputable def ra73 (xs : List Int) (at_ : Int) (l : List Msg) : Int := (repD xs at_ l).2
noncomputable def D73 : Nat → Option (Bool × FSpec) := lk [(59, (true, sp59)), (45, (true, sp45)), (52, (true, sp52)), (26, (true, sp26))]
theorem da73 : SoundAll Tryz.prog D73 := soundAll_cons so59 (soundAll_cons so45 (soundAll_cons so52 (soundAll_cons so26 (soundAll_nil))))
noncomputable def cx73 (xs : List Int) (at_ : Int) (l : List Msg) : Cx := ⟨tt, D73, Tryz.f73.ntmps, [0, 1, 4, 5, 22, 28, 29, 35, 41], [], [], fun _ => none, [], noM, []⟩
noncomputable def k73_0 (xs : List Int) (at_ : Int) (l : List Msg) : Int := (ra26 (decL decY (encL encY 1 (decL decY (encL encY 1 (decL decY (encL encY 1 (decL decY (encL encY 1 (decL decY (encL encY 1 xs)))))))))) (bif decide (nextF (decL decY (encL encY 1 (decL decY (encL encY 1 xs)))) (ra59 (decL decY (encL encY 1 xs)) at_ (4 : Int)) (2 : Int) > (0 : Int)) then ra52 (decL decY (encL encY 1 (decL decY (encL encY 1 (decL decY (encL encY 1 (decL decY (encL encY 1 xs)))))))) (ra45 (decL decY (encL encY 1 (decL decY (encL encY 1 (decL decY (encL encY 1 xs)))))) (ra59 (decL decY (encL encY 1 (decL decY (encL encY 1 xs)))) (ra59 (decL decY (encL encY 1 xs)) at_ (4 : Int)) (2 : Int)) (List.map (fun (i : Nat) ↦ intA (vi (List.getD [(0 : Int), (0 : Int), (0 : Int), (1 : Int), (30 : Int)] i (0 : Int)))) (List.range 5))) (4 : Int) else ra45 (decL decY (encL encY 1 (decL decY (encL encY 1 (decL decY (encL encY 1 xs)))))) (ra59 (decL decY (encL encY 1 (decL decY (encL encY 1 xs)))) (ra59 (decL decY (encL encY 1 xs)) at_ (4 : Int)) (2 : Int)) (List.map (fun (i : Nat) ↦ intA (vi (List.getD [(0 : Int), (0 : Int), (0 : Int), (1 : Int), (30 : Int)] i (0 : Int)))) (List.range 5))) (decL decMsg (encL (encMsg 1) 1 l)) (5 : Int))
noncomputable def k73_1 (xs : List Int) : List Int := (decL decY (encL encY 1 (decL decY (encL encY 1 (decL decY (encL encY 1 xs))))))
noncomputable def k73_2 (xs : List Int) (at_ : Int) : Int := (ra59 (decL decY (encL encY 1 (decL decY (encL encY 1 (k73_1 xs))))) (bif decide (nextF (decL decY (encL encY 1 (decL decY (encL encY 1 xs)))) (ra59 (decL decY (encL encY 1 xs)) at_ (4 : Int)) (2 : Int) > (0 : Int)) then ra52 (decL decY (encL encY 1 (k73_1 xs))) (ra45 (k73_1 xs) (ra59 (decL decY (encL encY 1 (decL decY (encL encY 1 xs)))) (ra59 (decL decY (encL encY 1 xs)) at_ (4 : Int)) (2 : Int)) (List.map (fun (i : Nat) ↦ intA (vi (List.getD [(0 : Int), (0 : Int), (0 : Int), (1 : Int), (30 : Int)] i (0 : Int)))) (List.range 5))) (4 : Int) else ra45 (k73_1 xs) (ra59 (decL decY (encL encY 1 (decL decY (encL encY 1 xs)))) (ra59 (decL decY (encL encY 1 xs)) at_ (4 : Int)) (2 : Int)) (List.map (fun (i : Nat) ↦ intA (vi (List.getD [(0 : Int), (0 : Int), (0 : Int), (1 : Int), (30 : Int)] i (0 : Int)))) (List.range 5))) (14 : Int))
noncomputable def k73_3 (xs : List Int) : List Int := (decL decY (encL encY 1 (decL decY (encL encY 1 (decL decY (encL encY 1 (k73_1 xs)))))))
noncomputable def k73_4 (xs : List Int) (at_ : Int) : Int := (ra59 (decL decY (encL encY 1 (decL decY (encL encY 1 xs)))) (ra59 (decL decY (encL encY 1 xs)) at_ (4 : Int)) (2 : Int))
noncomputable def k73_5 (xs : List Int) (at_ : Int) : Int := (ra45 (k73_1 xs) (k73_4 xs at_) (List.map (fun (i : Nat) ↦ intA (vi (List.getD [(0 : Int), (0 : Int), (0 : Int), (1 : Int), (30 : Int)] i (0 : Int)))) (List.range 5)))
noncomputable def k73_6 (xs : List Int) : List Int := (decL decY (encL encY 1 (decL decY (encL encY 1 xs))))
noncomputable def k73_7 (xs : List Int) (at_ : Int) : Int := (pickF (k73_1 xs) (k73_4 xs at_) (List.map (fun (i : Nat) ↦ intA (vi (List.getD [(0 : Int), (0 : Int), (0 : Int), (1 : Int), (30 : Int)] i (0 : Int)))) (List.range 5)))
noncomputable def k73_8 (xs : List Int) : List Int := (decL decY (encL encY 1 (decL decY (encL encY 1 (k73_1 xs)))))
noncomputable def k73_9 (xs : List Int) (at_ : Int) : Int := (ra59 (decL decY (encL encY 1 xs)) at_ (4 : Int))
noncomputable def k73_10 (xs : List Int) (at_ : Int) (l : List Msg) : Int := (ra59 (k73_3 xs) (k73_0 xs at_ l) (14 : Int))
noncomputable def k73_11 (xs : List Int) (at_ : Int) (l : List Msg) : Blk := (Blk.box [encL encY 1 xs, vi (ra73 xs at_ l)])
noncomputable def k73_12 (xs : List Int) (at_ : Int) (l : List Msg) : V := (encReplica 1 (Prod.fst (repD xs at_ l)))
noncomputable def k73_13 (xs : List Int) : Prop := (VLe (encL encY 1 (k73_3 xs)) (encL encY 1 (decL decY (encL encY 1 (k73_3 xs)))))
noncomputable def k73_14 (xs : List Int) : Prop := (VLe (encL encY 1 (k73_8 xs)) (encL encY 1 (k73_3 xs)))
noncomputable def k73_15 (xs : List Int) (at_ : Int) : Int := (nextF (k73_6 xs) (k73_9 xs at_) (2 : Int))
theorem bd73 (xs : List Int) (at_ : Int) (l : List Msg) (hpre : pr73 xs at_ l) : bodyO (cx73 xs at_ l) Tryz.f73 [] [.oref 0 0 0, encL (encMsg 1) 1 (l)] [(.box [encL encY 1 xs, .int .i64 at_])] (fun rr bs => VLe rr (rs73 xs at_ l) ∧ BinLe bs [(.box [encL encY 1 xs, .int .i64 (ra73 xs at_ l)])]) := by
  have key : ((((0 = 0) ∧ ((0 = 0) ∧ (0 = 0))) ∧ ((VLe (encL encY 1 xs) (encL encY 1 (decL decY (encL encY 1 xs)))) ∧ (pr59 (decL decY (encL encY 1 xs)) at_ (4 : Int)))) ∧ ((inK IntKind.i64 ((1 : Int) + nextF (decL decY (encL encY 1 xs)) at_ (4 : Int))) ∧ ((((0 = 0) ∧ ((0 = 0) ∧ (0 = 0))) ∧ ((VLe (encL encY 1 (decL decY (encL encY 1 xs))) (encL encY 1 (k73_6 xs))) ∧ (pr59 (k73_6 xs) (k73_9 xs at_) (2 : Int)))) ∧ ((((0 = 0) ∧ ((0 = 0) ∧ (0 = 0))) ∧ ((VLe (encL encY 1 (k73_6 xs)) (encL encY 1 (k73_1 xs))) ∧ (((1 = 1) ∧ ((1 = 1) ∧ ((100 = 100) ∧ ((5 = 5) ∧ (∀ i : Nat, ((i < 5) → (ELe (vi (List.getD [(0 : Int), (0 : Int), (0 : Int), (1 : Int), (30 : Int)] i (0 : Int))) (vi (intA (vi (List.getD [(0 : Int), (0 : Int), (0 : Int), (1 : Int), (30 : Int)] i (0 : Int)))))))))))) ∧ (pr45 (k73_1 xs) (k73_4 xs at_) (List.map (fun (i : Nat) ↦ intA (vi (List.getD [(0 : Int), (0 : Int), (0 : Int), (1 : Int), (30 : Int)] i (0 : Int)))) (List.range 5)))))) ∧ ((5 = 5) ∧ ((tq (decide (nextF (k73_6 xs) (k73_9 xs at_) (2 : Int) > (0 : Int)))) ∧ (((decide (nextF (k73_6 xs) (k73_9 xs at_) (2 : Int) > (0 : Int)) = true) → (((0 = 0) ∧ ((0 = 0) ∧ (0 = 0))) ∧ ((VLe (encL encY 1 (k73_1 xs)) (encL encY 1 (decL decY (encL encY 1 (k73_1 xs))))) ∧ (pr52 (decL decY (encL encY 1 (k73_1 xs))) (k73_5 xs at_) (4 : Int))))) ∧ (((decide (nextF (k73_6 xs) (k73_9 xs at_) (2 : Int) > (0 : Int)) = false) → (encL encY 0 (k73_1 xs) = encL encY 0 (decL decY (encL encY 1 (k73_1 xs))))) ∧ ((tq (decide (nextF (k73_6 xs) (k73_9 xs at_) (2 : Int) > (0 : Int)))) ∧ (((true = true) → ((decide (nextF (k73_6 xs) (k73_9 xs at_) (2 : Int) > (0 : Int)) = true) → (decide (nextF (k73_6 xs) (k73_9 xs at_) (2 : Int) > (0 : Int)) = true))) ∧ (∀ b : Bool, ((b = bif decide (nextF (k73_6 xs) (k73_9 xs at_) (2 : Int) > (0 : Int)) then !decide (nextF (decL decY (encL encY 1 (k73_1 xs))) (k73_5 xs at_) (4 : Int) = (0 : Int)) else false) → (((b = true) → ((((0 = 0) ∧ ((0 = 0) ∧ (0 = 0))) ∧ ((VLe (encL encY 1 (decL decY (encL encY 1 (k73_1 xs)))) (encL encY 1 (k73_8 xs))) ∧ ((VLe (encL (encMsg 1) 1 l) (encL (encMsg 1) 1 (decL decMsg (encL (encMsg 1) 1 l)))) ∧ (pr26 (k73_8 xs) (bif decide (nextF (k73_6 xs) (k73_9 xs at_) (2 : Int) > (0 : Int)) then ra52 (decL decY (encL encY 1 (k73_1 xs))) (k73_5 xs at_) (4 : Int) else ra45 (k73_1 xs) (k73_4 xs at_) (List.map (fun (i : Nat) ↦ intA (vi (List.getD [(0 : Int), (0 : Int), (0 : Int), (1 : Int), (30 : Int)] i (0 : Int)))) (List.range 5))) (decL decMsg (encL (encMsg 1) 1 l)) (5 : Int))))) ∧ ((((0 = 0) ∧ ((0 = 0) ∧ (0 = 0))) ∧ ((k73_14 xs) ∧ (pr59 (k73_3 xs) (k73_0 xs at_ l) (14 : Int)))) ∧ ((((nextF (k73_3 xs) (k73_0 xs at_ l) (14 : Int) == (0 : Int)) = true) → ((((0 = 0) ∧ ((0 = 0) ∧ (0 = 0))) ∧ ((k73_13 xs) ∧ (((1 = 1) ∧ ((1 = 1) ∧ ((100 = 100) ∧ ((3 = 3) ∧ (∀ i : Nat, ((i < 3) → (ELe (vi (List.getD [(0 : Int), (8 : Int), (2 : Int)] i (0 : Int))) (vi (intA (vi (List.getD [(0 : Int), (8 : Int), (2 : Int)] i (0 : Int)))))))))))) ∧ (pr45 (decL decY (encL encY 1 (k73_3 xs))) (k73_10 xs at_ l) (List.map (fun (i : Nat) ↦ intA (vi (List.getD [(0 : Int), (8 : Int), (2 : Int)] i (0 : Int)))) (List.range 3)))))) ∧ ((3 = 3) ∧ ((VLe (V.agg [vi (pickF (decL decY (encL encY 1 (k73_3 xs))) (k73_10 xs at_ l) (List.map (fun (i : Nat) ↦ intA (vi (List.getD [(0 : Int), (8 : Int), (2 : Int)] i (0 : Int)))) (List.range 3))), vi (k73_15 xs at_), vi (Prod.fst (placeD (k73_8 xs) (bif decide (nextF (k73_6 xs) (k73_9 xs at_) (2 : Int) > (0 : Int)) then ra52 (decL decY (encL encY 1 (k73_1 xs))) (k73_5 xs at_) (4 : Int) else ra45 (k73_1 xs) (k73_4 xs at_) (List.map (fun (i : Nat) ↦ intA (vi (List.getD [(0 : Int), (0 : Int), (0 : Int), (1 : Int), (30 : Int)] i (0 : Int)))) (List.range 5))) (decL decMsg (encL (encMsg 1) 1 l)) (5 : Int))), vi (k73_7 xs at_)]) (k73_12 xs at_ l)) ∧ ((BLe (Blk.box [encL encY 1 (decL decY (encL encY 1 (k73_3 xs))), vi (ra45 (decL decY (encL encY 1 (k73_3 xs))) (k73_10 xs at_ l) (List.map (fun (i : Nat) ↦ intA (vi (List.getD [(0 : Int), (8 : Int), (2 : Int)] i (0 : Int)))) (List.range 3)))]) (k73_11 xs at_ l)) ∧ (True)))))) ∧ (((nextF (k73_3 xs) (k73_0 xs at_ l) (14 : Int) == (0 : Int)) = false) → ((((nextF (k73_3 xs) (k73_0 xs at_ l) (14 : Int) == (1 : Int)) = true) → ((((0 = 0) ∧ ((0 = 0) ∧ (0 = 0))) ∧ ((k73_13 xs) ∧ (((1 = 1) ∧ ((1 = 1) ∧ ((100 = 100) ∧ ((3 = 3) ∧ (∀ i : Nat, ((i < 3) → (ELe (vi (List.getD [(-1 : Int), (21 : Int), (2 : Int)] i (0 : Int))) (vi (intA (vi (List.getD [(-1 : Int), (21 : Int), (2 : Int)] i (0 : Int)))))))))))) ∧ (pr45 (decL decY (encL encY 1 (k73_3 xs))) (k73_10 xs at_ l) (List.map (fun (i : Nat) ↦ intA (vi (List.getD [(-1 : Int), (21 : Int), (2 : Int)] i (0 : Int)))) (List.range 3)))))) ∧ ((3 = 3) ∧ ((VLe (V.agg [vi ((1 : Int) + nextF (decL decY (encL encY 1 xs)) at_ (4 : Int)), vi (pickF (decL decY (encL encY 1 (k73_3 xs))) (k73_10 xs at_ l) (List.map (fun (i : Nat) ↦ intA (vi (List.getD [(-1 : Int), (21 : Int), (2 : Int)] i (0 : Int)))) (List.range 3))), vi (Prod.fst (placeD (k73_8 xs) (bif decide (nextF (k73_6 xs) (k73_9 xs at_) (2 : Int) > (0 : Int)) then ra52 (decL decY (encL encY 1 (k73_1 xs))) (k73_5 xs at_) (4 : Int) else ra45 (k73_1 xs) (k73_4 xs at_) (List.map (fun (i : Nat) ↦ intA (vi (List.getD [(0 : Int), (0 : Int), (0 : Int), (1 : Int), (30 : Int)] i (0 : Int)))) (List.range 5))) (decL decMsg (encL (encMsg 1) 1 l)) (5 : Int))), vi (k73_7 xs at_)]) (k73_12 xs at_ l)) ∧ ((BLe (Blk.box [encL encY 1 (decL decY (encL encY 1 (k73_3 xs))), vi (ra45 (decL decY (encL encY 1 (k73_3 xs))) (k73_10 xs at_ l) (List.map (fun (i : Nat) ↦ intA (vi (List.getD [(-1 : Int), (21 : Int), (2 : Int)] i (0 : Int)))) (List.range 3)))]) (k73_11 xs at_ l)) ∧ (True)))))) ∧ (((nextF (k73_3 xs) (k73_0 xs at_ l) (14 : Int) == (1 : Int)) = false) → ((((nextF (k73_3 xs) (k73_0 xs at_ l) (14 : Int) == (2 : Int)) = true) → ((((0 = 0) ∧ ((0 = 0) ∧ (0 = 0))) ∧ ((k73_13 xs) ∧ (((1 = 1) ∧ ((1 = 1) ∧ ((100 = 100) ∧ ((2 = 2) ∧ (∀ i : Nat, ((i < 2) → (ELe (vi (List.getD [(0 : Int), (3 : Int)] i (0 : Int))) (vi (intA (vi (List.getD [(0 : Int), (3 : Int)] i (0 : Int)))))))))))) ∧ (pr45 (decL decY (encL encY 1 (k73_3 xs))) (k73_10 xs at_ l) (List.map (fun (i : Nat) ↦ intA (vi (List.getD [(0 : Int), (3 : Int)] i (0 : Int)))) (List.range 2)))))) ∧ ((2 = 2) ∧ ((VLe (V.agg [vi ((1 : Int) + nextF (decL decY (encL encY 1 xs)) at_ (4 : Int)), vi (k73_15 xs at_), vi (pickF (decL decY (encL encY 1 (k73_3 xs))) (k73_10 xs at_ l) (List.map (fun (i : Nat) ↦ intA (vi (List.getD [(0 : Int), (3 : Int)] i (0 : Int)))) (List.range 2))), vi (k73_7 xs at_)]) (k73_12 xs at_ l)) ∧ ((BLe (Blk.box [encL encY 1 (decL decY (encL encY 1 (k73_3 xs))), vi (ra45 (decL decY (encL encY 1 (k73_3 xs))) (k73_10 xs at_ l) (List.map (fun (i : Nat) ↦ intA (vi (List.getD [(0 : Int), (3 : Int)] i (0 : Int)))) (List.range 2)))]) (k73_11 xs at_ l)) ∧ (True)))))) ∧ (((nextF (k73_3 xs) (k73_0 xs at_ l) (14 : Int) == (2 : Int)) = false) → ((VLe (V.agg [vi ((1 : Int) + nextF (decL decY (encL encY 1 xs)) at_ (4 : Int)), vi (k73_15 xs at_), vi (Prod.fst (placeD (k73_8 xs) (bif decide (nextF (k73_6 xs) (k73_9 xs at_) (2 : Int) > (0 : Int)) then ra52 (decL decY (encL encY 1 (k73_1 xs))) (k73_5 xs at_) (4 : Int) else ra45 (k73_1 xs) (k73_4 xs at_) (List.map (fun (i : Nat) ↦ intA (vi (List.getD [(0 : Int), (0 : Int), (0 : Int), (1 : Int), (30 : Int)] i (0 : Int)))) (List.range 5))) (decL decMsg (encL (encMsg 1) 1 l)) (5 : Int))), vi (k73_7 xs at_)]) (k73_12 xs at_ l)) ∧ ((BLe (Blk.box [encL encY 1 (k73_3 xs), vi (k73_10 xs at_ l)]) (k73_11 xs at_ l)) ∧ (True)))))))))))) ∧ ((b = false) → ((((0 = 0) ∧ ((0 = 0) ∧ (0 = 0))) ∧ ((VLe (encL encY 1 (decL decY (encL encY 1 (k73_1 xs)))) (encL encY 1 (k73_8 xs))) ∧ (pr59 (k73_8 xs) (bif decide (nextF (k73_6 xs) (k73_9 xs at_) (2 : Int) > (0 : Int)) then ra52 (decL decY (encL encY 1 (k73_1 xs))) (k73_5 xs at_) (4 : Int) else ra45 (k73_1 xs) (k73_4 xs at_) (List.map (fun (i : Nat) ↦ intA (vi (List.getD [(0 : Int), (0 : Int), (0 : Int), (1 : Int), (30 : Int)] i (0 : Int)))) (List.range 5))) (14 : Int)))) ∧ ((((nextF (k73_8 xs) (bif decide (nextF (k73_6 xs) (k73_9 xs at_) (2 : Int) > (0 : Int)) then ra52 (decL decY (encL encY 1 (k73_1 xs))) (k73_5 xs at_) (4 : Int) else ra45 (k73_1 xs) (k73_4 xs at_) (List.map (fun (i : Nat) ↦ intA (vi (List.getD [(0 : Int), (0 : Int), (0 : Int), (1 : Int), (30 : Int)] i (0 : Int)))) (List.range 5))) (14 : Int) == (0 : Int)) = true) → ((((0 = 0) ∧ ((0 = 0) ∧ (0 = 0))) ∧ ((k73_14 xs) ∧ (((1 = 1) ∧ ((1 = 1) ∧ ((100 = 100) ∧ ((3 = 3) ∧ (∀ i : Nat, ((i < 3) → (ELe (vi (List.getD [(0 : Int), (8 : Int), (2 : Int)] i (0 : Int))) (vi (intA (vi (List.getD [(0 : Int), (8 : Int), (2 : Int)] i (0 : Int)))))))))))) ∧ (pr45 (k73_3 xs) (k73_2 xs at_) (List.map (fun (i : Nat) ↦ intA (vi (List.getD [(0 : Int), (8 : Int), (2 : Int)] i (0 : Int)))) (List.range 3)))))) ∧ ((3 = 3) ∧ ((VLe (V.agg [vi (pickF (k73_3 xs) (k73_2 xs at_) (List.map (fun (i : Nat) ↦ intA (vi (List.getD [(0 : Int), (8 : Int), (2 : Int)] i (0 : Int)))) (List.range 3))), vi (k73_15 xs at_), vi (-1 : Int), vi (k73_7 xs at_)]) (k73_12 xs at_ l)) ∧ ((BLe (Blk.box [encL encY 1 (k73_3 xs), vi (ra45 (k73_3 xs) (k73_2 xs at_) (List.map (fun (i : Nat) ↦ intA (vi (List.getD [(0 : Int), (8 : Int), (2 : Int)] i (0 : Int)))) (List.range 3)))]) (k73_11 xs at_ l)) ∧ (True)))))) ∧ (((nextF (k73_8 xs) (bif decide (nextF (k73_6 xs) (k73_9 xs at_) (2 : Int) > (0 : Int)) then ra52 (decL decY (encL encY 1 (k73_1 xs))) (k73_5 xs at_) (4 : Int) else ra45 (k73_1 xs) (k73_4 xs at_) (List.map (fun (i : Nat) ↦ intA (vi (List.getD [(0 : Int), (0 : Int), (0 : Int), (1 : Int), (30 : Int)] i (0 : Int)))) (List.range 5))) (14 : Int) == (0 : Int)) = false) → ((((nextF (k73_8 xs) (bif decide (nextF (k73_6 xs) (k73_9 xs at_) (2 : Int) > (0 : Int)) then ra52 (decL decY (encL encY 1 (k73_1 xs))) (k73_5 xs at_) (4 : Int) else ra45 (k73_1 xs) (k73_4 xs at_) (List.map (fun (i : Nat) ↦ intA (vi (List.getD [(0 : Int), (0 : Int), (0 : Int), (1 : Int), (30 : Int)] i (0 : Int)))) (List.range 5))) (14 : Int) == (1 : Int)) = true) → ((((0 = 0) ∧ ((0 = 0) ∧ (0 = 0))) ∧ ((k73_14 xs) ∧ (((1 = 1) ∧ ((1 = 1) ∧ ((100 = 100) ∧ ((3 = 3) ∧ (∀ i : Nat, ((i < 3) → (ELe (vi (List.getD [(-1 : Int), (21 : Int), (2 : Int)] i (0 : Int))) (vi (intA (vi (List.getD [(-1 : Int), (21 : Int), (2 : Int)] i (0 : Int)))))))))))) ∧ (pr45 (k73_3 xs) (k73_2 xs at_) (List.map (fun (i : Nat) ↦ intA (vi (List.getD [(-1 : Int), (21 : Int), (2 : Int)] i (0 : Int)))) (List.range 3)))))) ∧ ((3 = 3) ∧ ((VLe (V.agg [vi ((1 : Int) + nextF (decL decY (encL encY 1 xs)) at_ (4 : Int)), vi (pickF (k73_3 xs) (k73_2 xs at_) (List.map (fun (i : Nat) ↦ intA (vi (List.getD [(-1 : Int), (21 : Int), (2 : Int)] i (0 : Int)))) (List.range 3))), vi (-1 : Int), vi (k73_7 xs at_)]) (k73_12 xs at_ l)) ∧ ((BLe (Blk.box [encL encY 1 (k73_3 xs), vi (ra45 (k73_3 xs) (k73_2 xs at_) (List.map (fun (i : Nat) ↦ intA (vi (List.getD [(-1 : Int), (21 : Int), (2 : Int)] i (0 : Int)))) (List.range 3)))]) (k73_11 xs at_ l)) ∧ (True)))))) ∧ (((nextF (k73_8 xs) (bif decide (nextF (k73_6 xs) (k73_9 xs at_) (2 : Int) > (0 : Int)) then ra52 (decL decY (encL encY 1 (k73_1 xs))) (k73_5 xs at_) (4 : Int) else ra45 (k73_1 xs) (k73_4 xs at_) (List.map (fun (i : Nat) ↦ intA (vi (List.getD [(0 : Int), (0 : Int), (0 : Int), (1 : Int), (30 : Int)] i (0 : Int)))) (List.range 5))) (14 : Int) == (1 : Int)) = false) → ((((nextF (k73_8 xs) (bif decide (nextF (k73_6 xs) (k73_9 xs at_) (2 : Int) > (0 : Int)) then ra52 (decL decY (encL encY 1 (k73_1 xs))) (k73_5 xs at_) (4 : Int) else ra45 (k73_1 xs) (k73_4 xs at_) (List.map (fun (i : Nat) ↦ intA (vi (List.getD [(0 : Int), (0 : Int), (0 : Int), (1 : Int), (30 : Int)] i (0 : Int)))) (List.range 5))) (14 : Int) == (2 : Int)) = true) → ((((0 = 0) ∧ ((0 = 0) ∧ (0 = 0))) ∧ ((k73_14 xs) ∧ (((1 = 1) ∧ ((1 = 1) ∧ ((100 = 100) ∧ ((2 = 2) ∧ (∀ i : Nat, ((i < 2) → (ELe (vi (List.getD [(0 : Int), (3 : Int)] i (0 : Int))) (vi (intA (vi (List.getD [(0 : Int), (3 : Int)] i (0 : Int)))))))))))) ∧ (pr45 (k73_3 xs) (k73_2 xs at_) (List.map (fun (i : Nat) ↦ intA (vi (List.getD [(0 : Int), (3 : Int)] i (0 : Int)))) (List.range 2)))))) ∧ ((2 = 2) ∧ ((VLe (V.agg [vi ((1 : Int) + nextF (decL decY (encL encY 1 xs)) at_ (4 : Int)), vi (k73_15 xs at_), vi (pickF (k73_3 xs) (k73_2 xs at_) (List.map (fun (i : Nat) ↦ intA (vi (List.getD [(0 : Int), (3 : Int)] i (0 : Int)))) (List.range 2))), vi (k73_7 xs at_)]) (k73_12 xs at_ l)) ∧ ((BLe (Blk.box [encL encY 1 (k73_3 xs), vi (ra45 (k73_3 xs) (k73_2 xs at_) (List.map (fun (i : Nat) ↦ intA (vi (List.getD [(0 : Int), (3 : Int)] i (0 : Int)))) (List.range 2)))]) (k73_11 xs at_ l)) ∧ (True)))))) ∧ (((nextF (k73_8 xs) (bif decide (nextF (k73_6 xs) (k73_9 xs at_) (2 : Int) > (0 : Int)) then ra52 (decL decY (encL encY 1 (k73_1 xs))) (k73_5 xs at_) (4 : Int) else ra45 (k73_1 xs) (k73_4 xs at_) (List.map (fun (i : Nat) ↦ intA (vi (List.getD [(0 : Int), (0 : Int), (0 : Int), (1 : Int), (30 : Int)] i (0 : Int)))) (List.range 5))) (14 : Int) == (2 : Int)) = false) → ((VLe (V.agg [vi ((1 : Int) + nextF (decL decY (encL encY 1 xs)) at_ (4 : Int)), vi (k73_15 xs at_), vi (-1 : Int), vi (k73_7 xs at_)]) (k73_12 xs at_ l)) ∧ ((BLe (Blk.box [encL encY 1 (k73_8 xs), vi (k73_2 xs at_)]) (k73_11 xs at_ l)) ∧ (True)))))))))))))))))))))))) := by
    delta k73_15; delta k73_14; delta k73_13; delta k73_12; delta k73_11; delta k73_10; delta k73_9; delta k73_8; delta k73_7; delta k73_6; delta k73_5; delta k73_4; delta k73_3; delta k73_2; delta k73_1; delta k73_0; delta vi
    obtain ⟨h0, h1, h2⟩ := hpre
    have h3 := h0.2.2.1
    simp only [decL_bytes, decL_Msg, pk8, pk9, pk10, pk11, ra59, ra45, ra52, ra26, Int.add_assoc, Int.reduceAdd]
    have n4 := nextF_bd h0 4
    have n2 := nextF_bd (h0.to (b := at_ + 1) (by omega) (by omega)) 2
    unfold ra73
    by_cases hv : 0 < nextF xs (at_ + 1) 2
    · have d1 : decide (nextF xs (at_ + 1) 2 > 0) = true := decide_eq_true hv
      simp only [d1, cond_true]
      refine ⟨srcO h0, inK64 (by omega), srcO (h0.to (by omega) (by omega)), pickO ⟨h0.to (by omega) (by omega), by decide, by decide⟩, trivial, tqB _, fun _ => srcO (h0.to (by omega) (by omega)), fun _ => trivial, tqB _, fun _ h => h, fun b hb => ⟨fun h => ?_, fun h => ?_⟩⟩
      · rw [h] at hb
        have hc : ¬ nextF xs (at_ + 3) 4 = 0 := by simpa using hb
        have e : repD xs at_ l = repB xs (placeD xs (at_ + 4) l 5).2 ⟨1 + nextF xs at_ 4, nextF xs (at_ + 1) 2, (placeD xs (at_ + 4) l 5).1, pickF xs (at_ + 2) [0, 0, 0, 1, 30]⟩ := by
          unfold repD repS
          rw [if_pos hv, if_neg hc, Int.add_assoc]
          rfl
        have hp := placeD_bd xs (at_ + 4) l 5
        rw [e]
        generalize placeD xs (at_ + 4) l 5 = p at *
        obtain ⟨s, a⟩ := p
        simp only at hp ⊢
        have ha : okX xs a := h0.to (by omega) (by omega)
        have ha1 : okX xs (a + 1) := h0.to (by omega) (by omega)
        refine ⟨⟨⟨trivial, trivial, trivial⟩, VLe.refl _, VLe.refl _, h0.to (by omega) (by omega), by omega, h2⟩, srcO ha, ?_⟩
        refine ⟨fun c => ?_, fun c => ⟨fun d => ?_, fun d => ⟨fun g => ?_, fun g => ?_⟩⟩⟩
        · rw [show repB xs a ⟨1 + nextF xs at_ 4, nextF xs (at_ + 1) 2, s, pickF xs (at_ + 2) [0, 0, 0, 1, 30]⟩ = _ from if_pos (eq_of_beq c)]
          exact ⟨pickO ⟨ha1, by decide, by decide⟩, trivial, VLe.refl _, ble_src rfl, trivial⟩
        · rw [show repB xs a ⟨1 + nextF xs at_ 4, nextF xs (at_ + 1) 2, s, pickF xs (at_ + 2) [0, 0, 0, 1, 30]⟩ = _ from (if_neg (beq_eq_false_iff_ne.1 c)).trans (if_pos (eq_of_beq d))]
          exact ⟨pickO ⟨ha1, by decide, by decide⟩, trivial, VLe.refl _, ble_src rfl, trivial⟩
        · rw [show repB xs a ⟨1 + nextF xs at_ 4, nextF xs (at_ + 1) 2, s, pickF xs (at_ + 2) [0, 0, 0, 1, 30]⟩ = _ from (if_neg (beq_eq_false_iff_ne.1 c)).trans ((if_neg (beq_eq_false_iff_ne.1 d)).trans (if_pos (eq_of_beq g)))]
          exact ⟨pickO ⟨ha1, by decide, by decide⟩, trivial, VLe.refl _, ble_src rfl, trivial⟩
        · rw [show repB xs a ⟨1 + nextF xs at_ 4, nextF xs (at_ + 1) 2, s, pickF xs (at_ + 2) [0, 0, 0, 1, 30]⟩ = _ from (if_neg (beq_eq_false_iff_ne.1 c)).trans ((if_neg (beq_eq_false_iff_ne.1 d)).trans (if_neg (beq_eq_false_iff_ne.1 g)))]
          exact ⟨VLe.refl _, ble_src rfl, trivial⟩
      · rw [h] at hb
        have hc : nextF xs (at_ + 3) 4 = 0 := by simpa using hb
        have e : repD xs at_ l = repB xs (at_ + 4) ⟨1 + nextF xs at_ 4, nextF xs (at_ + 1) 2, -1, pickF xs (at_ + 2) [0, 0, 0, 1, 30]⟩ := by
          unfold repD repS
          rw [if_pos hv, if_pos hc, Int.add_assoc]
          rfl
        rw [e]
        have ha : okX xs (at_ + 4) := h0.to (by omega) (by omega)
        have ha1 : okX xs (at_ + 4 + 1) := h0.to (by omega) (by omega)
        have e5 : at_ + 5 = at_ + 4 + 1 := by omega
        have e6 : at_ + 6 = at_ + 4 + 2 := by omega
        try simp only [e5, e6]
        generalize at_ + 4 = a at *
        refine ⟨srcO ha, ?_⟩
        refine ⟨fun c => ?_, fun c => ⟨fun d => ?_, fun d => ⟨fun g => ?_, fun g => ?_⟩⟩⟩
        · rw [show repB xs a ⟨1 + nextF xs at_ 4, nextF xs (at_ + 1) 2, -1, pickF xs (at_ + 2) [0, 0, 0, 1, 30]⟩ = _ from if_pos (eq_of_beq c)]
          exact ⟨pickO ⟨ha1, by decide, by decide⟩, trivial, VLe.refl _, ble_src rfl, trivial⟩
        · rw [show repB xs a ⟨1 + nextF xs at_ 4, nextF xs (at_ + 1) 2, -1, pickF xs (at_ + 2) [0, 0, 0, 1, 30]⟩ = _ from (if_neg (beq_eq_false_iff_ne.1 c)).trans (if_pos (eq_of_beq d))]
          exact ⟨pickO ⟨ha1, by decide, by decide⟩, trivial, VLe.refl _, ble_src rfl, trivial⟩
        · rw [show repB xs a ⟨1 + nextF xs at_ 4, nextF xs (at_ + 1) 2, -1, pickF xs (at_ + 2) [0, 0, 0, 1, 30]⟩ = _ from (if_neg (beq_eq_false_iff_ne.1 c)).trans ((if_neg (beq_eq_false_iff_ne.1 d)).trans (if_pos (eq_of_beq g)))]
          exact ⟨pickO ⟨ha1, by decide, by decide⟩, trivial, VLe.refl _, ble_src rfl, trivial⟩
        · rw [show repB xs a ⟨1 + nextF xs at_ 4, nextF xs (at_ + 1) 2, -1, pickF xs (at_ + 2) [0, 0, 0, 1, 30]⟩ = _ from (if_neg (beq_eq_false_iff_ne.1 c)).trans ((if_neg (beq_eq_false_iff_ne.1 d)).trans (if_neg (beq_eq_false_iff_ne.1 g)))]
          exact ⟨VLe.refl _, ble_src rfl, trivial⟩
    · have d1 : decide (nextF xs (at_ + 1) 2 > 0) = false := decide_eq_false hv
      simp only [d1, cond_false]
      refine ⟨srcO h0, inK64 (by omega), srcO (h0.to (by omega) (by omega)), pickO ⟨h0.to (by omega) (by omega), by decide, by decide⟩, trivial, tqB _, fun h => by simp at h, fun _ => trivial, tqB _, fun _ h => h, fun b hb => ⟨fun h => ?_, fun _ => ?_⟩⟩
      · rw [h] at hb; cases hb
      · have e : repD xs at_ l = repB xs (at_ + 3) ⟨1 + nextF xs at_ 4, nextF xs (at_ + 1) 2, -1, pickF xs (at_ + 2) [0, 0, 0, 1, 30]⟩ := by
          unfold repD repS
          rw [if_neg hv]
        rw [e]
        have ha : okX xs (at_ + 3) := h0.to (by omega) (by omega)
        have ha1 : okX xs (at_ + 3 + 1) := h0.to (by omega) (by omega)
        have e5 : at_ + 4 = at_ + 3 + 1 := by omega
        have e6 : at_ + 5 = at_ + 3 + 2 := by omega
        try simp only [e5, e6]
        generalize at_ + 3 = a at *
        refine ⟨srcO ha, ?_⟩
        refine ⟨fun c => ?_, fun c => ⟨fun d => ?_, fun d => ⟨fun g => ?_, fun g => ?_⟩⟩⟩
        · rw [show repB xs a ⟨1 + nextF xs at_ 4, nextF xs (at_ + 1) 2, -1, pickF xs (at_ + 2) [0, 0, 0, 1, 30]⟩ = _ from if_pos (eq_of_beq c)]
          exact ⟨pickO ⟨ha1, by decide, by decide⟩, trivial, VLe.refl _, ble_src rfl, trivial⟩
        · rw [show repB xs a ⟨1 + nextF xs at_ 4, nextF xs (at_ + 1) 2, -1, pickF xs (at_ + 2) [0, 0, 0, 1, 30]⟩ = _ from (if_neg (beq_eq_false_iff_ne.1 c)).trans (if_pos (eq_of_beq d))]
          exact ⟨pickO ⟨ha1, by decide, by decide⟩, trivial, VLe.refl _, ble_src rfl, trivial⟩
        · rw [show repB xs a ⟨1 + nextF xs at_ 4, nextF xs (at_ + 1) 2, -1, pickF xs (at_ + 2) [0, 0, 0, 1, 30]⟩ = _ from (if_neg (beq_eq_false_iff_ne.1 c)).trans ((if_neg (beq_eq_false_iff_ne.1 d)).trans (if_pos (eq_of_beq g)))]
          exact ⟨pickO ⟨ha1, by decide, by decide⟩, trivial, VLe.refl _, ble_src rfl, trivial⟩
        · rw [show repB xs a ⟨1 + nextF xs at_ 4, nextF xs (at_ + 1) 2, -1, pickF xs (at_ + 2) [0, 0, 0, 1, 30]⟩ = _ from (if_neg (beq_eq_false_iff_ne.1 c)).trans ((if_neg (beq_eq_false_iff_ne.1 d)).trans (if_neg (beq_eq_false_iff_ne.1 g)))]
          exact ⟨VLe.refl _, ble_src rfl, trivial⟩
  exact Eq.mp (by kernel_rfl) key
noncomputable def sp73 : FSpec := fun args bin => match args, bin with
  | [.oref i0 j0 o0, a1], [.box [v0, .int .i64 p0]] => some ((i0 = 0 ∧ j0 = 0 ∧ o0 = 0) ∧ VLe v0 (encL encY 1 (decL decY v0)) ∧ VLe a1 (encL (encMsg 1) 1 (((decL decMsg) a1))) ∧ pr73 (decL decY v0) p0 ((decL decMsg) a1), rs73 (decL decY v0) p0 ((decL decMsg) a1), [.box [encL encY 1 (decL decY v0), .int .i64 (ra73 (decL decY v0) p0 ((decL decMsg) a1))]])
  | _, _ => none
theorem so73 : Sound Tryz.prog 73 sp73 := by
  refine sound_of_bodyO hmix (tpl := []) Tryz.func73 rfl (by kernel_rfl) fun args bin ob r bout hDe hob => ?_
  unfold sp73 at hDe
  split at hDe
  · rename_i i0 j0 o0 a1 v0 p0
    cases hDe
    obtain ⟨⟨rfl, rfl, rfl⟩, h0, hv1, hpre⟩ := hob
    have hb := bd73 (decL decY v0) p0 ((decL decMsg) a1) hpre
    exact ⟨Nat.le_of_ble_eq_true (by kernel_rfl), cx73 (decL decY v0) p0 ((decL decMsg) a1), Eq.mp (by kernel_rfl) htt, Eq.mp (by kernel_rfl) da73, Eq.mp (by kernel_rfl) (noM_sound (P := Tryz.prog)), by kernel_rfl, [.oref 0 0 0, encL (encMsg 1) 1 (((decL decMsg) a1))], [(.box [encL encY 1 (decL decY v0), .int .i64 p0])], args_of_vles (l' := [.oref 0 0 0, encL (encMsg 1) 1 (((decL decMsg) a1))]) ⟨VLe.refl _, hv1, trivial⟩, ⟨ble_box ⟨h0, VLe.refl _, trivial⟩, trivial⟩, Eq.mp (by kernel_rfl) hb⟩
  · cases hDe

/-! ### spec.l11With -/
def pr43 (code : List Int) : Prop := okX code 0
noncomputable def ro43 (code : List Int) : Int × List Msg × Replica := (tF code, tL code, tR code)
noncomputable def rb43 (code : List Int) : List Blk := []
noncomputable def rs43 (code : List Int) : V := .tup [.int .i64 ((ro43 code).1), encL (encMsg 1) 2 ((ro43 code).2.1), .agg [.int .i64 (((ro43 code).2.2).id), .int .i64 (((ro43 code).2.2).view), .int .i64 (((ro43 code).2.2).start), .int .i64 (((ro43 code).2.2).done)]]
noncomputable def sp43 : FSpec := fun args bin => match args, bin with
  | [a0], [] => some (VLe a0 (encL encY 1 (((decL decY) a0))) ∧ pr43 ((decL decY) a0), rs43 ((decL decY) a0), rb43 ((decL decY) a0))
  | _, _ => none
noncomputable def D43 : Nat → Option (Bool × FSpec) := lk [(23, (true, sp23)), (25, (true, sp25)), (45, (true, sp45)), (24, (true, sp24z)), (73, (true, sp73))]
theorem da43 : SoundAll Tryz.prog D43 := soundAll_cons so23 (soundAll_cons so25 (soundAll_cons so45 (soundAll_cons so24z (soundAll_cons so73 (soundAll_nil)))))
noncomputable def cx43 (code : List Int) : Cx := ⟨tt, D43, Tryz.f43.ntmps, [0, 2, 3, 4, 5, 6, 7], [], [], fun _ => none, [], noM, []⟩
noncomputable def k43_0 (code : List Int) : Int := (ra45 (decL decY (encL encY 1 (decL decY (encL encY 1 (decL decY (encL encY 1 code)))))) (ra25 (decL decY (encL encY 1 (decL decY (encL encY 1 code)))) (0 : Int)) (List.map (fun (i : Nat) ↦ intA (vi (List.getD [(1 : Int), (1 : Int), (1 : Int), (1 : Int), (1 : Int), (1 : Int), pickF (decL decY (encL encY 1 (decL decY (encL encY 1 code)))) (0 : Int) [(1 : Int), (1 : Int), (1 : Int), (1 : Int), (2 : Int), (0 : Int), (1 : Int), (1 : Int), (3 : Int)]] i (0 : Int)))) (List.range 7)))
noncomputable def k43_1 (code : List Int) : V := (encL encY 1 (decL decY (encL encY 1 (decL decY (encL encY 1 (decL decY (encL encY 1 code)))))))
noncomputable def k43_2 (code : List Int) : List Int := (decL decY (encL encY 1 (decL decY (encL encY 1 code))))
noncomputable def k43_3 (code : List Int) : V := (encL (encMsg 1) 1 (Prod.fst (wrong10 (decL decY (k43_1 code)) (k43_0 code))))
theorem bd43 (code : List Int) (hpre : pr43 code) : bodyO (cx43 code) Tryz.f43 [] [encL encY 1 (code)] [] (fun rr bs => VLe rr (rs43 code) ∧ BinLe bs (rb43 code)) := by
  have key : (((VLe (encL encY 1 code) (encL encY 1 (decL decY (encL encY 1 code)))) ∧ (pr23 (decL decY (encL encY 1 code)))) ∧ ((((0 = 0) ∧ ((0 = 0) ∧ (0 = 0))) ∧ ((VLe (encL encY 1 (decL decY (encL encY 1 code))) (encL encY 1 (k43_2 code))) ∧ (pr25 (k43_2 code) (0 : Int)))) ∧ ((((0 = 0) ∧ ((0 = 0) ∧ (0 = 0))) ∧ ((VLe (encL encY 1 (k43_2 code)) (k43_1 code)) ∧ (((1 = 1) ∧ ((1 = 1) ∧ ((100 = 100) ∧ ((7 = 7) ∧ (∀ i : Nat, ((i < 7) → (ELe (vi (List.getD [(1 : Int), (1 : Int), (1 : Int), (1 : Int), (1 : Int), (1 : Int), pickF (k43_2 code) (0 : Int) [(1 : Int), (1 : Int), (1 : Int), (1 : Int), (2 : Int), (0 : Int), (1 : Int), (1 : Int), (3 : Int)]] i (0 : Int))) (vi (intA (vi (List.getD [(1 : Int), (1 : Int), (1 : Int), (1 : Int), (1 : Int), (1 : Int), pickF (k43_2 code) (0 : Int) [(1 : Int), (1 : Int), (1 : Int), (1 : Int), (2 : Int), (0 : Int), (1 : Int), (1 : Int), (3 : Int)]] i (0 : Int)))))))))))) ∧ (pr45 (decL decY (encL encY 1 (k43_2 code))) (ra25 (k43_2 code) (0 : Int)) (List.map (fun (i : Nat) ↦ intA (vi (List.getD [(1 : Int), (1 : Int), (1 : Int), (1 : Int), (1 : Int), (1 : Int), pickF (k43_2 code) (0 : Int) [(1 : Int), (1 : Int), (1 : Int), (1 : Int), (2 : Int), (0 : Int), (1 : Int), (1 : Int), (3 : Int)]] i (0 : Int)))) (List.range 7)))))) ∧ ((7 = 7) ∧ ((((0 = 0) ∧ ((0 = 0) ∧ (0 = 0))) ∧ ((VLe (k43_1 code) (encL encY 1 (decL decY (k43_1 code)))) ∧ (pr24z (decL decY (k43_1 code)) (k43_0 code)))) ∧ ((((0 = 0) ∧ ((0 = 0) ∧ (0 = 0))) ∧ ((VLe (encL encY 1 (decL decY (k43_1 code))) (encL encY 1 (decL decY (encL encY 1 (decL decY (k43_1 code)))))) ∧ ((VLe (k43_3 code) (encL (encMsg 1) 1 (decL decMsg (k43_3 code)))) ∧ (pr73 (decL decY (encL encY 1 (decL decY (k43_1 code)))) (ra24z (decL decY (k43_1 code)) (k43_0 code)) (decL decMsg (k43_3 code)))))) ∧ ((VLe (V.tup [vi (pickF (decL decY (encL encY 1 (k43_2 code))) (ra25 (k43_2 code) (0 : Int)) (List.map (fun (i : Nat) ↦ intA (vi (List.getD [(1 : Int), (1 : Int), (1 : Int), (1 : Int), (1 : Int), (1 : Int), pickF (k43_2 code) (0 : Int) [(1 : Int), (1 : Int), (1 : Int), (1 : Int), (2 : Int), (0 : Int), (1 : Int), (1 : Int), (3 : Int)]] i (0 : Int)))) (List.range 7))), encL (encMsg 1) 2 (Prod.fst (wrong10 (decL decY (k43_1 code)) (k43_0 code))), encReplica 1 (Prod.fst (repD (decL decY (encL encY 1 (decL decY (k43_1 code)))) (ra24z (decL decY (k43_1 code)) (k43_0 code)) (decL decMsg (k43_3 code))))]) (V.tup [vi (Prod.fst (tF code, tL code, tR code)), encL (encMsg 1) 2 (Prod.fst (tL code, tR code)), encReplica 1 (Prod.snd (tL code, tR code))])) ∧ (True)))))))) := by
    delta k43_3; delta k43_2; delta k43_1; delta k43_0; delta vi
    have h0 : okX code 0 := hpre
    have w := wrong10_bd (h0.to (b := 2) (by omega) (by omega)) (by omega)
    simp only [decL_bytes, decL_Msg, ra25, ra45, ra24z, Int.add_assoc, Int.reduceAdd]
    simp only [pk13]
    exact ⟨⟨VLe.refl _, trivial⟩, srcO h0, pickO ⟨h0.to (by omega) (by omega), by simp, by simp⟩, trivial, srcO ⟨h0.to (by omega) (by omega), by omega⟩, ⟨⟨trivial, trivial, trivial⟩, VLe.refl _, VLe.refl _, h0.to (by omega) (by omega), by omega, by omega⟩, VLe.refl _, trivial⟩
  exact Eq.mp (by kernel_rfl) key
theorem so43 : Sound Tryz.prog 43 sp43 := by
  refine sound_of_bodyO hmix (tpl := []) Tryz.func43 rfl (by kernel_rfl) fun args bin ob r bout hDe hob => ?_
  unfold sp43 at hDe
  split at hDe
  · rename_i a0
    cases hDe
    exact ⟨Nat.le_of_ble_eq_true (by kernel_rfl), cx43 ((decL decY) a0), Eq.mp (by kernel_rfl) htt, Eq.mp (by kernel_rfl) da43, Eq.mp (by kernel_rfl) (noM_sound (P := Tryz.prog)), by kernel_rfl, [encL encY 1 (((decL decY) a0))], [], args_of_vles (⟨hob.1, trivial⟩), trivial, Eq.mp (by kernel_rfl) (bd43 ((decL decY) a0) (hob.2))⟩
  · cases hDe

/-! ### spec.DrawChangeMsg -/
def pr15 (code : List Int) : Prop := okX code 0
noncomputable def ro15 (code : List Int) : Int × List Msg × Replica × Int := (tF code, tL code, tR code, tV code)
noncomputable def rb15 (code : List Int) : List Blk := []
noncomputable def rs15 (code : List Int) : V := .tup [.int .i64 ((ro15 code).1), encL (encMsg 1) 2 ((ro15 code).2.1), .agg [.int .i64 (((ro15 code).2.2.1).id), .int .i64 (((ro15 code).2.2.1).view), .int .i64 (((ro15 code).2.2.1).start), .int .i64 (((ro15 code).2.2.1).done)], .int .i64 ((ro15 code).2.2.2)]
noncomputable def sp15 : FSpec := fun args bin => match args, bin with
  | [a0], [] => some (VLe a0 (encL encY 1 (((decL decY) a0))) ∧ pr15 ((decL decY) a0), rs15 ((decL decY) a0), rb15 ((decL decY) a0))
  | _, _ => none
noncomputable def D15 : Nat → Option (Bool × FSpec) := lk [(43, (false, sp43)), (44, (true, sp44)), (45, (true, sp45))]
theorem da15 : SoundAll Tryz.prog D15 := soundAll_cons so43 (soundAll_cons so44 (soundAll_cons so45 (soundAll_nil)))
noncomputable def cx15 (code : List Int) : Cx := ⟨tt, D15, Tryz.f15.ntmps, [0, 2, 3, 4, 5, 6, 7, 8, 9], [], [], fun _ => none, [], noM, []⟩
noncomputable def k15_0 (code : List Int) : V := (encL encY 1 (decL decY (encL encY 1 code)))
theorem bd15 (code : List Int) (hpre : pr15 code) : bodyO (cx15 code) Tryz.f15 [] [encL encY 1 (code)] [] (fun rr bs => VLe rr (rs15 code) ∧ BinLe bs (rb15 code)) := by
  have key : (((VLe (encL encY 1 code) (k15_0 code)) ∧ (pr43 (decL decY (encL encY 1 code)))) ∧ (((VLe (encL encY 1 code) (k15_0 code)) ∧ (pr44 (decL decY (encL encY 1 code)) (3 : Int))) ∧ ((((0 = 0) ∧ ((0 = 0) ∧ (0 = 0))) ∧ ((VLe (k15_0 code) (encL encY 1 (decL decY (k15_0 code)))) ∧ (((1 = 1) ∧ ((1 = 1) ∧ ((100 = 100) ∧ ((5 = 5) ∧ (∀ i : Nat, ((i < 5) → (ELe (vi (List.getD [(1 : Int), (2 : Int), (3 : Int), (0 : Int), (21 : Int)] i (0 : Int))) (vi (intA (vi (List.getD [(1 : Int), (2 : Int), (3 : Int), (0 : Int), (21 : Int)] i (0 : Int)))))))))))) ∧ (pr45 (decL decY (k15_0 code)) ((5 : Int) + (7 : Int) * (3 : Int)) (List.map (fun (i : Nat) ↦ intA (vi (List.getD [(1 : Int), (2 : Int), (3 : Int), (0 : Int), (21 : Int)] i (0 : Int)))) (List.range 5)))))) ∧ ((5 = 5) ∧ ((VLe (V.tup [vi (Prod.fst (tF (decL decY (encL encY 1 code)), tL (decL decY (encL encY 1 code)), tR (decL decY (encL encY 1 code)))), encL (encMsg 1) 2 (Prod.fst (tL (decL decY (encL encY 1 code)), tR (decL decY (encL encY 1 code)))), encReplica 1 (Prod.snd (tL (decL decY (encL encY 1 code)), tR (decL decY (encL encY 1 code)))), vi (pickF (decL decY (k15_0 code)) ((5 : Int) + (7 : Int) * (3 : Int)) (List.map (fun (i : Nat) ↦ intA (vi (List.getD [(1 : Int), (2 : Int), (3 : Int), (0 : Int), (21 : Int)] i (0 : Int)))) (List.range 5)))]) (V.tup [vi (Prod.fst (tF code, tL code, tR code, tV code)), encL (encMsg 1) 2 (Prod.fst (tL code, tR code, tV code)), encReplica 1 (Prod.fst (tR code, tV code)), vi (Prod.snd (tR code, tV code))])) ∧ (True)))))) := by
    delta k15_0; delta vi
    have h0 : okX code 0 := hpre
    simp only [decL_bytes, decL_Msg]
    have h26 : okX code (5 + 7 * 3) := h0.to (by omega) (by omega)
    simp only [pk12]
    exact ⟨⟨VLe.refl _, h0⟩, ⟨VLe.refl _, by decide, by decide⟩, pickO ⟨h26, by decide, by decide⟩, trivial, VLe.refl _, trivial⟩
  exact Eq.mp (by kernel_rfl) key
theorem so15 : Sound Tryz.prog 15 sp15 := by
  refine sound_of_bodyO hmix (tpl := []) Tryz.func15 rfl (by kernel_rfl) fun args bin ob r bout hDe hob => ?_
  unfold sp15 at hDe
  split at hDe
  · rename_i a0
    cases hDe
    exact ⟨Nat.le_of_ble_eq_true (by kernel_rfl), cx15 ((decL decY) a0), Eq.mp (by kernel_rfl) htt, Eq.mp (by kernel_rfl) da15, Eq.mp (by kernel_rfl) (noM_sound (P := Tryz.prog)), by kernel_rfl, [encL encY 1 (((decL decY) a0))], [], args_of_vles (⟨hob.1, trivial⟩), trivial, Eq.mp (by kernel_rfl) (bd15 ((decL decY) a0) (hob.2))⟩
  · cases hDe

/-! ### spec.DrawNewMsg -/
def pr19 (code : List Int) : Prop := okX code 0
noncomputable def ro19 (code : List Int) : Int × List Msg × Replica := (tF code, tL code, uR code)
noncomputable def rb19 (code : List Int) : List Blk := []
noncomputable def rs19 (code : List Int) : V := .tup [.int .i64 ((ro19 code).1), encL (encMsg 1) 2 ((ro19 code).2.1), .agg [.int .i64 (((ro19 code).2.2).id), .int .i64 (((ro19 code).2.2).view), .int .i64 (((ro19 code).2.2).start), .int .i64 (((ro19 code).2.2).done)]]
noncomputable def sp19 : FSpec := fun args bin => match args, bin with
  | [a0], [] => some (VLe a0 (encL encY 1 (((decL decY) a0))) ∧ pr19 ((decL decY) a0), rs19 ((decL decY) a0), rb19 ((decL decY) a0))
  | _, _ => none
noncomputable def D19 : Nat → Option (Bool × FSpec) := lk [(43, (false, sp43)), (44, (true, sp44)), (52, (true, sp52))]
theorem da19 : SoundAll Tryz.prog D19 := soundAll_cons so43 (soundAll_cons so44 (soundAll_cons so52 (soundAll_nil)))
noncomputable def cx19 (code : List Int) : Cx := ⟨tt, D19, Tryz.f19.ntmps, [0, 2, 3, 4, 5, 6, 7, 8, 18], [], [], fun _ => none, [], noM, []⟩
noncomputable def k19_0 (code : List Int) : V := (encL encY 1 (decL decY (encL encY 1 code)))
noncomputable def k19_1 (code : List Int) : V := (V.tup [vi (Prod.fst (tF code, tL code, uR code)), encL (encMsg 1) 2 (Prod.fst (tL code, uR code)), encReplica 1 (Prod.snd (tL code, uR code))])
theorem bd19 (code : List Int) (hpre : pr19 code) : bodyO (cx19 code) Tryz.f19 [] [encL encY 1 (code)] [] (fun rr bs => VLe rr (rs19 code) ∧ BinLe bs (rb19 code)) := by
  have key : (((VLe (encL encY 1 code) (k19_0 code)) ∧ (pr43 (decL decY (encL encY 1 code)))) ∧ (((VLe (encL encY 1 code) (k19_0 code)) ∧ (pr44 (decL decY (encL encY 1 code)) (3 : Int))) ∧ ((((0 = 0) ∧ ((0 = 0) ∧ (0 = 0))) ∧ ((VLe (k19_0 code) (encL encY 1 (decL decY (k19_0 code)))) ∧ (pr52 (decL decY (k19_0 code)) ((5 : Int) + (7 : Int) * (3 : Int)) (2 : Int)))) ∧ (((decide (nextF (decL decY (k19_0 code)) ((5 : Int) + (7 : Int) * (3 : Int)) (2 : Int) = (0 : Int)) = true) → ((VLe (V.tup [vi (Prod.fst (tF (decL decY (encL encY 1 code)), tL (decL decY (encL encY 1 code)), tR (decL decY (encL encY 1 code)))), encL (encMsg 1) 2 (Prod.fst (tL (decL decY (encL encY 1 code)), tR (decL decY (encL encY 1 code)))), V.agg [vi (2 : Int), vi (1 : Int), vi (-1 : Int), vi (0 : Int)]]) (k19_1 code)) ∧ (True))) ∧ ((decide (nextF (decL decY (k19_0 code)) ((5 : Int) + (7 : Int) * (3 : Int)) (2 : Int) = (0 : Int)) = false) → ((VLe (V.tup [vi (Prod.fst (tF (decL decY (encL encY 1 code)), tL (decL decY (encL encY 1 code)), tR (decL decY (encL encY 1 code)))), encL (encMsg 1) 2 (Prod.fst (tL (decL decY (encL encY 1 code)), tR (decL decY (encL encY 1 code)))), encReplica 1 (Prod.snd (tL (decL decY (encL encY 1 code)), tR (decL decY (encL encY 1 code))))]) (k19_1 code)) ∧ (True))))))) := by
    delta k19_1; delta k19_0; delta vi
    have h0 : okX code 0 := hpre
    simp only [decL_bytes, decL_Msg]
    have h26 : okX code (5 + 7 * 3) := h0.to (by omega) (by omega)
    have e26 : (5 : Int) + 7 * 3 = 26 := rfl
    refine ⟨⟨VLe.refl _, h0⟩, ⟨VLe.refl _, by decide, by decide⟩, srcO h26, fun c => ?_, fun c => ?_⟩
    · have e : uR code = ⟨2, 1, -1, 0⟩ := if_pos (of_decide_eq_true c)
      rw [e]
      exact ⟨VLe.refl _, trivial⟩
    · have e : uR code = tR code := if_neg (of_decide_eq_false c)
      rw [e]
      exact ⟨VLe.refl _, trivial⟩
  exact Eq.mp (by kernel_rfl) key
theorem so19 : Sound Tryz.prog 19 sp19 := by
  refine sound_of_bodyO hmix (tpl := []) Tryz.func19 rfl (by kernel_rfl) fun args bin ob r bout hDe hob => ?_
  unfold sp19 at hDe
  split at hDe
  · rename_i a0
    cases hDe
    exact ⟨Nat.le_of_ble_eq_true (by kernel_rfl), cx19 ((decL decY) a0), Eq.mp (by kernel_rfl) htt, Eq.mp (by kernel_rfl) da19, Eq.mp (by kernel_rfl) (noM_sound (P := Tryz.prog)), by kernel_rfl, [encL encY 1 (((decL decY) a0))], [], args_of_vles (⟨hob.1, trivial⟩), trivial, Eq.mp (by kernel_rfl) (bd19 ((decL decY) a0) (hob.2))⟩
  · cases hDe

end Go.Av
