/- The text of an event. -/
import Derived.Test.YtgefdljcommhhaaGreatDoorW1
import Derived.Test.YtgefdljcommhhaaGreatDoorP3
namespace Go.Av
open Go.Proofs
set_option maxRecDepth 100000
set_option maxHeartbeats 2000000
set_option linter.unusedVariables false
set_option linter.unusedSimpArgs false

theorem tqJ (x : Bool) : tq x := fun h _ => h
theorem inU8 {n : Int} (h : 0 ≤ n ∧ n ≤ 255) : inK .u8 n := Go.IntWalk.u8_in _ h
theorem ev_ok {p : Prop} [Decidable p] {c : Int} (h : ((if ¬ p then 3 else c) != 0) = false) : ¬ ¬ p ∧ c = 0 := by
  have h1 : (if ¬ p then 3 else c) = 0 := by simpa using h
  by_cases c1 : ¬ p
  · rw [if_pos c1] at h1
    cases h1
  · rw [if_neg c1] at h1
    exact ⟨c1, h1⟩
def wordF (k : Int) : ByteArray := ([⟨#[]⟩, ⟨#[109, 97, 100, 101]⟩, ⟨#[103, 111, 110, 101]⟩, ⟨#[116, 117, 114, 110, 101, 100]⟩] : List ByteArray).getD k.toNat default
theorem wordF_le {k : Int} (h : 1 ≤ k ∧ k ≤ 3) : (wordF k).size ≤ 6 := by
  have : k = 1 ∨ k = 2 ∨ k = 3 := by omega
  rcases this with rfl | rfl | rfl <;> decide
def eventT (e : TEvent) : ByteArray := ((((⟨#[101, 118, 101, 110, 116, 32]⟩ : ByteArray) ++ digT e.client) ++ ⟨#[32]⟩) ++ e.path ++ ⟨#[32]⟩) ++ wordF e.kind
noncomputable def eventF (e : TEvent) : TextResult :=
  if ¬ inR e.client 1 9 then ⟨3, ⟨#[]⟩⟩ else if pathF e.path ≠ 0 then ⟨pathF e.path, ⟨#[]⟩⟩ else if ¬ inR e.kind 1 3 then ⟨1, ⟨#[]⟩⟩ else ⟨0, eventT e⟩
theorem agT {c : Int} {t : ByteArray} {x : TextResult} (h : x = ⟨c, t⟩) : VLe (.agg [.int .i64 c, .str t]) (encTextResult 1 x) := by
  subst h
  exact VLe.refl _

/-! ### spec.l1Digits -/
def pr74 (n : Int) : Prop := inR n 0 9
noncomputable def rs74 (n : Int) : V := .str (digT n)
noncomputable def sp74 : FSpec := fun args bin => match args, bin with
  | [.int .i64 a0], [] => some (pr74 a0, rs74 a0, [])
  | _, _ => none
noncomputable def D74 : Nat → Option (Bool × FSpec) := lk []
theorem da74 : SoundAll Tryz.prog D74 := soundAll_nil
noncomputable def cx74 (n : Int) : Cx := ⟨tt, D74, Tryz.f74.ntmps, [0, 2, 4, 10], [], [2, 5], fun _ => none, [], noM, []⟩
theorem bd74 (n : Int) (hpre : pr74 n) : bodyP (cx74 n) Tryz.f74 0 [.int .i64 (n)] (fun rr => VLe rr (rs74 n)) := by
  have key : (((decide (n < (0 : Int)) = true) → (False)) ∧ ((decide (n < (0 : Int)) = false) → (((decide (n < (10 : Int)) = true) → ((inK IntKind.i64 ((48 : Int) + n)) ∧ ((inK IntKind.u8 ((48 : Int) + n)) ∧ ((∀ i : Nat, ((i < 1) → (isU8V (V.int IntKind.u8 (List.getD [(48 : Int) + n] i (0 : Int))) = true))) ∧ (VLe (V.str (bytesV 1 (rowg [V.int IntKind.u8 ((48 : Int) + n)]))) (V.str (digT n))))))) ∧ ((decide (n < (10 : Int)) = false) → (False))))) := by
    unfold pr74 inR at hpre
    exact ⟨fun h => by have := of_decide_eq_true h; omega, fun _ => ⟨fun _ => ⟨inK64 (by omega), inU8 (by omega), fun i hi => by
      have : i = 0 := by omega
      subst this
      rfl, VLe.refl _⟩, fun h => by have := of_decide_eq_false h; omega⟩⟩
  exact Eq.mp (by kernel_rfl) key
theorem so74 : Sound Tryz.prog 74 sp74 := by
  refine sound_of_body hmix (pol := 0) Tryz.func74 rfl (by kernel_rfl) fun args bin ob r bout hDe hob => ?_
  unfold sp74 at hDe
  split at hDe
  · rename_i a0
    cases hDe
    exact ⟨rfl, rfl, Nat.le_of_ble_eq_true (by kernel_rfl), cx74 a0, Eq.mp (by kernel_rfl) htt, Eq.mp (by kernel_rfl) da74, Eq.mp (by kernel_rfl) (noM_sound (P := Tryz.prog)), by kernel_rfl, [.int .i64 (a0)], args_of_vles (⟨VLe.refl _, trivial⟩), Eq.mp (by kernel_rfl) (bd74 a0 (hob))⟩
  · cases hDe

/-! ### internal/strconv.small -/
def pr81 (n : Int) : Prop := inR n 0 9
noncomputable def rs81 (n : Int) : V := .str (digT n)
noncomputable def sp81 : FSpec := fun args bin => match args, bin with
  | [.int .i64 a0], [] => some (pr81 a0, rs81 a0, [])
  | _, _ => none
noncomputable def D81 : Nat → Option (Bool × FSpec) := lk []
theorem da81 : SoundAll Tryz.prog D81 := soundAll_nil
noncomputable def cx81 (n : Int) : Cx := ⟨tt, D81, Tryz.f81.ntmps, [0, 2, 4], [], [3], fun _ => none, [], noM, []⟩
theorem bd81 (n : Int) (hpre : pr81 n) : bodyP (cx81 n) Tryz.f81 0 [.int .i64 (n)] (fun rr => VLe rr (rs81 n)) := by
  have key : (((decide (n < (10 : Int)) = true) → ((inK IntKind.i64 (n + (1 : Int))) ∧ ((((0 : Int) ≤ Option.getD (some n) (0 : Int)) ∧ ((Option.getD (some n) (0 : Int) ≤ Option.getD (some (n + (1 : Int))) (↑(ByteArray.size (ByteArray.mk #[(48 : UInt8), (49 : UInt8), (50 : UInt8), (51 : UInt8), (52 : UInt8), (53 : UInt8), (54 : UInt8), (55 : UInt8), (56 : UInt8), (57 : UInt8), (97 : UInt8), (98 : UInt8), (99 : UInt8), (100 : UInt8), (101 : UInt8), (102 : UInt8), (103 : UInt8), (104 : UInt8), (105 : UInt8), (106 : UInt8), (107 : UInt8), (108 : UInt8), (109 : UInt8), (110 : UInt8), (111 : UInt8), (112 : UInt8), (113 : UInt8), (114 : UInt8), (115 : UInt8), (116 : UInt8), (117 : UInt8), (118 : UInt8), (119 : UInt8), (120 : UInt8), (121 : UInt8), (122 : UInt8)])) : Int)) ∧ (Option.getD (some (n + (1 : Int))) (↑(ByteArray.size (ByteArray.mk #[(48 : UInt8), (49 : UInt8), (50 : UInt8), (51 : UInt8), (52 : UInt8), (53 : UInt8), (54 : UInt8), (55 : UInt8), (56 : UInt8), (57 : UInt8), (97 : UInt8), (98 : UInt8), (99 : UInt8), (100 : UInt8), (101 : UInt8), (102 : UInt8), (103 : UInt8), (104 : UInt8), (105 : UInt8), (106 : UInt8), (107 : UInt8), (108 : UInt8), (109 : UInt8), (110 : UInt8), (111 : UInt8), (112 : UInt8), (113 : UInt8), (114 : UInt8), (115 : UInt8), (116 : UInt8), (117 : UInt8), (118 : UInt8), (119 : UInt8), (120 : UInt8), (121 : UInt8), (122 : UInt8)])) : Int) ≤ (↑(ByteArray.size (ByteArray.mk #[(48 : UInt8), (49 : UInt8), (50 : UInt8), (51 : UInt8), (52 : UInt8), (53 : UInt8), (54 : UInt8), (55 : UInt8), (56 : UInt8), (57 : UInt8), (97 : UInt8), (98 : UInt8), (99 : UInt8), (100 : UInt8), (101 : UInt8), (102 : UInt8), (103 : UInt8), (104 : UInt8), (105 : UInt8), (106 : UInt8), (107 : UInt8), (108 : UInt8), (109 : UInt8), (110 : UInt8), (111 : UInt8), (112 : UInt8), (113 : UInt8), (114 : UInt8), (115 : UInt8), (116 : UInt8), (117 : UInt8), (118 : UInt8), (119 : UInt8), (120 : UInt8), (121 : UInt8), (122 : UInt8)])) : Int)))) ∧ (VLe (V.str (ByteArray.extract (ByteArray.mk #[(48 : UInt8), (49 : UInt8), (50 : UInt8), (51 : UInt8), (52 : UInt8), (53 : UInt8), (54 : UInt8), (55 : UInt8), (56 : UInt8), (57 : UInt8), (97 : UInt8), (98 : UInt8), (99 : UInt8), (100 : UInt8), (101 : UInt8), (102 : UInt8), (103 : UInt8), (104 : UInt8), (105 : UInt8), (106 : UInt8), (107 : UInt8), (108 : UInt8), (109 : UInt8), (110 : UInt8), (111 : UInt8), (112 : UInt8), (113 : UInt8), (114 : UInt8), (115 : UInt8), (116 : UInt8), (117 : UInt8), (118 : UInt8), (119 : UInt8), (120 : UInt8), (121 : UInt8), (122 : UInt8)]) (Int.toNat (Option.getD (some n) (0 : Int))) (Int.toNat (Option.getD (some (n + (1 : Int))) (↑(ByteArray.size (ByteArray.mk #[(48 : UInt8), (49 : UInt8), (50 : UInt8), (51 : UInt8), (52 : UInt8), (53 : UInt8), (54 : UInt8), (55 : UInt8), (56 : UInt8), (57 : UInt8), (97 : UInt8), (98 : UInt8), (99 : UInt8), (100 : UInt8), (101 : UInt8), (102 : UInt8), (103 : UInt8), (104 : UInt8), (105 : UInt8), (106 : UInt8), (107 : UInt8), (108 : UInt8), (109 : UInt8), (110 : UInt8), (111 : UInt8), (112 : UInt8), (113 : UInt8), (114 : UInt8), (115 : UInt8), (116 : UInt8), (117 : UInt8), (118 : UInt8), (119 : UInt8), (120 : UInt8), (121 : UInt8), (122 : UInt8)])) : Int))))) (V.str (digT n)))))) ∧ ((decide (n < (10 : Int)) = false) → (False))) := by
    unfold pr81 inR at hpre
    have h : n = 0 ∨ n = 1 ∨ n = 2 ∨ n = 3 ∨ n = 4 ∨ n = 5 ∨ n = 6 ∨ n = 7 ∨ n = 8 ∨ n = 9 := by omega
    rcases h with rfl | rfl | rfl | rfl | rfl | rfl | rfl | rfl | rfl | rfl <;>
      exact ⟨fun _ => ⟨inK64 (by omega), by decide, vle_str (bytes_ext (by rw [extract_list]; rfl))⟩, fun h => by simp at h⟩
  exact Eq.mp (by kernel_rfl) key
theorem so81 : Sound Tryz.prog 81 sp81 := by
  refine sound_of_body hmix (pol := 0) Tryz.func81 rfl (by kernel_rfl) fun args bin ob r bout hDe hob => ?_
  unfold sp81 at hDe
  split at hDe
  · rename_i a0
    cases hDe
    exact ⟨rfl, rfl, Nat.le_of_ble_eq_true (by kernel_rfl), cx81 a0, Eq.mp (by kernel_rfl) htt, Eq.mp (by kernel_rfl) da81, Eq.mp (by kernel_rfl) (noM_sound (P := Tryz.prog)), by kernel_rfl, [.int .i64 (a0)], args_of_vles (⟨VLe.refl _, trivial⟩), Eq.mp (by kernel_rfl) (bd81 a0 (hob))⟩
  · cases hDe

/-! ### internal/strconv.FormatInt -/
def pr73 (n : Int) (b : Int) : Prop := inR n 0 9 ∧ b = 10
noncomputable def rs73 (n : Int) (b : Int) : V := .str (digT n)
noncomputable def sp73 : FSpec := fun args bin => match args, bin with
  | [.int .i64 a0, .int .i64 a1], [] => some (pr73 a0 a1, rs73 a0 a1, [])
  | _, _ => none
noncomputable def D73 : Nat → Option (Bool × FSpec) := lk [(81, (false, sp81))]
theorem da73 : SoundAll Tryz.prog D73 := soundAll_cons so81 (soundAll_nil)
noncomputable def cx73 (n : Int) (b : Int) : Cx := ⟨tt, D73, Tryz.f73.ntmps, [0, 1, 4, 5, 6, 7, 9, 11, 17, 23, 34], [], [4, 14], fun _ => none, [], noM, []⟩
theorem bd73 (n : Int) (b : Int) (hpre : pr73 n b) : bodyP (cx73 n b) Tryz.f73 0 [.int .i64 (n), .int .i64 (b)] (fun rr => VLe rr (rs73 n b)) := by
  have key : ((((b == (10 : Int)) = true) → ((tq (decide ((0 : Int) ≤ n))) ∧ (((true = true) → ((decide ((0 : Int) ≤ n) = true) → (decide ((0 : Int) ≤ n) = true))) ∧ (∀ b_1 : Bool, ((b_1 = bif decide ((0 : Int) ≤ n) then decide (n < (100 : Int)) else false) → (((b_1 = true) → ((pr81 n) ∧ (VLe (V.str (digT n)) (V.str (digT n))))) ∧ ((b_1 = false) → (False)))))))) ∧ (((b == (10 : Int)) = false) → (False))) := by
    obtain ⟨h, rfl⟩ := hpre
    have h' := h
    unfold inR at h'
    refine ⟨fun _ => ⟨tqJ _, fun _ h => h, fun q hq => ⟨fun _ => ⟨h, VLe.refl _⟩, fun h2 => ?_⟩⟩, fun h => by simp at h⟩
    have a1 : decide (0 ≤ n) = true := decide_eq_true (by omega)
    have a2 : decide (n < 100) = true := decide_eq_true (by omega)
    rw [hq, a1, a2] at h2
    cases h2
  exact Eq.mp (by kernel_rfl) key
theorem so73 : Sound Tryz.prog 73 sp73 := by
  refine sound_of_body hmix (pol := 0) Tryz.func73 rfl (by kernel_rfl) fun args bin ob r bout hDe hob => ?_
  unfold sp73 at hDe
  split at hDe
  · rename_i a0 a1
    cases hDe
    exact ⟨rfl, rfl, Nat.le_of_ble_eq_true (by kernel_rfl), cx73 a0 a1, Eq.mp (by kernel_rfl) htt, Eq.mp (by kernel_rfl) da73, Eq.mp (by kernel_rfl) (noM_sound (P := Tryz.prog)), by kernel_rfl, [.int .i64 (a0), .int .i64 (a1)], args_of_vles (⟨VLe.refl _, VLe.refl _, trivial⟩), Eq.mp (by kernel_rfl) (bd73 a0 a1 (hob))⟩
  · cases hDe

/-! ### strconv.FormatInt -/
def pr52 (n : Int) (b : Int) : Prop := inR n 0 9 ∧ b = 10
noncomputable def rs52 (n : Int) (b : Int) : V := .str (digT n)
noncomputable def sp52 : FSpec := fun args bin => match args, bin with
  | [.int .i64 a0, .int .i64 a1], [] => some (pr52 a0 a1, rs52 a0 a1, [])
  | _, _ => none
noncomputable def D52 : Nat → Option (Bool × FSpec) := lk [(73, (false, sp73))]
theorem da52 : SoundAll Tryz.prog D52 := soundAll_cons so73 (soundAll_nil)
noncomputable def cx52 (n : Int) (b : Int) : Cx := ⟨tt, D52, Tryz.f52.ntmps, [0, 1, 4], [], [], fun _ => none, [], noM, []⟩
theorem bd52 (n : Int) (b : Int) (hpre : pr52 n b) : bodyP (cx52 n b) Tryz.f52 0 [.int .i64 (n), .int .i64 (b)] (fun rr => VLe rr (rs52 n b)) := by
  have key : ((pr73 n b) ∧ (VLe (V.str (digT n)) (V.str (digT n)))) := by
    exact ⟨hpre, VLe.refl _⟩
  exact Eq.mp (by kernel_rfl) key
theorem so52 : Sound Tryz.prog 52 sp52 := by
  refine sound_of_body hmix (pol := 0) Tryz.func52 rfl (by kernel_rfl) fun args bin ob r bout hDe hob => ?_
  unfold sp52 at hDe
  split at hDe
  · rename_i a0 a1
    cases hDe
    exact ⟨rfl, rfl, Nat.le_of_ble_eq_true (by kernel_rfl), cx52 a0 a1, Eq.mp (by kernel_rfl) htt, Eq.mp (by kernel_rfl) da52, Eq.mp (by kernel_rfl) (noM_sound (P := Tryz.prog)), by kernel_rfl, [.int .i64 (a0), .int .i64 (a1)], args_of_vles (⟨VLe.refl _, VLe.refl _, trivial⟩), Eq.mp (by kernel_rfl) (bd52 a0 a1 (hob))⟩
  · cases hDe

/-! ### impl.decimal -/
def pr23 (n : Int) : Prop := inR n 0 9
noncomputable def rs23 (n : Int) : V := .str (digT n)
noncomputable def sp23 : FSpec := fun args bin => match args, bin with
  | [.int .i64 a0], [] => some (pr23 a0, rs23 a0, [])
  | _, _ => none
noncomputable def D23 : Nat → Option (Bool × FSpec) := lk [(52, (false, sp52))]
theorem da23 : SoundAll Tryz.prog D23 := soundAll_cons so52 (soundAll_nil)
noncomputable def cx23 (n : Int) : Cx := ⟨tt, D23, Tryz.f23.ntmps, [0, 2], [], [], fun _ => none, [], noM, []⟩
theorem bd23 (n : Int) (hpre : pr23 n) : bodyP (cx23 n) Tryz.f23 0 [.int .i64 (n)] (fun rr => VLe rr (rs23 n)) := by
  have key : ((pr52 n (10 : Int)) ∧ (VLe (V.str (digT n)) (V.str (digT n)))) := by
    exact ⟨⟨hpre, rfl⟩, VLe.refl _⟩
  exact Eq.mp (by kernel_rfl) key
theorem so23 : Sound Tryz.prog 23 sp23 := by
  refine sound_of_body hmix (pol := 0) Tryz.func23 rfl (by kernel_rfl) fun args bin ob r bout hDe hob => ?_
  unfold sp23 at hDe
  split at hDe
  · rename_i a0
    cases hDe
    exact ⟨rfl, rfl, Nat.le_of_ble_eq_true (by kernel_rfl), cx23 a0, Eq.mp (by kernel_rfl) htt, Eq.mp (by kernel_rfl) da23, Eq.mp (by kernel_rfl) (noM_sound (P := Tryz.prog)), by kernel_rfl, [.int .i64 (a0)], args_of_vles (⟨VLe.refl _, trivial⟩), Eq.mp (by kernel_rfl) (bd23 a0 (hob))⟩
  · cases hDe

/-! ### impl.EventText -/
def pr9 (e : TEvent) : Prop := True
noncomputable def rs9 (e : TEvent) : V := encTextResult 0 (eventF e)
noncomputable def sp9 : FSpec := fun args bin => match args, bin with
  | [a0], [] => some (VLe a0 (encTEvent 1 ((decTEvent a0))) ∧ pr9 (decTEvent a0), rs9 (decTEvent a0), [])
  | _, _ => none
noncomputable def D9 : Nat → Option (Bool × FSpec) := lk [(21, (false, sp21)), (22, (false, sp22)), (23, (false, sp23))]
theorem da9 : SoundAll Tryz.prog D9 := soundAll_cons so21 (soundAll_cons so22 (soundAll_cons so23 (soundAll_nil)))
noncomputable def cx9 (e : TEvent) : Cx := ⟨tt, D9, Tryz.f9.ntmps, [0, 1, 2, 3, 4, 12, 18], [], [], fun _ => none, [], noM, []⟩
noncomputable def k9_0 (e : TEvent) : V := (V.agg [vi (TEvent.client e), V.str (TEvent.path e)])
theorem bd9 (e : TEvent) (hpre : pr9 e) : bodyP (cx9 e) Tryz.f9 0 [encTEvent 1 (e)] (fun rr => VLe rr (rs9 e)) := by
  have key : (((VLe (k9_0 e) (encWatch 1 (decWatch (k9_0 e)))) ∧ (pr21 (decWatch (k9_0 e)))) ∧ ((((watchF (decWatch (k9_0 e)) != (0 : Int)) = true) → (VLe (V.agg [vi (watchF (decWatch (k9_0 e))), V.str (ByteArray.mk #[])]) (encTextResult 1 (eventF e)))) ∧ (((watchF (decWatch (k9_0 e)) != (0 : Int)) = false) → ((pr22 (TEvent.kind e) (1 : Int) (3 : Int)) ∧ ((((!decide (inR (TEvent.kind e) (1 : Int) (3 : Int))) = true) → (VLe (V.agg [vi (1 : Int), V.str (ByteArray.mk #[])]) (encTextResult 1 (eventF e)))) ∧ (((!decide (inR (TEvent.kind e) (1 : Int) (3 : Int))) = false) → ((inK IntKind.i64 (TEvent.kind e - (1 : Int))) ∧ ((((0 : Int) ≤ TEvent.kind e - (1 : Int)) ∧ (TEvent.kind e - (1 : Int) < (↑3 : Int))) ∧ ((Int.toNat (TEvent.kind e - (1 : Int)) < 3) ∧ ((pr23 (TEvent.client e)) ∧ ((7 ≤ 4611686018427387904) ∧ ((8 ≤ 4611686018427387904) ∧ ((8 + ByteArray.size (TEvent.path e) ≤ 4611686018427387904) ∧ ((ByteArray.size (ByteArray.mk #[(101 : UInt8), (118 : UInt8), (101 : UInt8), (110 : UInt8), (116 : UInt8), (32 : UInt8)] ++ digT (TEvent.client e) ++ ByteArray.mk #[(32 : UInt8)] ++ TEvent.path e) + 1 ≤ 4611686018427387904) ∧ ((ByteArray.size (ByteArray.mk #[(101 : UInt8), (118 : UInt8), (101 : UInt8), (110 : UInt8), (116 : UInt8), (32 : UInt8)] ++ digT (TEvent.client e) ++ ByteArray.mk #[(32 : UInt8)] ++ TEvent.path e ++ ByteArray.mk #[(32 : UInt8)]) + ByteArray.size (List.getD [ByteArray.mk #[(109 : UInt8), (97 : UInt8), (100 : UInt8), (101 : UInt8)], ByteArray.mk #[(103 : UInt8), (111 : UInt8), (110 : UInt8), (101 : UInt8)], ByteArray.mk #[(116 : UInt8), (117 : UInt8), (114 : UInt8), (110 : UInt8), (101 : UInt8), (100 : UInt8)]] (Int.toNat (TEvent.kind e - (1 : Int))) default) ≤ 4611686018427387904) ∧ (VLe (V.agg [vi (0 : Int), V.str (ByteArray.mk #[(101 : UInt8), (118 : UInt8), (101 : UInt8), (110 : UInt8), (116 : UInt8), (32 : UInt8)] ++ digT (TEvent.client e) ++ ByteArray.mk #[(32 : UInt8)] ++ TEvent.path e ++ ByteArray.mk #[(32 : UInt8)] ++ List.getD [ByteArray.mk #[(109 : UInt8), (97 : UInt8), (100 : UInt8), (101 : UInt8)], ByteArray.mk #[(103 : UInt8), (111 : UInt8), (110 : UInt8), (101 : UInt8)], ByteArray.mk #[(116 : UInt8), (117 : UInt8), (114 : UInt8), (110 : UInt8), (101 : UInt8), (100 : UInt8)]] (Int.toNat (TEvent.kind e - (1 : Int))) default)]) (encTextResult 1 (eventF e)))))))))))))))))) := by
    delta k9_0; delta vi
    have hd : decWatch (.agg [.int .i64 e.client, .str e.path]) = ⟨e.client, e.path⟩ := rfl
    have hw : watchF ⟨e.client, e.path⟩ = if ¬ inR e.client 1 9 then 3 else pathF e.path := rfl
    simp only [hd, hw]
    refine ⟨⟨VLe.refl _, trivial⟩, fun h => agT ?_, fun h => ⟨trivial, fun h2 => agT ?_, fun h2 => ?_⟩⟩
    · have h1 : (if ¬ inR e.client 1 9 then 3 else pathF e.path) ≠ 0 := by simpa using h
      unfold eventF
      by_cases c1 : ¬ inR e.client 1 9
      · rw [if_pos c1, if_pos c1]
      · rw [if_neg c1] at h1
        rw [if_neg c1, if_neg c1, if_pos h1]
    · obtain ⟨c1, c2⟩ := ev_ok h
      have c3 : ¬ inR e.kind 1 3 := fun g => by rw [decide_eq_true g] at h2; cases h2
      unfold eventF
      rw [if_neg c1, if_neg (not_not_intro c2), if_pos c3]
    · obtain ⟨c1, c2⟩ := ev_ok h
      have c3 : inR e.kind 1 3 := Classical.byContradiction fun g => by rw [decide_eq_false g] at h2; cases h2
      have k3 := c3
      unfold inR at k3
      have hw2 : ([⟨#[109, 97, 100, 101]⟩, ⟨#[103, 111, 110, 101]⟩, ⟨#[116, 117, 114, 110, 101, 100]⟩] : List ByteArray).getD (e.kind - 1).toNat default = wordF e.kind := by
        have : e.kind = 1 ∨ e.kind = 2 ∨ e.kind = 3 := by omega
        rcases this with h | h | h <;> rw [h] <;> rfl
      have z1 := path_size c2
      have z2 := wordF_le k3
      have c4 := Classical.not_not.1 c1
      simp only [hw2, ByteArray.size_append, digT_size]
      refine ⟨inK64 (by omega), ⟨by omega, by omega⟩, by omega, ⟨by unfold inR at c4; omega, by unfold inR at c4; omega⟩, by omega, by omega, by omega, ?_, ?_, agT ?_⟩
      · show 6 + 1 + 1 + e.path.size + 1 ≤ _
        omega
      · show 6 + 1 + 1 + e.path.size + 1 + (wordF e.kind).size ≤ _
        omega
      · unfold eventF
        rw [if_neg c1, if_neg (not_not_intro c2), if_neg (not_not_intro c3)]
        rfl
  exact Eq.mp (by kernel_rfl) key
theorem so9 : Sound Tryz.prog 9 sp9 := by
  refine sound_of_body hmix (pol := 0) Tryz.func9 rfl (by kernel_rfl) fun args bin ob r bout hDe hob => ?_
  unfold sp9 at hDe
  split at hDe
  · rename_i a0
    cases hDe
    exact ⟨rfl, rfl, Nat.le_of_ble_eq_true (by kernel_rfl), cx9 (decTEvent a0), Eq.mp (by kernel_rfl) htt, Eq.mp (by kernel_rfl) da9, Eq.mp (by kernel_rfl) (noM_sound (P := Tryz.prog)), by kernel_rfl, [encTEvent 1 ((decTEvent a0))], args_of_vles (⟨hob.1, trivial⟩), Eq.mp (by kernel_rfl) (bd9 (decTEvent a0) (hob.2))⟩
  · cases hDe

end Go.Av
