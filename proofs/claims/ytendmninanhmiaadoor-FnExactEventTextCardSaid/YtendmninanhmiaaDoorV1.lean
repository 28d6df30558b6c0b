/- The text of an event. -/
import Derived.Test.YtendmninanhmiaaDoorW1
namespace Go.Av
open Go.Proofs
set_option maxRecDepth 100000
set_option maxHeartbeats 2000000
set_option linter.unusedVariables false
set_option linter.unusedSimpArgs false

theorem tqI (x : Bool) : tq x := fun h _ => h
theorem inU8 {n : Int} (h : 0 ≤ n ∧ n ≤ 255) : inK .u8 n := Go.IntWalk.u8_in _ h
theorem ev_ok {p : Prop} [Decidable p] {c : Int} (h : ((if ¬ p then 3 else c) != 0) = false) : ¬ ¬ p ∧ c = 0 := by
  have h1 : (if ¬ p then 3 else c) = 0 := by simpa using h
  by_cases c1 : ¬ p
  · rw [if_pos c1] at h1
    cases h1
  · rw [if_neg c1] at h1
    exact ⟨c1, h1⟩
/-- A number below ten, as it is written. -/
def digF (n : Int) : ByteArray := bytesV 1 (rowg [.int .u8 (48 + n)])
theorem digF_size (n : Int) : (digF n).size = 1 := rfl
def wordF (k : Int) : ByteArray := ([⟨#[]⟩, ⟨#[109, 97, 100, 101]⟩, ⟨#[103, 111, 110, 101]⟩, ⟨#[116, 117, 114, 110, 101, 100]⟩] : List ByteArray).getD k.toNat default
theorem wordF_le {k : Int} (h : 1 ≤ k ∧ k ≤ 3) : (wordF k).size ≤ 6 := by
  have : k = 1 ∨ k = 2 ∨ k = 3 := by omega
  rcases this with rfl | rfl | rfl <;> decide
def eventT (e : TEvent) : ByteArray := ((((⟨#[101, 118, 101, 110, 116, 32]⟩ : ByteArray) ++ digF e.client) ++ ⟨#[32]⟩) ++ e.path ++ ⟨#[32]⟩) ++ wordF e.kind
noncomputable def eventF (e : TEvent) : TextResult :=
  if ¬ inR e.client 1 9 then ⟨3, ⟨#[]⟩⟩ else if pathF e.path ≠ 0 then ⟨pathF e.path, ⟨#[]⟩⟩ else if ¬ inR e.kind 1 3 then ⟨1, ⟨#[]⟩⟩ else ⟨0, eventT e⟩
theorem agT {c : Int} {t : ByteArray} {x : TextResult} (h : x = ⟨c, t⟩) : VLe (.agg [.int .i64 c, .str t]) (encTextResult 1 x) := by
  subst h
  exact VLe.refl _

/-! ### spec.l1Digits -/
def pr55 (n : Int) : Prop := inR n 0 9
noncomputable def rs55 (n : Int) : V := .str (digF n)
noncomputable def sp55 : FSpec := fun args bin => match args, bin with
  | [.int .i64 a0], [] => some (pr55 a0, rs55 a0, [])
  | _, _ => none
noncomputable def D55 : Nat → Option (Bool × FSpec) := lk []
theorem da55 : SoundAll Tryd.prog D55 := soundAll_nil
noncomputable def cx55 (n : Int) : Cx := ⟨tt, D55, Tryd.f55.ntmps, [0, 2, 4, 10], [], [2, 5], fun _ => none, [], noM, []⟩
theorem bd55 (n : Int) (hpre : pr55 n) : bodyP (cx55 n) Tryd.f55 0 [.int .i64 (n)] (fun rr => VLe rr (rs55 n)) := by
  have key :
      (((decide (n < (0 : Int)) = true) →
   (False)) ∧
   ((decide (n < (0 : Int)) = false) →
   (((decide (n < (10 : Int)) = true) →
   ((inK IntKind.i64 ((48 : Int) + n)) ∧
   ((inK IntKind.u8 ((48 : Int) + n)) ∧
   ((∀ i : Nat,
   ((i < 1) →
   (isU8V (V.int IntKind.u8 (List.getD [(48 : Int) + n] i (0 : Int))) = true))) ∧
   (VLe (V.str (bytesV 1 (rowg [V.int IntKind.u8 ((48 : Int) + n)]))) (V.str (digF n))))))) ∧
   ((decide (n < (10 : Int)) = false) →
   (False))))) := by
    unfold pr55 inR at hpre
    exact ⟨fun h => by have := of_decide_eq_true h; omega, fun _ => ⟨fun _ => ⟨inK64 (by omega), inU8 (by omega), fun i hi => by
      have : i = 0 := by omega
      subst this
      rfl, VLe.refl _⟩, fun h => by have := of_decide_eq_false h; omega⟩⟩
  exact Eq.mp (by kernel_rfl) key
theorem so55 : Sound Tryd.prog 55 sp55 := by
  refine sound_of_body hmix (pol := 0) Tryd.func55 rfl (by kernel_rfl) fun args bin ob r bout hDe hob => ?_
  unfold sp55 at hDe
  split at hDe
  · rename_i a0
    cases hDe
    exact ⟨rfl, rfl, Nat.le_of_ble_eq_true (by kernel_rfl), cx55 a0, Eq.mp (by kernel_rfl) htt, Eq.mp (by kernel_rfl) da55, Eq.mp (by kernel_rfl) (noM_sound (P := Tryd.prog)), by kernel_rfl, [.int .i64 (a0)], args_of_vles (⟨VLe.refl _, trivial⟩), Eq.mp (by kernel_rfl) (bd55 a0 (hob))⟩
  · cases hDe

/-! ### internal/strconv.small -/
def pr141 (n : Int) : Prop := inR n 0 9
noncomputable def rs141 (n : Int) : V := .str (digF n)
noncomputable def sp141 : FSpec := fun args bin => match args, bin with
  | [.int .i64 a0], [] => some (pr141 a0, rs141 a0, [])
  | _, _ => none
noncomputable def D141 : Nat → Option (Bool × FSpec) := lk []
theorem da141 : SoundAll Tryd.prog D141 := soundAll_nil
noncomputable def cx141 (n : Int) : Cx := ⟨tt, D141, Tryd.f141.ntmps, [0, 2, 4], [], [3], fun _ => none, [], noM, []⟩
theorem bd141 (n : Int) (hpre : pr141 n) : bodyP (cx141 n) Tryd.f141 0 [.int .i64 (n)] (fun rr => VLe rr (rs141 n)) := by
  have key :
      (((decide (n < (10 : Int)) = true) →
   ((inK IntKind.i64 (n + (1 : Int))) ∧
   ((((0 : Int) ≤ Option.getD (some n) (0 : Int)) ∧
   ((Option.getD (some n) (0 : Int) ≤
   Option.getD (some (n + (1 : Int)))
   (↑(ByteArray.size
   (ByteArray.mk
   #[(48 : UInt8), (49 : UInt8), (50 : UInt8), (51 : UInt8), (52 : UInt8), (53 : UInt8), (54 : UInt8),
   (55 : UInt8), (56 : UInt8), (57 : UInt8), (97 : UInt8), (98 : UInt8), (99 : UInt8), (100 : UInt8),
   (101 : UInt8), (102 : UInt8), (103 : UInt8), (104 : UInt8), (105 : UInt8), (106 : UInt8), (107 : UInt8),
   (108 : UInt8), (109 : UInt8), (110 : UInt8), (111 : UInt8), (112 : UInt8), (113 : UInt8), (114 : UInt8),
   (115 : UInt8), (116 : UInt8), (117 : UInt8), (118 : UInt8), (119 : UInt8), (120 : UInt8), (121 : UInt8),
   (122 : UInt8)])) :
   Int)) ∧
   (Option.getD (some (n + (1 : Int)))
   (↑(ByteArray.size
   (ByteArray.mk
   #[(48 : UInt8), (49 : UInt8), (50 : UInt8), (51 : UInt8), (52 : UInt8), (53 : UInt8), (54 : UInt8),
   (55 : UInt8), (56 : UInt8), (57 : UInt8), (97 : UInt8), (98 : UInt8), (99 : UInt8), (100 : UInt8),
   (101 : UInt8), (102 : UInt8), (103 : UInt8), (104 : UInt8), (105 : UInt8), (106 : UInt8), (107 : UInt8),
   (108 : UInt8), (109 : UInt8), (110 : UInt8), (111 : UInt8), (112 : UInt8), (113 : UInt8), (114 : UInt8),
   (115 : UInt8), (116 : UInt8), (117 : UInt8), (118 : UInt8), (119 : UInt8), (120 : UInt8), (121 : UInt8),
   (122 : UInt8)])) :
   Int) ≤
   (↑(ByteArray.size
   (ByteArray.mk
   #[(48 : UInt8), (49 : UInt8), (50 : UInt8), (51 : UInt8), (52 : UInt8), (53 : UInt8), (54 : UInt8),
   (55 : UInt8), (56 : UInt8), (57 : UInt8), (97 : UInt8), (98 : UInt8), (99 : UInt8), (100 : UInt8),
   (101 : UInt8), (102 : UInt8), (103 : UInt8), (104 : UInt8), (105 : UInt8), (106 : UInt8), (107 : UInt8),
   (108 : UInt8), (109 : UInt8), (110 : UInt8), (111 : UInt8), (112 : UInt8), (113 : UInt8), (114 : UInt8),
   (115 : UInt8), (116 : UInt8), (117 : UInt8), (118 : UInt8), (119 : UInt8), (120 : UInt8), (121 : UInt8),
   (122 : UInt8)])) :
   Int)))) ∧
   (VLe
   (V.str
   (ByteArray.extract
   (ByteArray.mk
   #[(48 : UInt8), (49 : UInt8), (50 : UInt8), (51 : UInt8), (52 : UInt8), (53 : UInt8), (54 : UInt8),
   (55 : UInt8), (56 : UInt8), (57 : UInt8), (97 : UInt8), (98 : UInt8), (99 : UInt8), (100 : UInt8),
   (101 : UInt8), (102 : UInt8), (103 : UInt8), (104 : UInt8), (105 : UInt8), (106 : UInt8), (107 : UInt8),
   (108 : UInt8), (109 : UInt8), (110 : UInt8), (111 : UInt8), (112 : UInt8), (113 : UInt8), (114 : UInt8),
   (115 : UInt8), (116 : UInt8), (117 : UInt8), (118 : UInt8), (119 : UInt8), (120 : UInt8), (121 : UInt8),
   (122 : UInt8)])
   (Int.toNat (Option.getD (some n) (0 : Int)))
   (Int.toNat
   (Option.getD (some (n + (1 : Int)))
   (↑(ByteArray.size
   (ByteArray.mk
   #[(48 : UInt8), (49 : UInt8), (50 : UInt8), (51 : UInt8), (52 : UInt8), (53 : UInt8), (54 : UInt8),
   (55 : UInt8), (56 : UInt8), (57 : UInt8), (97 : UInt8), (98 : UInt8), (99 : UInt8), (100 : UInt8),
   (101 : UInt8), (102 : UInt8), (103 : UInt8), (104 : UInt8), (105 : UInt8), (106 : UInt8),
   (107 : UInt8), (108 : UInt8), (109 : UInt8), (110 : UInt8), (111 : UInt8), (112 : UInt8),
   (113 : UInt8), (114 : UInt8), (115 : UInt8), (116 : UInt8), (117 : UInt8), (118 : UInt8),
   (119 : UInt8), (120 : UInt8), (121 : UInt8), (122 : UInt8)])) :
   Int)))))
   (V.str (digF n)))))) ∧
   ((decide (n < (10 : Int)) = false) →
   (False))) := by
    unfold pr141 inR at hpre
    have h : n = 0 ∨ n = 1 ∨ n = 2 ∨ n = 3 ∨ n = 4 ∨ n = 5 ∨ n = 6 ∨ n = 7 ∨ n = 8 ∨ n = 9 := by omega
    rcases h with rfl | rfl | rfl | rfl | rfl | rfl | rfl | rfl | rfl | rfl <;>
      exact ⟨fun _ => ⟨inK64 (by omega), by decide, vle_str (bytes_ext (by rw [extract_list]; rfl))⟩, fun h => by simp at h⟩
  exact Eq.mp (by kernel_rfl) key
theorem so141 : Sound Tryd.prog 141 sp141 := by
  refine sound_of_body hmix (pol := 0) Tryd.func141 rfl (by kernel_rfl) fun args bin ob r bout hDe hob => ?_
  unfold sp141 at hDe
  split at hDe
  · rename_i a0
    cases hDe
    exact ⟨rfl, rfl, Nat.le_of_ble_eq_true (by kernel_rfl), cx141 a0, Eq.mp (by kernel_rfl) htt, Eq.mp (by kernel_rfl) da141, Eq.mp (by kernel_rfl) (noM_sound (P := Tryd.prog)), by kernel_rfl, [.int .i64 (a0)], args_of_vles (⟨VLe.refl _, trivial⟩), Eq.mp (by kernel_rfl) (bd141 a0 (hob))⟩
  · cases hDe

/-! ### internal/strconv.FormatInt -/
def pr123 (n : Int) (b : Int) : Prop := inR n 0 9 ∧ b = 10
noncomputable def rs123 (n : Int) (b : Int) : V := .str (digF n)
noncomputable def sp123 : FSpec := fun args bin => match args, bin with
  | [.int .i64 a0, .int .i64 a1], [] => some (pr123 a0 a1, rs123 a0 a1, [])
  | _, _ => none
noncomputable def D123 : Nat → Option (Bool × FSpec) := lk [(141, (false, sp141))]
theorem da123 : SoundAll Tryd.prog D123 := soundAll_cons so141 (soundAll_nil)
noncomputable def cx123 (n : Int) (b : Int) : Cx := ⟨tt, D123, Tryd.f123.ntmps, [0, 1, 4, 5, 6, 7, 9, 11, 17, 23, 34], [], [4, 14], fun _ => none, [], noM, []⟩
theorem bd123 (n : Int) (b : Int) (hpre : pr123 n b) : bodyP (cx123 n b) Tryd.f123 0 [.int .i64 (n), .int .i64 (b)] (fun rr => VLe rr (rs123 n b)) := by
  have key :
      ((((b == (10 : Int)) = true) →
   ((tq (decide ((0 : Int) ≤ n))) ∧
   (((true = true) →
   ((decide ((0 : Int) ≤ n) = true) →
   (decide ((0 : Int) ≤ n) = true))) ∧
   (∀ b_1 : Bool,
   ((b_1 = bif decide ((0 : Int) ≤ n) then decide (n < (100 : Int)) else false) →
   (((b_1 = true) →
   ((pr141 n) ∧
   (VLe (V.str (digF n)) (V.str (digF n))))) ∧
   ((b_1 = false) →
   (False)))))))) ∧
   (((b == (10 : Int)) = false) →
   (False))) := by
    obtain ⟨h, rfl⟩ := hpre
    have h' := h
    unfold inR at h'
    refine ⟨fun _ => ⟨tqI _, fun _ h => h, fun q hq => ⟨fun _ => ⟨h, VLe.refl _⟩, fun h2 => ?_⟩⟩, fun h => by simp at h⟩
    have a1 : decide (0 ≤ n) = true := decide_eq_true (by omega)
    have a2 : decide (n < 100) = true := decide_eq_true (by omega)
    rw [hq, a1, a2] at h2
    cases h2
  exact Eq.mp (by kernel_rfl) key
theorem so123 : Sound Tryd.prog 123 sp123 := by
  refine sound_of_body hmix (pol := 0) Tryd.func123 rfl (by kernel_rfl) fun args bin ob r bout hDe hob => ?_
  unfold sp123 at hDe
  split at hDe
  · rename_i a0 a1
    cases hDe
    exact ⟨rfl, rfl, Nat.le_of_ble_eq_true (by kernel_rfl), cx123 a0 a1, Eq.mp (by kernel_rfl) htt, Eq.mp (by kernel_rfl) da123, Eq.mp (by kernel_rfl) (noM_sound (P := Tryd.prog)), by kernel_rfl, [.int .i64 (a0), .int .i64 (a1)], args_of_vles (⟨VLe.refl _, VLe.refl _, trivial⟩), Eq.mp (by kernel_rfl) (bd123 a0 a1 (hob))⟩
  · cases hDe

/-! ### strconv.FormatInt -/
def pr97 (n : Int) (b : Int) : Prop := inR n 0 9 ∧ b = 10
noncomputable def rs97 (n : Int) (b : Int) : V := .str (digF n)
noncomputable def sp97 : FSpec := fun args bin => match args, bin with
  | [.int .i64 a0, .int .i64 a1], [] => some (pr97 a0 a1, rs97 a0 a1, [])
  | _, _ => none
noncomputable def D97 : Nat → Option (Bool × FSpec) := lk [(123, (false, sp123))]
theorem da97 : SoundAll Tryd.prog D97 := soundAll_cons so123 (soundAll_nil)
noncomputable def cx97 (n : Int) (b : Int) : Cx := ⟨tt, D97, Tryd.f97.ntmps, [0, 1, 4], [], [], fun _ => none, [], noM, []⟩
theorem bd97 (n : Int) (b : Int) (hpre : pr97 n b) : bodyP (cx97 n b) Tryd.f97 0 [.int .i64 (n), .int .i64 (b)] (fun rr => VLe rr (rs97 n b)) := by
  have key :
      ((pr123 n b) ∧
   (VLe (V.str (digF n)) (V.str (digF n)))) := by
    exact ⟨hpre, VLe.refl _⟩
  exact Eq.mp (by kernel_rfl) key
theorem so97 : Sound Tryd.prog 97 sp97 := by
  refine sound_of_body hmix (pol := 0) Tryd.func97 rfl (by kernel_rfl) fun args bin ob r bout hDe hob => ?_
  unfold sp97 at hDe
  split at hDe
  · rename_i a0 a1
    cases hDe
    exact ⟨rfl, rfl, Nat.le_of_ble_eq_true (by kernel_rfl), cx97 a0 a1, Eq.mp (by kernel_rfl) htt, Eq.mp (by kernel_rfl) da97, Eq.mp (by kernel_rfl) (noM_sound (P := Tryd.prog)), by kernel_rfl, [.int .i64 (a0), .int .i64 (a1)], args_of_vles (⟨VLe.refl _, VLe.refl _, trivial⟩), Eq.mp (by kernel_rfl) (bd97 a0 a1 (hob))⟩
  · cases hDe

/-! ### impl.decimal -/
def pr57 (n : Int) : Prop := inR n 0 9
noncomputable def rs57 (n : Int) : V := .str (digF n)
noncomputable def sp57 : FSpec := fun args bin => match args, bin with
  | [.int .i64 a0], [] => some (pr57 a0, rs57 a0, [])
  | _, _ => none
noncomputable def D57 : Nat → Option (Bool × FSpec) := lk [(97, (false, sp97))]
theorem da57 : SoundAll Tryd.prog D57 := soundAll_cons so97 (soundAll_nil)
noncomputable def cx57 (n : Int) : Cx := ⟨tt, D57, Tryd.f57.ntmps, [0, 2], [], [], fun _ => none, [], noM, []⟩
theorem bd57 (n : Int) (hpre : pr57 n) : bodyP (cx57 n) Tryd.f57 0 [.int .i64 (n)] (fun rr => VLe rr (rs57 n)) := by
  have key :
      ((pr97 n (10 : Int)) ∧
   (VLe (V.str (digF n)) (V.str (digF n)))) := by
    exact ⟨⟨hpre, rfl⟩, VLe.refl _⟩
  exact Eq.mp (by kernel_rfl) key
theorem so57 : Sound Tryd.prog 57 sp57 := by
  refine sound_of_body hmix (pol := 0) Tryd.func57 rfl (by kernel_rfl) fun args bin ob r bout hDe hob => ?_
  unfold sp57 at hDe
  split at hDe
  · rename_i a0
    cases hDe
    exact ⟨rfl, rfl, Nat.le_of_ble_eq_true (by kernel_rfl), cx57 a0, Eq.mp (by kernel_rfl) htt, Eq.mp (by kernel_rfl) da57, Eq.mp (by kernel_rfl) (noM_sound (P := Tryd.prog)), by kernel_rfl, [.int .i64 (a0)], args_of_vles (⟨VLe.refl _, trivial⟩), Eq.mp (by kernel_rfl) (bd57 a0 (hob))⟩
  · cases hDe

/-! ### laws.szEvent -/
def pr16 (x : TEvent) (left : Int) : Prop := 0 ≤ left ∧ left ≤ most ∧ x.bd
noncomputable def rs16 (x : TEvent) (left : Int) : V := .int .i64 (szLen x.path.size left)
noncomputable def sp16 : FSpec := fun args bin => match args, bin with
  | [a0, .int .i64 a1], [] => some (VLe a0 (encTEvent 1 ((decTEvent a0))) ∧ pr16 (decTEvent a0) a1, rs16 (decTEvent a0) a1, [])
  | _, _ => none
noncomputable def D16 : Nat → Option (Bool × FSpec) := lk []
theorem da16 : SoundAll Tryd.prog D16 := soundAll_nil
noncomputable def cx16 (x : TEvent) (left : Int) : Cx := ⟨tt, D16, Tryd.f16.ntmps, [0, 1, 2, 4, 11], [], [], fun _ => none, [], noM, []⟩
theorem bd16 (x : TEvent) (left : Int) (hpre : pr16 x left) : bodyP (cx16 x left) Tryd.f16 0 [encTEvent 1 (x), .int .i64 (left)] (fun rr => VLe rr (rs16 x left)) := by
  have key :
      ((inK IntKind.i64 (left - (↑(ByteArray.size (TEvent.path x)) : Int))) ∧
   (((decide (left - (↑(ByteArray.size (TEvent.path x)) : Int) < (0 : Int)) = true) →
   (VLe (V.int IntKind.i64 (-1 : Int)) (V.int IntKind.i64 (szLen (ByteArray.size (TEvent.path x)) left)))) ∧
   ((decide (left - (↑(ByteArray.size (TEvent.path x)) : Int) < (0 : Int)) = false) →
   (VLe (V.int IntKind.i64 (left - (↑(ByteArray.size (TEvent.path x)) : Int)))
   (V.int IntKind.i64 (szLen (ByteArray.size (TEvent.path x)) left)))))) := by
    obtain ⟨h0, hm, hb⟩ := hpre
    unfold most at hm
    unfold TEvent.bd maxLen at hb
    refine ⟨inK64 (by omega), fun h => ?_, fun h => ?_⟩
    · exact vle_int (by unfold szLen; rw [if_pos (of_decide_eq_true h)])
    · exact vle_int (by unfold szLen; rw [if_neg (of_decide_eq_false h)])
  exact Eq.mp (by kernel_rfl) key
theorem so16 : Sound Tryd.prog 16 sp16 := by
  refine sound_of_body hmix (pol := 0) Tryd.func16 rfl (by kernel_rfl) fun args bin ob r bout hDe hob => ?_
  unfold sp16 at hDe
  split at hDe
  · rename_i a0 a1
    cases hDe
    exact ⟨rfl, rfl, Nat.le_of_ble_eq_true (by kernel_rfl), cx16 (decTEvent a0) a1, Eq.mp (by kernel_rfl) htt, Eq.mp (by kernel_rfl) da16, Eq.mp (by kernel_rfl) (noM_sound (P := Tryd.prog)), by kernel_rfl, [encTEvent 1 ((decTEvent a0)), .int .i64 (a1)], args_of_vles (⟨hob.1, VLe.refl _, trivial⟩), Eq.mp (by kernel_rfl) (bd16 (decTEvent a0) a1 (hob.2))⟩
  · cases hDe

/-! ### laws.toEvent -/
def pr18 (x : TEvent) : Prop := True
noncomputable def rs18 (x : TEvent) : V := encTEvent 2 (x)
noncomputable def sp18 : FSpec := fun args bin => match args, bin with
  | [a0], [] => some (VLe a0 (encTEvent 1 ((decTEvent a0))) ∧ pr18 (decTEvent a0), rs18 (decTEvent a0), [])
  | _, _ => none
noncomputable def D18 : Nat → Option (Bool × FSpec) := lk []
theorem da18 : SoundAll Tryd.prog D18 := soundAll_nil
noncomputable def cx18 (x : TEvent) : Cx := ⟨tt, D18, Tryd.f18.ntmps, [0, 1, 2, 3], [], [], fun _ => none, [], noM, []⟩
theorem bd18 (x : TEvent) (hpre : pr18 x) : bodyP (cx18 x) Tryd.f18 1 [encTEvent 1 (x)] (fun rr => VLe rr (rs18 x)) := by
  have key :
      (VLe (encTEvent 1 x) (encTEvent 1 x)) := by
    exact vle_agg ⟨VLe.refl _, VLe.refl _, VLe.refl _, trivial⟩
  exact Eq.mp (by kernel_rfl) key
theorem so18 : Sound Tryd.prog 18 sp18 := by
  refine sound_of_body hmix (pol := 1) Tryd.func18 rfl (by kernel_rfl) fun args bin ob r bout hDe hob => ?_
  unfold sp18 at hDe
  split at hDe
  · rename_i a0
    cases hDe
    exact ⟨rfl, rfl, Nat.le_of_ble_eq_true (by kernel_rfl), cx18 (decTEvent a0), Eq.mp (by kernel_rfl) htt, Eq.mp (by kernel_rfl) da18, Eq.mp (by kernel_rfl) (noM_sound (P := Tryd.prog)), by kernel_rfl, [encTEvent 1 ((decTEvent a0))], args_of_vles (⟨hob.1, trivial⟩), Eq.mp (by kernel_rfl) (bd18 (decTEvent a0) (hob.2))⟩
  · cases hDe

/-! ### laws.eqTextResult -/
def pr20 (x : TextResult) (y : TextResult) : Prop := True
noncomputable def rs20 (x : TextResult) (y : TextResult) : V := .bool (decide (x = y))
noncomputable def sp20 : FSpec := fun args bin => match args, bin with
  | [a0, a1], [] => some (VLe a0 (encTextResult 1 ((decTextResult a0))) ∧ VLe a1 (encTextResult 1 ((decTextResult a1))) ∧ pr20 (decTextResult a0) (decTextResult a1), rs20 (decTextResult a0) (decTextResult a1), [])
  | _, _ => none
noncomputable def D20 : Nat → Option (Bool × FSpec) := lk []
theorem da20 : SoundAll Tryd.prog D20 := soundAll_nil
noncomputable def cx20 (x : TextResult) (y : TextResult) : Cx := ⟨tt, D20, Tryd.f20.ntmps, [0, 1, 2, 3, 4, 9, 14], [], [], fun _ => none, [], noM, []⟩
theorem bd20 (x : TextResult) (y : TextResult) (hpre : pr20 x y) : bodyP (cx20 x y) Tryd.f20 0 [encTextResult 1 (x), encTextResult 1 (y)] (fun rr => VLe rr (rs20 x y)) := by
  have key :
      ((((TextResult.code x != TextResult.code y) = true) →
   (VLe (V.bool false) (V.bool (decide (x = y))))) ∧
   (((TextResult.code x != TextResult.code y) = false) →
   ((((!strEq (TextResult.text x) (TextResult.text y)) = true) →
   (VLe (V.bool false) (V.bool (decide (x = y))))) ∧
   (((!strEq (TextResult.text x) (TextResult.text y)) = false) →
   (VLe (V.bool true) (V.bool (decide (x = y)))))))) := by
    simp [eq_TextResult, strEq_dec]
    grind
  exact Eq.mp (by kernel_rfl) key
theorem so20 : Sound Tryd.prog 20 sp20 := by
  refine sound_of_body hmix (pol := 0) Tryd.func20 rfl (by kernel_rfl) fun args bin ob r bout hDe hob => ?_
  unfold sp20 at hDe
  split at hDe
  · rename_i a0 a1
    cases hDe
    exact ⟨rfl, rfl, Nat.le_of_ble_eq_true (by kernel_rfl), cx20 (decTextResult a0) (decTextResult a1), Eq.mp (by kernel_rfl) htt, Eq.mp (by kernel_rfl) da20, Eq.mp (by kernel_rfl) (noM_sound (P := Tryd.prog)), by kernel_rfl, [encTextResult 1 ((decTextResult a0)), encTextResult 1 ((decTextResult a1))], args_of_vles (⟨hob.1, hob.2.1, trivial⟩), Eq.mp (by kernel_rfl) (bd20 (decTextResult a0) (decTextResult a1) (hob.2.2))⟩
  · cases hDe

/-! ### impl.EventText -/
def pr19 (e : TEvent) : Prop := True
noncomputable def rs19 (e : TEvent) : V := encTextResult 0 (eventF e)
noncomputable def sp19 : FSpec := fun args bin => match args, bin with
  | [a0], [] => some (VLe a0 (encTEvent 1 ((decTEvent a0))) ∧ pr19 (decTEvent a0), rs19 (decTEvent a0), [])
  | _, _ => none
noncomputable def D19 : Nat → Option (Bool × FSpec) := lk [(49, (false, sp49)), (56, (false, sp56)), (57, (false, sp57))]
theorem da19 : SoundAll Tryd.prog D19 := soundAll_cons so49 (soundAll_cons so56 (soundAll_cons so57 (soundAll_nil)))
noncomputable def cx19 (e : TEvent) : Cx := ⟨tt, D19, Tryd.f19.ntmps, [0, 1, 2, 3, 4, 12, 18], [], [], fun _ => none, [], noM, []⟩
theorem bd19 (e : TEvent) (hpre : pr19 e) : bodyP (cx19 e) Tryd.f19 0 [encTEvent 1 (e)] (fun rr => VLe rr (rs19 e)) := by
  have key :
      (((VLe (V.agg [V.int IntKind.i64 (TEvent.client e), V.str (TEvent.path e)])
   (encWatch 1 (decWatch (V.agg [V.int IntKind.i64 (TEvent.client e), V.str (TEvent.path e)])))) ∧
   (pr49 (decWatch (V.agg [V.int IntKind.i64 (TEvent.client e), V.str (TEvent.path e)])))) ∧
   ((((watchF (decWatch (V.agg [V.int IntKind.i64 (TEvent.client e), V.str (TEvent.path e)])) != (0 : Int)) = true) →
   (VLe
   (V.agg
   [V.int IntKind.i64 (watchF (decWatch (V.agg [V.int IntKind.i64 (TEvent.client e), V.str (TEvent.path e)]))),
   V.str (ByteArray.mk #[])])
   (encTextResult 1 (eventF e)))) ∧
   (((watchF (decWatch (V.agg [V.int IntKind.i64 (TEvent.client e), V.str (TEvent.path e)])) != (0 : Int)) = false) →
   ((pr56 (TEvent.kind e) (1 : Int) (3 : Int)) ∧
   ((((!decide (inR (TEvent.kind e) (1 : Int) (3 : Int))) = true) →
   (VLe (V.agg [V.int IntKind.i64 (1 : Int), V.str (ByteArray.mk #[])]) (encTextResult 1 (eventF e)))) ∧
   (((!decide (inR (TEvent.kind e) (1 : Int) (3 : Int))) = false) →
   ((inK IntKind.i64 (TEvent.kind e - (1 : Int))) ∧
   ((((0 : Int) ≤ TEvent.kind e - (1 : Int)) ∧
   (TEvent.kind e - (1 : Int) < (↑3 : Int))) ∧
   ((Int.toNat (TEvent.kind e - (1 : Int)) < 3) ∧
   ((pr57 (TEvent.client e)) ∧
   ((7 ≤ 4611686018427387904) ∧
   ((8 ≤ 4611686018427387904) ∧
   ((8 + ByteArray.size (TEvent.path e) ≤ 4611686018427387904) ∧
   ((ByteArray.size
   (ByteArray.mk #[(101 : UInt8), (118 : UInt8), (101 : UInt8), (110 : UInt8), (116 : UInt8), (32 : UInt8)] ++
   digF (TEvent.client e) ++
   ByteArray.mk #[(32 : UInt8)] ++
   TEvent.path e) +
   1 ≤
   4611686018427387904) ∧
   ((ByteArray.size
   (ByteArray.mk #[(101 : UInt8), (118 : UInt8), (101 : UInt8), (110 : UInt8), (116 : UInt8), (32 : UInt8)] ++
   digF (TEvent.client e) ++
   ByteArray.mk #[(32 : UInt8)] ++
   TEvent.path e ++
   ByteArray.mk #[(32 : UInt8)]) +
   ByteArray.size
   (List.getD
   [ByteArray.mk #[(109 : UInt8), (97 : UInt8), (100 : UInt8), (101 : UInt8)],
   ByteArray.mk #[(103 : UInt8), (111 : UInt8), (110 : UInt8), (101 : UInt8)],
   ByteArray.mk #[(116 : UInt8), (117 : UInt8), (114 : UInt8), (110 : UInt8), (101 : UInt8), (100 : UInt8)]]
   (Int.toNat (TEvent.kind e - (1 : Int))) default) ≤
   4611686018427387904) ∧
   (VLe
   (V.agg
   [V.int IntKind.i64 (0 : Int),
   V.str
   (ByteArray.mk #[(101 : UInt8), (118 : UInt8), (101 : UInt8), (110 : UInt8), (116 : UInt8), (32 : UInt8)] ++
   digF (TEvent.client e) ++
   ByteArray.mk #[(32 : UInt8)] ++
   TEvent.path e ++
   ByteArray.mk #[(32 : UInt8)] ++
   List.getD
   [ByteArray.mk #[(109 : UInt8), (97 : UInt8), (100 : UInt8), (101 : UInt8)],
   ByteArray.mk #[(103 : UInt8), (111 : UInt8), (110 : UInt8), (101 : UInt8)],
   ByteArray.mk #[(116 : UInt8), (117 : UInt8), (114 : UInt8), (110 : UInt8), (101 : UInt8), (100 : UInt8)]]
   (Int.toNat (TEvent.kind e - (1 : Int))) default)])
   (encTextResult 1 (eventF e)))))))))))))))))) := by
    have hd : decWatch (.agg [.int .i64 e.client, .str e.path]) = ⟨e.client, e.path⟩ := rfl
    have hw : watchF ⟨e.client, e.path⟩ = if ¬ inR e.client 1 9 then 3 else pathF e.path := rfl
    simp only [hd, hw]
    refine ⟨⟨VLe.refl _, trivial⟩, fun h => agT ?_, fun h => ⟨trivial, fun h2 => agT ?_, fun h2 => ?_⟩⟩
    · have h1 : (if ¬ inR e.client 1 9 then 3 else pathF e.path) ≠ 0 := by simpa using h
      unfold eventF
      by_cases c1 : ¬ inR e.client 1 9
      · rw [if_pos c1, if_pos c1]
      · rw [if_neg c1] at h1
        rw [if_neg c1, if_neg c1, if_pos h1]
    · obtain ⟨c1, c2⟩ := ev_ok h
      have c3 : ¬ inR e.kind 1 3 := fun g => by rw [decide_eq_true g] at h2; cases h2
      unfold eventF
      rw [if_neg c1, if_neg (not_not_intro c2), if_pos c3]
    · obtain ⟨c1, c2⟩ := ev_ok h
      have c3 : inR e.kind 1 3 := Classical.byContradiction fun g => by rw [decide_eq_false g] at h2; cases h2
      have k3 := c3
      unfold inR at k3
      have hw2 : ([⟨#[109, 97, 100, 101]⟩, ⟨#[103, 111, 110, 101]⟩, ⟨#[116, 117, 114, 110, 101, 100]⟩] : List ByteArray).getD (e.kind - 1).toNat default = wordF e.kind := by
        have : e.kind = 1 ∨ e.kind = 2 ∨ e.kind = 3 := by omega
        rcases this with h | h | h <;> rw [h] <;> rfl
      have z1 := path_size c2
      have z2 := wordF_le k3
      have c4 := Classical.not_not.1 c1
      simp only [hw2, ByteArray.size_append, digF_size]
      refine ⟨inK64 (by omega), ⟨by omega, by omega⟩, by omega, ⟨by unfold inR at c4; omega, by unfold inR at c4; omega⟩, by omega, by omega, by omega, ?_, ?_, agT ?_⟩
      · show 6 + 1 + 1 + e.path.size + 1 ≤ _
        omega
      · show 6 + 1 + 1 + e.path.size + 1 + (wordF e.kind).size ≤ _
        omega
      · unfold eventF
        rw [if_neg c1, if_neg (not_not_intro c2), if_neg (not_not_intro c3)]
        rfl
  exact Eq.mp (by kernel_rfl) key
theorem so19 : Sound Tryd.prog 19 sp19 := by
  refine sound_of_body hmix (pol := 0) Tryd.func19 rfl (by kernel_rfl) fun args bin ob r bout hDe hob => ?_
  unfold sp19 at hDe
  split at hDe
  · rename_i a0
    cases hDe
    exact ⟨rfl, rfl, Nat.le_of_ble_eq_true (by kernel_rfl), cx19 (decTEvent a0), Eq.mp (by kernel_rfl) htt, Eq.mp (by kernel_rfl) da19, Eq.mp (by kernel_rfl) (noM_sound (P := Tryd.prog)), by kernel_rfl, [encTEvent 1 ((decTEvent a0))], args_of_vles (⟨hob.1, trivial⟩), Eq.mp (by kernel_rfl) (bd19 (decTEvent a0) (hob.2))⟩
  · cases hDe

/-! ### spec.EventText -/
def pr17 (e : TEvent) : Prop := True
noncomputable def rs17 (e : TEvent) : V := encTextResult 0 (eventF e)
noncomputable def sp17 : FSpec := fun args bin => match args, bin with
  | [a0], [] => some (VLe a0 (encTEvent 1 ((decTEvent a0))) ∧ pr17 (decTEvent a0), rs17 (decTEvent a0), [])
  | _, _ => none
noncomputable def D17 : Nat → Option (Bool × FSpec) := lk [(52, (false, sp52)), (53, (false, sp53)), (54, (false, sp54)), (55, (false, sp55))]
theorem da17 : SoundAll Tryd.prog D17 := soundAll_cons so52 (soundAll_cons so53 (soundAll_cons so54 (soundAll_cons so55 (soundAll_nil))))
noncomputable def cx17 (e : TEvent) : Cx := ⟨tt, D17, Tryd.f17.ntmps, [0, 1, 2, 3, 7, 13, 19], [], [], fun _ => none, [], noM, []⟩
theorem bd17 (e : TEvent) (hpre : pr17 e) : bodyP (cx17 e) Tryd.f17 0 [encTEvent 1 (e)] (fun rr => VLe rr (rs17 e)) := by
  have key :
      ((pr52 (TEvent.client e)) ∧
   ((((!decide (inR (TEvent.client e) (1 : Int) (9 : Int))) = true) →
   (VLe (V.agg [V.int IntKind.i64 (3 : Int), V.str (ByteArray.mk #[])]) (encTextResult 1 (eventF e)))) ∧
   (((!decide (inR (TEvent.client e) (1 : Int) (9 : Int))) = false) →
   ((pr53 (TEvent.path e)) ∧
   ((((pathF (TEvent.path e) != (0 : Int)) = true) →
   (VLe (V.agg [V.int IntKind.i64 (pathF (TEvent.path e)), V.str (ByteArray.mk #[])]) (encTextResult 1 (eventF e)))) ∧
   (((pathF (TEvent.path e) != (0 : Int)) = false) →
   ((pr54 (TEvent.kind e) (1 : Int) (3 : Int)) ∧
   ((((!decide (inR (TEvent.kind e) (1 : Int) (3 : Int))) = true) →
   (VLe (V.agg [V.int IntKind.i64 (1 : Int), V.str (ByteArray.mk #[])]) (encTextResult 1 (eventF e)))) ∧
   (((!decide (inR (TEvent.kind e) (1 : Int) (3 : Int))) = false) →
   ((pr55 (TEvent.client e)) ∧
   ((7 ≤ 4611686018427387904) ∧
   ((8 ≤ 4611686018427387904) ∧
   ((8 + ByteArray.size (TEvent.path e) ≤ 4611686018427387904) ∧
   ((ByteArray.size
   (ByteArray.mk #[(101 : UInt8), (118 : UInt8), (101 : UInt8), (110 : UInt8), (116 : UInt8), (32 : UInt8)] ++
   digF (TEvent.client e) ++
   ByteArray.mk #[(32 : UInt8)] ++
   TEvent.path e) +
   1 ≤
   4611686018427387904) ∧
   ((((0 : Int) ≤ TEvent.kind e) ∧
   (TEvent.kind e < (↑4 : Int))) ∧
   ((Int.toNat (TEvent.kind e) < 4) ∧
   ((ByteArray.size
   (ByteArray.mk #[(101 : UInt8), (118 : UInt8), (101 : UInt8), (110 : UInt8), (116 : UInt8), (32 : UInt8)] ++
   digF (TEvent.client e) ++
   ByteArray.mk #[(32 : UInt8)] ++
   TEvent.path e ++
   ByteArray.mk #[(32 : UInt8)]) +
   ByteArray.size
   (List.getD
   [ByteArray.mk #[], ByteArray.mk #[(109 : UInt8), (97 : UInt8), (100 : UInt8), (101 : UInt8)],
   ByteArray.mk #[(103 : UInt8), (111 : UInt8), (110 : UInt8), (101 : UInt8)],
   ByteArray.mk #[(116 : UInt8), (117 : UInt8), (114 : UInt8), (110 : UInt8), (101 : UInt8), (100 : UInt8)]]
   (Int.toNat (TEvent.kind e)) default) ≤
   4611686018427387904) ∧
   (VLe
   (V.agg
   [V.int IntKind.i64 (0 : Int),
   V.str
   (ByteArray.mk #[(101 : UInt8), (118 : UInt8), (101 : UInt8), (110 : UInt8), (116 : UInt8), (32 : UInt8)] ++
   digF (TEvent.client e) ++
   ByteArray.mk #[(32 : UInt8)] ++
   TEvent.path e ++
   ByteArray.mk #[(32 : UInt8)] ++
   List.getD
   [ByteArray.mk #[], ByteArray.mk #[(109 : UInt8), (97 : UInt8), (100 : UInt8), (101 : UInt8)],
   ByteArray.mk #[(103 : UInt8), (111 : UInt8), (110 : UInt8), (101 : UInt8)],
   ByteArray.mk #[(116 : UInt8), (117 : UInt8), (114 : UInt8), (110 : UInt8), (101 : UInt8), (100 : UInt8)]]
   (Int.toNat (TEvent.kind e)) default)])
   (encTextResult 1 (eventF e)))))))))))))))))))) := by
    refine ⟨trivial, fun h => agT ?_, fun h => ⟨trivial, fun h2 => agT ?_, fun h2 => ⟨trivial, fun h3 => agT ?_, fun h3 => ?_⟩⟩⟩
    · have c1 : ¬ inR e.client 1 9 := fun g => by rw [decide_eq_true g] at h; cases h
      unfold eventF
      rw [if_pos c1]
    · have c1 : ¬ ¬ inR e.client 1 9 := fun g => by rw [decide_eq_false g] at h; cases h
      have c2 : pathF e.path ≠ 0 := by simpa using h2
      unfold eventF
      rw [if_neg c1, if_pos c2]
    · have c1 : ¬ ¬ inR e.client 1 9 := fun g => by rw [decide_eq_false g] at h; cases h
      have c2 : ¬ pathF e.path ≠ 0 := by simpa using h2
      have c3 : ¬ inR e.kind 1 3 := fun g => by rw [decide_eq_true g] at h3; cases h3
      unfold eventF
      rw [if_neg c1, if_neg c2, if_pos c3]
    · have c1 : ¬ ¬ inR e.client 1 9 := fun g => by rw [decide_eq_false g] at h; cases h
      have c2 : ¬ pathF e.path ≠ 0 := by simpa using h2
      have c3 : inR e.kind 1 3 := Classical.byContradiction fun g => by rw [decide_eq_false g] at h3; cases h3
      have k3 := c3
      unfold inR at k3
      have hw2 : ([⟨#[]⟩, ⟨#[109, 97, 100, 101]⟩, ⟨#[103, 111, 110, 101]⟩, ⟨#[116, 117, 114, 110, 101, 100]⟩] : List ByteArray).getD e.kind.toNat default = wordF e.kind := rfl
      have z1 := path_size (Classical.not_not.1 c2)
      have z2 := wordF_le k3
      have c4 := Classical.not_not.1 c1
      simp only [hw2, ByteArray.size_append, digF_size]
      refine ⟨⟨by unfold inR at c4; omega, by unfold inR at c4; omega⟩, by omega, by omega, by omega, ?_, ⟨by omega, by omega⟩, by omega, ?_, agT ?_⟩
      · show 6 + 1 + 1 + e.path.size + 1 ≤ _
        omega
      · show 6 + 1 + 1 + e.path.size + 1 + (wordF e.kind).size ≤ _
        omega
      · unfold eventF
        rw [if_neg c1, if_neg c2, if_neg (not_not_intro c3)]
        rfl
  exact Eq.mp (by kernel_rfl) key
theorem so17 : Sound Tryd.prog 17 sp17 := by
  refine sound_of_body hmix (pol := 0) Tryd.func17 rfl (by kernel_rfl) fun args bin ob r bout hDe hob => ?_
  unfold sp17 at hDe
  split at hDe
  · rename_i a0
    cases hDe
    exact ⟨rfl, rfl, Nat.le_of_ble_eq_true (by kernel_rfl), cx17 (decTEvent a0), Eq.mp (by kernel_rfl) htt, Eq.mp (by kernel_rfl) da17, Eq.mp (by kernel_rfl) (noM_sound (P := Tryd.prog)), by kernel_rfl, [encTEvent 1 ((decTEvent a0))], args_of_vles (⟨hob.1, trivial⟩), Eq.mp (by kernel_rfl) (bd17 (decTEvent a0) (hob.2))⟩
  · cases hDe

/-! ### laws.FnExactEventText -/
def pr4 (e : TEvent) : Prop := e.bd
noncomputable def rs4 (e : TEvent) : V := .bool (true)
def Q4 (vs : List V) : Prop := ∃ (e : TEvent), ArgsLe vs [encTEvent 1 (e)] ∧ pr4 e
noncomputable def D4 : Nat → Option (Bool × FSpec) := lk [(16, (false, sp16)), (18, (false, sp18)), (20, (false, sp20)), (17, (false, sp17)), (19, (false, sp19))]
theorem da4 : SoundAll Tryd.prog D4 := soundAll_cons so16 (soundAll_cons so18 (soundAll_cons so20 (soundAll_cons so17 (soundAll_cons so19 (soundAll_nil)))))
noncomputable def cx4 (e : TEvent) : Cx := ⟨tt, D4, Tryd.f4.ntmps, [0, 1, 2, 3, 4, 5, 10, 20], [], [], fun _ => none, [], noM, []⟩
theorem bd4 (e : TEvent) (hpre : pr4 e) : bodyP (cx4 e) Tryd.f4 0 [encTEvent 1 (e)] (fun rr => VLe rr (rs4 e)) := by
  have key :
      (((VLe (encTEvent 1 e) (encTEvent 1 (decTEvent (encTEvent 1 e)))) ∧
   (pr16 (decTEvent (encTEvent 1 e)) (1048576 : Int))) ∧
   (((decide (szLen (ByteArray.size (TEvent.path (decTEvent (encTEvent 1 e)))) (1048576 : Int) < (0 : Int)) = true) →
   (VLe (V.bool true) (V.bool true))) ∧
   ((decide (szLen (ByteArray.size (TEvent.path (decTEvent (encTEvent 1 e)))) (1048576 : Int) < (0 : Int)) = false) →
   (((VLe (encTEvent 1 e) (encTEvent 1 (decTEvent (encTEvent 1 e)))) ∧
   (pr18 (decTEvent (encTEvent 1 e)))) ∧
   (((VLe (encTEvent 1 (decTEvent (encTEvent 1 e)))
   (encTEvent 1 (decTEvent (encTEvent 1 (decTEvent (encTEvent 1 e)))))) ∧
   (pr17 (decTEvent (encTEvent 1 (decTEvent (encTEvent 1 e)))))) ∧
   (((VLe (encTEvent 1 e) (encTEvent 1 (decTEvent (encTEvent 1 e)))) ∧
   (pr18 (decTEvent (encTEvent 1 e)))) ∧
   (((VLe (encTEvent 1 (decTEvent (encTEvent 1 e)))
   (encTEvent 1 (decTEvent (encTEvent 1 (decTEvent (encTEvent 1 e)))))) ∧
   (pr19 (decTEvent (encTEvent 1 (decTEvent (encTEvent 1 e)))))) ∧
   (((VLe (encTextResult 1 (eventF (decTEvent (encTEvent 1 (decTEvent (encTEvent 1 e))))))
   (encTextResult 1
   (decTextResult
   (encTextResult 1 (eventF (decTEvent (encTEvent 1 (decTEvent (encTEvent 1 e))))))))) ∧
   ((VLe (encTextResult 1 (eventF (decTEvent (encTEvent 1 (decTEvent (encTEvent 1 e))))))
   (encTextResult 1
   (decTextResult
   (encTextResult 1 (eventF (decTEvent (encTEvent 1 (decTEvent (encTEvent 1 e))))))))) ∧
   (pr20
   (decTextResult
   (encTextResult 1 (eventF (decTEvent (encTEvent 1 (decTEvent (encTEvent 1 e)))))))
   (decTextResult
   (encTextResult 1 (eventF (decTEvent (encTEvent 1 (decTEvent (encTEvent 1 e)))))))))) ∧
   ((((!decide
   (decTextResult
   (encTextResult 1 (eventF (decTEvent (encTEvent 1 (decTEvent (encTEvent 1 e)))))) =
   decTextResult
   (encTextResult 1 (eventF (decTEvent (encTEvent 1 (decTEvent (encTEvent 1 e)))))))) =
   true) →
   (VLe (V.bool false) (V.bool true))) ∧
   (((!decide
   (decTextResult
   (encTextResult 1 (eventF (decTEvent (encTEvent 1 (decTEvent (encTEvent 1 e)))))) =
   decTextResult
   (encTextResult 1 (eventF (decTEvent (encTEvent 1 (decTEvent (encTEvent 1 e)))))))) =
   false) →
   (VLe (V.bool true) (V.bool true)))))))))))) := by
    have hb := hpre
    simp only [dec_encTEvent, dec_encTextResult]
    refine ⟨⟨VLe.refl _, by omega, by unfold most; omega, hb⟩, fun h => VLe.refl _, fun h => ?_⟩
    repeat' (first | exact VLe.refl _ | exact trivial | apply And.intro | intro _)
    all_goals simp_all
  exact Eq.mp (by kernel_rfl) key
theorem so4 : Sound Tryd.prog 4 (lawD Q4) := by
  refine sound_of_body hmix (pol := 0) Tryd.func4 rfl (by kernel_rfl) fun args bin ob r bout hDe hob => ?_
  unfold lawD at hDe
  split at hDe
  · cases hDe
    obtain ⟨e, hle, hpre⟩ := hob
    have hlen : args.length = 1 := hle.1.symm
    exact ⟨rfl, rfl, by rw [hlen]; exact Nat.le_of_ble_eq_true (by kernel_rfl), cx4 e, Eq.mp (by kernel_rfl) htt, Eq.mp (by kernel_rfl) da4, Eq.mp (by kernel_rfl) (noM_sound (P := Tryd.prog)), by kernel_rfl, _, hle, Eq.mp (by kernel_rfl) (bd4 e hpre)⟩
  · cases hDe

end Go.Av
