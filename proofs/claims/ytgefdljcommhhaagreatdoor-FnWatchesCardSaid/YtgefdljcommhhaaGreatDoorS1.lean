/- Texts cut at the mark. -/
import Derived.Test.YtgefdljcommhhaaGreatDoorE0
import Derived.Test.YtgefdljcommhhaaGreatDoorP1
namespace Go.Av
open Go.Proofs
set_option maxRecDepth 100000
set_option linter.unusedVariables false
set_option linter.unusedSimpArgs false


noncomputable def sp68 : FSpec := countD
theorem so68 : Sound Tryz.prog 68 sp68 := count_sound Tryz.func68 (by kernel_rfl) (by kernel_rfl) (by kernel_rfl) (by kernel_rfl)

noncomputable def sp99 : FSpec := indexByteD
theorem so99 : Sound Tryz.prog 99 sp99 := indexByte_sound Tryz.func99 (by kernel_rfl) (by kernel_rfl) (by kernel_rfl) (by kernel_rfl)

noncomputable def sp102 : FSpec := compareD
theorem so102 : Sound Tryz.prog 102 sp102 := compare_sound Tryz.func102 (by kernel_rfl) (by kernel_rfl) (by kernel_rfl) (by kernel_rfl)

noncomputable def idxB (s : ByteArray) : Int := Lib.indexByte s.data.toList 47
theorem top_size : top.size = 1 := rfl
theorem top_at : byteAt top 0 = 47 := rfl
theorem b47 : (Int.toNat 47).toUInt8 = 47 := rfl

/-! ### strings.Count -/
def pr47 (s : ByteArray) (sub : ByteArray) : Prop := sub = top ∧ s.size ≤ 1000
noncomputable def rs47 (s : ByteArray) (sub : ByteArray) : V := .int .i64 (cnt s)
noncomputable def sp47 : FSpec := fun args bin => match args, bin with
  | [.str a0, .str a1], [] => some (pr47 a0 a1, rs47 a0 a1, [])
  | _, _ => none
noncomputable def D47 : Nat → Option (Bool × FSpec) := lk [(68, (false, sp68))]
theorem da47 : SoundAll Tryz.prog D47 := soundAll_cons so68 (soundAll_nil)
noncomputable def cx47 (s : ByteArray) (sub : ByteArray) : Cx := ⟨tt, D47, Tryz.f47.ntmps, [0, 1, 4, 5, 6, 9, 15, 24], [], [2, 5], fun _ => none, [], noM, []⟩
theorem bd47 (s : ByteArray) (sub : ByteArray) (hpre : pr47 s sub) : bodyP (cx47 s sub) Tryz.f47 0 [.str (s), .str (sub)] (fun rr => VLe rr (rs47 s sub)) := by
  have key : (((((↑(ByteArray.size sub) : Int) == (0 : Int)) = true) → (False)) ∧ ((((↑(ByteArray.size sub) : Int) == (0 : Int)) = false) → (((((↑(ByteArray.size sub) : Int) == (1 : Int)) = true) → ((((0 : Int) ≤ (0 : Int)) ∧ ((0 : Int) < (↑(ByteArray.size sub) : Int))) ∧ ((True) ∧ (VLe (vi (↑(Lib.countByte (Array.toList (ByteArray.data s)) (Nat.toUInt8 (Int.toNat (byteAt sub (0 : Int))))) : Int)) (vi (↑(cnt s) : Int)))))) ∧ ((((↑(ByteArray.size sub) : Int) == (1 : Int)) = false) → (False))))) := by
    delta vi
    obtain ⟨rfl, hs⟩ := hpre
    simp only [top_size, top_at, b47]
    exact ⟨fun h => by simp at h, fun h => ⟨fun h => ⟨by simp, trivial, VLe.refl _⟩, fun h => by simp at h⟩⟩
  exact Eq.mp (by kernel_rfl) key
theorem so47 : Sound Tryz.prog 47 sp47 := by
  refine sound_of_body hmix (pol := 0) Tryz.func47 rfl (by kernel_rfl) fun args bin ob r bout hDe hob => ?_
  unfold sp47 at hDe
  split at hDe
  · rename_i a0 a1
    cases hDe
    exact ⟨rfl, rfl, Nat.le_of_ble_eq_true (by kernel_rfl), cx47 a0 a1, Eq.mp (by kernel_rfl) htt, Eq.mp (by kernel_rfl) da47, Eq.mp (by kernel_rfl) (noM_sound (P := Tryz.prog)), by kernel_rfl, [.str (a0), .str (a1)], args_of_vles (⟨VLe.refl _, VLe.refl _, trivial⟩), Eq.mp (by kernel_rfl) (bd47 a0 a1 (hob))⟩
  · cases hDe

/-! ### internal/stringslite.IndexByte -/
def pr87 (s : ByteArray) (c : Int) : Prop := c = 47
noncomputable def rs87 (s : ByteArray) (c : Int) : V := .int .i64 (idxB s)
noncomputable def sp87 : FSpec := fun args bin => match args, bin with
  | [.str a0, .int .u8 a1], [] => some (pr87 a0 a1, rs87 a0 a1, [])
  | _, _ => none
noncomputable def D87 : Nat → Option (Bool × FSpec) := lk [(99, (false, sp99))]
theorem da87 : SoundAll Tryz.prog D87 := soundAll_cons so99 (soundAll_nil)
noncomputable def cx87 (s : ByteArray) (c : Int) : Cx := ⟨tt, D87, Tryz.f87.ntmps, [0, 1, 4], [], [], fun _ => none, [], noM, []⟩
theorem bd87 (s : ByteArray) (c : Int) (hpre : pr87 s c) : bodyP (cx87 s c) Tryz.f87 0 [.str (s), .int .u8 (c)] (fun rr => VLe rr (rs87 s c)) := by
  have key : ((True) ∧ (VLe (vi (Lib.indexByte (Array.toList (ByteArray.data s)) (Nat.toUInt8 (Int.toNat c)))) (vi (idxB s)))) := by
    delta vi
    subst hpre
    exact ⟨trivial, VLe.refl _⟩
  exact Eq.mp (by kernel_rfl) key
theorem so87 : Sound Tryz.prog 87 sp87 := by
  refine sound_of_body hmix (pol := 0) Tryz.func87 rfl (by kernel_rfl) fun args bin ob r bout hDe hob => ?_
  unfold sp87 at hDe
  split at hDe
  · rename_i a0 a1
    cases hDe
    exact ⟨rfl, rfl, Nat.le_of_ble_eq_true (by kernel_rfl), cx87 a0 a1, Eq.mp (by kernel_rfl) htt, Eq.mp (by kernel_rfl) da87, Eq.mp (by kernel_rfl) (noM_sound (P := Tryz.prog)), by kernel_rfl, [.str (a0), .int .u8 (a1)], args_of_vles (⟨VLe.refl _, VLe.refl _, trivial⟩), Eq.mp (by kernel_rfl) (bd87 a0 a1 (hob))⟩
  · cases hDe

/-! ### internal/stringslite.Index -/
def pr78 (s : ByteArray) (sub : ByteArray) : Prop := sub = top
noncomputable def rs78 (s : ByteArray) (sub : ByteArray) : V := .int .i64 (idxB s)
noncomputable def sp78 : FSpec := fun args bin => match args, bin with
  | [.str a0, .str a1], [] => some (pr78 a0 a1, rs78 a0 a1, [])
  | _, _ => none
noncomputable def D78 : Nat → Option (Bool × FSpec) := lk [(87, (false, sp87))]
theorem da78 : SoundAll Tryz.prog D78 := soundAll_cons so87 (soundAll_nil)
noncomputable def cx78 (s : ByteArray) (sub : ByteArray) : Cx := ⟨tt, D78, Tryz.f78.ntmps, [0, 1, 4, 5, 6, 7, 8, 9, 10, 11, 12, 13, 16, 24, 31, 36, 59, 64, 73, 93, 107, 114, 132, 139], [], [6], fun _ => none, [], noM, []⟩
theorem bd78 (s : ByteArray) (sub : ByteArray) (hpre : pr78 s sub) : bodyP (cx78 s sub) Tryz.f78 0 [.str (s), .str (sub)] (fun rr => VLe rr (rs78 s sub)) := by
  have key : ((tq (!(↑(ByteArray.size sub) : Int) == (0 : Int))) ∧ ((tq (!(↑(ByteArray.size sub) : Int) == (0 : Int))) ∧ (((true = true) → ((((↑(ByteArray.size sub) : Int) == (0 : Int)) = false) → ((!(↑(ByteArray.size sub) : Int) == (0 : Int)) = true))) ∧ (∀ b : Bool, ((b = bif (↑(ByteArray.size sub) : Int) == (0 : Int) then true else strEq sub s) → (((b = true) → (VLe (vi (0 : Int)) (vi (idxB s)))) ∧ ((b = false) → (((((↑(ByteArray.size sub) : Int) == (1 : Int)) = true) → ((((0 : Int) ≤ (0 : Int)) ∧ ((0 : Int) < (↑(ByteArray.size sub) : Int))) ∧ ((pr87 s (byteAt sub (0 : Int))) ∧ (VLe (vi (idxB s)) (vi (idxB s)))))) ∧ ((((↑(ByteArray.size sub) : Int) == (1 : Int)) = false) → (False)))))))))) := by
    delta vi
    subst hpre
    simp only [top_size, top_at]
    repeat (first | (refine And.intro (fun h _ => h) ?_) | (refine And.intro (fun _ h => h) ?_) | (refine And.intro ?aa ?_; case aa => (exact trivial)) | (refine And.intro ?aa ?_; case aa => (intros; simp_all [pr87]; done)) | (refine And.intro ?aa ?_; case aa => (intros; exact inK64 (by omega))) | (refine And.intro ?aa ?_; case aa => (intros; simp only [decide_eq_true_eq] at *; omega)) | (intro q hq))
    refine ⟨fun h => ?_, fun h => ⟨fun h => ⟨by simp, rfl, VLe.refl _⟩, fun h => by simp at h⟩⟩
    rw [hq] at h
    simp [strEq_dec] at h
    refine vle_int ?_
    rw [← h]
    rfl
  exact Eq.mp (by kernel_rfl) key
theorem so78 : Sound Tryz.prog 78 sp78 := by
  refine sound_of_body hmix (pol := 0) Tryz.func78 rfl (by kernel_rfl) fun args bin ob r bout hDe hob => ?_
  unfold sp78 at hDe
  split at hDe
  · rename_i a0 a1
    cases hDe
    exact ⟨rfl, rfl, Nat.le_of_ble_eq_true (by kernel_rfl), cx78 a0 a1, Eq.mp (by kernel_rfl) htt, Eq.mp (by kernel_rfl) da78, Eq.mp (by kernel_rfl) (noM_sound (P := Tryz.prog)), by kernel_rfl, [.str (a0), .str (a1)], args_of_vles (⟨VLe.refl _, VLe.refl _, trivial⟩), Eq.mp (by kernel_rfl) (bd78 a0 a1 (hob))⟩
  · cases hDe

/-! ### strings.Index -/
def pr69 (s : ByteArray) (sub : ByteArray) : Prop := sub = top
noncomputable def rs69 (s : ByteArray) (sub : ByteArray) : V := .int .i64 (idxB s)
noncomputable def sp69 : FSpec := fun args bin => match args, bin with
  | [.str a0, .str a1], [] => some (pr69 a0 a1, rs69 a0 a1, [])
  | _, _ => none
noncomputable def D69 : Nat → Option (Bool × FSpec) := lk [(78, (false, sp78))]
theorem da69 : SoundAll Tryz.prog D69 := soundAll_cons so78 (soundAll_nil)
noncomputable def cx69 (s : ByteArray) (sub : ByteArray) : Cx := ⟨tt, D69, Tryz.f69.ntmps, [0, 1, 4], [], [], fun _ => none, [], noM, []⟩
theorem bd69 (s : ByteArray) (sub : ByteArray) (hpre : pr69 s sub) : bodyP (cx69 s sub) Tryz.f69 0 [.str (s), .str (sub)] (fun rr => VLe rr (rs69 s sub)) := by
  have key : ((pr78 s sub) ∧ (VLe (vi (idxB s)) (vi (idxB s)))) := by
    delta vi
    exact ⟨hpre, VLe.refl _⟩
  exact Eq.mp (by kernel_rfl) key
theorem so69 : Sound Tryz.prog 69 sp69 := by
  refine sound_of_body hmix (pol := 0) Tryz.func69 rfl (by kernel_rfl) fun args bin ob r bout hDe hob => ?_
  unfold sp69 at hDe
  split at hDe
  · rename_i a0 a1
    cases hDe
    exact ⟨rfl, rfl, Nat.le_of_ble_eq_true (by kernel_rfl), cx69 a0 a1, Eq.mp (by kernel_rfl) htt, Eq.mp (by kernel_rfl) da69, Eq.mp (by kernel_rfl) (noM_sound (P := Tryz.prog)), by kernel_rfl, [.str (a0), .str (a1)], args_of_vles (⟨VLe.refl _, VLe.refl _, trivial⟩), Eq.mp (by kernel_rfl) (bd69 a0 a1 (hob))⟩
  · cases hDe

theorem gL_set {l : List ByteArray} {i : Nat} {x : ByteArray} (hi : i < l.length) : setg (gL encS l) i (.str x) = gL encS (l.set i x) := by
  funext k
  simp only [setg_eq, gL]
  by_cases e : k = i
  · subst e; rw [if_pos rfl, getD_set_eq _ _ _ _ hi]; rfl
  · rw [if_neg e, getD_set_ne _ _ _ _ e]
theorem ble_nil {α : Type} [Inhabited α] (enc : α → V) {sz te te' : Nat} {g : Nat → V} : BLe (.arr sz 0 g te) (.arr sz ([] : List α).length (gL enc []) te') := ble_arr (fun i hi => absurd hi (Nat.not_lt_zero i)) (Or.inr (Or.inr (Or.inr rfl)))
theorem ble_of_eq {a b : Blk} (h : a = b) : BLe a b := by rw [h]; exact BLe.refl _
theorem gL_rep {n i : Nat} (h : i < n) : gL encS (List.replicate n ByteArray.empty) i = .str ⟨#[]⟩ := by
  simp [gL, h]
  rfl

/-! ### strings.genSplit -/
def pr70 (s : ByteArray) (sep : ByteArray) (save : Int) (n : Int) : Prop := sep = top ∧ save = 0 ∧ n = -1 ∧ s.size ≤ 1000
noncomputable def rs70 (s : ByteArray) (sep : ByteArray) (save : Int) (n : Int) : V := encL encS 2 (cutB s)
noncomputable def sp70 : FSpec := fun args bin => match args, bin with
  | [.str a0, .str a1, .int .i64 a2, .int .i64 a3], [] => some (pr70 a0 a1 a2 a3, rs70 a0 a1 a2 a3, [])
  | _, _ => none
noncomputable def in70_11 (s : ByteArray) (sep : ByteArray) (save : Int) (n : Int) : LoopInv :=
  ⟨ByteArray × Nat × List ByteArray, fun p => ⟨[(0, .str p.1), (1, .str top), (2, .int .i64 0), (3, .int .i64 (cnt s)), (9, .osl (canonT 9) (cnt s + 1)), (10, .int .i64 p.2.1)], [(canonT 9, .arr 1 (cnt s + 1) (gL encS p.2.2) tagS)]⟩,
    fun p => p.1.size ≤ s.size ∧ p.2.2.length = cnt s + 1 ∧ p.2.1 + cnt p.1 = cnt s ∧ p.2.2.take p.2.1 ++ cutB p.1 = cutB s, fun p => cnt s - p.2.1⟩
noncomputable def iv70 (s : ByteArray) (sep : ByteArray) (save : Int) (n : Int) : Nat → Option LoopInv := fun rg_ => match rg_ with
  | 11 => some (in70_11 s sep save n)
  | _ => none
noncomputable def D70 : Nat → Option (Bool × FSpec) := lk [(47, (false, sp47)), (69, (false, sp69))]
theorem da70 : SoundAll Tryz.prog D70 := soundAll_cons so47 (soundAll_cons so69 (soundAll_nil))
noncomputable def cx70 (s : ByteArray) (sep : ByteArray) (save : Int) (n : Int) : Cx := ⟨tt, D70, Tryz.f70.ntmps, [0, 1, 2, 3, 8, 9, 10, 11, 13, 15, 20, 36, 41], [(11, ⟨[(0, none), (1, none), (2, none), (3, none), (9, some 1), (10, none)], []⟩)], [2, 4], iv70 s sep save n, [], noM, []⟩
noncomputable def k70_0 (s : ByteArray) (x : ByteArray × Nat × List ByteArray) (y : ByteArray × Nat × List ByteArray) : Prop := (SLe (AS.mk [(0, V.str (ByteArray.extract x.1 (Int.toNat (Option.getD (some (idxB x.1 + (↑1 : Int))) (0 : Int))) (Int.toNat (Option.getD none (↑(ByteArray.size x.1) : Int))))), (1, V.str top), (2, vi (0 : Int)), (3, vi (↑(cnt s) : Int)), (9, V.osl 32000640 (cnt s + 1)), (10, vi ((↑x.2.1 : Int) + (1 : Int)))] [(32000640, Blk.arr 1 (cnt s + 1) (setg (gL encS x.2.2) (Int.toNat (↑x.2.1 : Int)) (V.str (ByteArray.extract x.1 0 (Int.toNat (Option.getD (some (idxB x.1 + (0 : Int))) (↑(ByteArray.size x.1) : Int)))))) 100)]) (AS.mk [(0, V.str y.1), (1, V.str top), (2, vi (0 : Int)), (3, vi (↑(cnt s) : Int)), (9, V.osl 32000640 (cnt s + 1)), (10, vi (↑y.2.1 : Int))] [(32000640, Blk.arr 1 (cnt s + 1) (gL encS y.2.2) 100)]))
noncomputable def k70_1 (s : ByteArray) (x : ByteArray × Nat × List ByteArray) : Prop := (VLe (V.sl (Int.toNat ((↑x.2.1 : Int) + (1 : Int))) (setg (gL encS x.2.2) (Int.toNat (↑x.2.1 : Int)) (V.str x.1)) 2) (encL encS 2 (cutB s)))
noncomputable def k70_2 (x : ByteArray × Nat × List ByteArray) : Prop := (inK IntKind.i64 ((↑x.2.1 : Int) + (1 : Int)))
noncomputable def k70_3 (s : ByteArray) (x : ByteArray × Nat × List ByteArray) : AS := (AS.mk [(0, V.str x.1), (1, V.str top), (2, vi (0 : Int)), (3, vi (↑(cnt s) : Int)), (9, V.osl 32000640 (cnt s + 1)), (10, vi (↑x.2.1 : Int))] [(32000640, Blk.arr 1 (cnt s + 1) (gL encS x.2.2) 100)])
theorem bd70 (s : ByteArray) (sep : ByteArray) (save : Int) (n : Int) (hpre : pr70 s sep save n) : bodyP (cx70 s sep save n) Tryz.f70 1 [.str (s), .str (sep), .int .i64 (save), .int .i64 (n)] (fun rr => VLe rr (rs70 s sep save n)) := by
  have key : ((((n == (0 : Int)) = true) → (False)) ∧ (((n == (0 : Int)) = false) → (((strEq sep (ByteArray.mk #[]) = true) → (False)) ∧ ((strEq sep (ByteArray.mk #[]) = false) → (((decide (n < (0 : Int)) = true) → ((pr47 s sep) ∧ ((inK IntKind.i64 ((↑(cnt s) : Int) + (1 : Int))) ∧ ((inK IntKind.i64 ((↑(ByteArray.size s) : Int) + (1 : Int))) ∧ ((((0 : Int) ≤ if (↑(ByteArray.size s) : Int) + (1 : Int) < (↑(cnt s) : Int) + (1 : Int) then (↑(ByteArray.size s) : Int) + (1 : Int) else (↑(cnt s) : Int) + (1 : Int)) ∧ (((if (↑(ByteArray.size s) : Int) + (1 : Int) < (↑(cnt s) : Int) + (1 : Int) then (↑(ByteArray.size s) : Int) + (1 : Int) else (↑(cnt s) : Int) + (1 : Int)) ≤ if (↑(ByteArray.size s) : Int) + (1 : Int) < (↑(cnt s) : Int) + (1 : Int) then (↑(ByteArray.size s) : Int) + (1 : Int) else (↑(cnt s) : Int) + (1 : Int)) ∧ ((if (↑(ByteArray.size s) : Int) + (1 : Int) < (↑(cnt s) : Int) + (1 : Int) then (↑(ByteArray.size s) : Int) + (1 : Int) else (↑(cnt s) : Int) + (1 : Int)) ≤ (↑1073741824 : Int)))) ∧ ((inK IntKind.i64 ((if (↑(ByteArray.size s) : Int) + (1 : Int) < (↑(cnt s) : Int) + (1 : Int) then (↑(ByteArray.size s) : Int) + (1 : Int) else (↑(cnt s) : Int) + (1 : Int)) - (1 : Int))) ∧ ((∃ x : ByteArray × Nat × List ByteArray, ((SLe (AS.mk [(0, V.str s), (1, V.str sep), (2, vi save), (3, vi ((if (↑(ByteArray.size s) : Int) + (1 : Int) < (↑(cnt s) : Int) + (1 : Int) then (↑(ByteArray.size s) : Int) + (1 : Int) else (↑(cnt s) : Int) + (1 : Int)) - (1 : Int))), (9, V.osl 32000640 (Int.toNat (if (↑(ByteArray.size s) : Int) + (1 : Int) < (↑(cnt s) : Int) + (1 : Int) then (↑(ByteArray.size s) : Int) + (1 : Int) else (↑(cnt s) : Int) + (1 : Int)))), (10, vi (0 : Int))] [(32000640, Blk.arr 1 (Int.toNat (if (↑(ByteArray.size s) : Int) + (1 : Int) < (↑(cnt s) : Int) + (1 : Int) then (↑(ByteArray.size s) : Int) + (1 : Int) else (↑(cnt s) : Int) + (1 : Int))) (fun (x : Nat) ↦ V.str (ByteArray.mk #[])) 100)]) (k70_3 s x)) ∧ ((ByteArray.size x.1 ≤ ByteArray.size s) ∧ ((List.length x.2.2 = cnt s + 1) ∧ ((Prod.fst x.2 + cnt x.1 = cnt s) ∧ (List.take x.2.1 x.2.2 ++ cutB x.1 = cutB s)))))) ∧ (∀ x : ByteArray × Nat × List ByteArray, (((ByteArray.size x.1 ≤ ByteArray.size s) ∧ ((List.length x.2.2 = cnt s + 1) ∧ ((Prod.fst x.2 + cnt x.1 = cnt s) ∧ (List.take x.2.1 x.2.2 ++ cutB x.1 = cutB s)))) → (((decide ((↑x.2.1 : Int) < (↑(cnt s) : Int)) = true) → ((pr69 x.1 top) ∧ (((decide (idxB x.1 < (0 : Int)) = true) → ((((0 : Int) ≤ (↑x.2.1 : Int)) ∧ ((↑x.2.1 : Int) < (↑(cnt s + 1) : Int))) ∧ ((Int.toNat (↑x.2.1 : Int) < cnt s + 1) ∧ ((k70_2 x) ∧ ((((0 : Int) ≤ (↑x.2.1 : Int) + (1 : Int)) ∧ ((↑x.2.1 : Int) + (1 : Int) ≤ (↑(cnt s + 1) : Int))) ∧ (k70_1 s x)))))) ∧ ((decide (idxB x.1 < (0 : Int)) = false) → ((inK IntKind.i64 (idxB x.1 + (0 : Int))) ∧ ((((0 : Int) ≤ Option.getD none (0 : Int)) ∧ ((Option.getD none (0 : Int) ≤ Option.getD (some (idxB x.1 + (0 : Int))) (↑(ByteArray.size x.1) : Int)) ∧ (Option.getD (some (idxB x.1 + (0 : Int))) (↑(ByteArray.size x.1) : Int) ≤ (↑(ByteArray.size x.1) : Int)))) ∧ ((((0 : Int) ≤ (↑x.2.1 : Int)) ∧ ((↑x.2.1 : Int) < (↑(cnt s + 1) : Int))) ∧ ((Int.toNat (↑x.2.1 : Int) < cnt s + 1) ∧ ((inK IntKind.i64 (idxB x.1 + (↑1 : Int))) ∧ ((((0 : Int) ≤ Option.getD (some (idxB x.1 + (↑1 : Int))) (0 : Int)) ∧ ((Option.getD (some (idxB x.1 + (↑1 : Int))) (0 : Int) ≤ Option.getD none (↑(ByteArray.size x.1) : Int)) ∧ (Option.getD none (↑(ByteArray.size x.1) : Int) ≤ (↑(ByteArray.size x.1) : Int)))) ∧ ((k70_2 x) ∧ (∃ y : ByteArray × Nat × List ByteArray, ((k70_0 s x y) ∧ (((ByteArray.size y.1 ≤ ByteArray.size s) ∧ ((List.length y.2.2 = cnt s + 1) ∧ ((Prod.fst y.2 + cnt y.1 = cnt s) ∧ (List.take y.2.1 y.2.2 ++ cutB y.1 = cutB s)))) ∧ (cnt s - Prod.fst y.2 < cnt s - Prod.fst x.2))))))))))))))) ∧ ((decide ((↑x.2.1 : Int) < (↑(cnt s) : Int)) = false) → ((((0 : Int) ≤ (↑x.2.1 : Int)) ∧ ((↑x.2.1 : Int) < (↑(cnt s + 1) : Int))) ∧ ((Int.toNat (↑x.2.1 : Int) < cnt s + 1) ∧ ((k70_2 x) ∧ ((((0 : Int) ≤ (↑x.2.1 : Int) + (1 : Int)) ∧ ((↑x.2.1 : Int) + (1 : Int) ≤ (↑(cnt s + 1) : Int))) ∧ (k70_1 s x)))))))))))))))) ∧ ((decide (n < (0 : Int)) = false) → ((inK IntKind.i64 ((↑(ByteArray.size s) : Int) + (1 : Int))) ∧ ((((0 : Int) ≤ if (↑(ByteArray.size s) : Int) + (1 : Int) < n then (↑(ByteArray.size s) : Int) + (1 : Int) else n) ∧ (((if (↑(ByteArray.size s) : Int) + (1 : Int) < n then (↑(ByteArray.size s) : Int) + (1 : Int) else n) ≤ if (↑(ByteArray.size s) : Int) + (1 : Int) < n then (↑(ByteArray.size s) : Int) + (1 : Int) else n) ∧ ((if (↑(ByteArray.size s) : Int) + (1 : Int) < n then (↑(ByteArray.size s) : Int) + (1 : Int) else n) ≤ (↑1073741824 : Int)))) ∧ ((inK IntKind.i64 ((if (↑(ByteArray.size s) : Int) + (1 : Int) < n then (↑(ByteArray.size s) : Int) + (1 : Int) else n) - (1 : Int))) ∧ ((∃ x : ByteArray × Nat × List ByteArray, ((SLe (AS.mk [(0, V.str s), (1, V.str sep), (2, vi save), (3, vi ((if (↑(ByteArray.size s) : Int) + (1 : Int) < n then (↑(ByteArray.size s) : Int) + (1 : Int) else n) - (1 : Int))), (9, V.osl 32000640 (Int.toNat (if (↑(ByteArray.size s) : Int) + (1 : Int) < n then (↑(ByteArray.size s) : Int) + (1 : Int) else n))), (10, vi (0 : Int))] [(32000640, Blk.arr 1 (Int.toNat (if (↑(ByteArray.size s) : Int) + (1 : Int) < n then (↑(ByteArray.size s) : Int) + (1 : Int) else n)) (fun (x : Nat) ↦ V.str (ByteArray.mk #[])) 100)]) (k70_3 s x)) ∧ ((ByteArray.size x.1 ≤ ByteArray.size s) ∧ ((List.length x.2.2 = cnt s + 1) ∧ ((Prod.fst x.2 + cnt x.1 = cnt s) ∧ (List.take x.2.1 x.2.2 ++ cutB x.1 = cutB s)))))) ∧ (∀ x : ByteArray × Nat × List ByteArray, (((ByteArray.size x.1 ≤ ByteArray.size s) ∧ ((List.length x.2.2 = cnt s + 1) ∧ ((Prod.fst x.2 + cnt x.1 = cnt s) ∧ (List.take x.2.1 x.2.2 ++ cutB x.1 = cutB s)))) → (((decide ((↑x.2.1 : Int) < (↑(cnt s) : Int)) = true) → ((pr69 x.1 top) ∧ (((decide (idxB x.1 < (0 : Int)) = true) → ((((0 : Int) ≤ (↑x.2.1 : Int)) ∧ ((↑x.2.1 : Int) < (↑(cnt s + 1) : Int))) ∧ ((Int.toNat (↑x.2.1 : Int) < cnt s + 1) ∧ ((k70_2 x) ∧ ((((0 : Int) ≤ (↑x.2.1 : Int) + (1 : Int)) ∧ ((↑x.2.1 : Int) + (1 : Int) ≤ (↑(cnt s + 1) : Int))) ∧ (k70_1 s x)))))) ∧ ((decide (idxB x.1 < (0 : Int)) = false) → ((inK IntKind.i64 (idxB x.1 + (0 : Int))) ∧ ((((0 : Int) ≤ Option.getD none (0 : Int)) ∧ ((Option.getD none (0 : Int) ≤ Option.getD (some (idxB x.1 + (0 : Int))) (↑(ByteArray.size x.1) : Int)) ∧ (Option.getD (some (idxB x.1 + (0 : Int))) (↑(ByteArray.size x.1) : Int) ≤ (↑(ByteArray.size x.1) : Int)))) ∧ ((((0 : Int) ≤ (↑x.2.1 : Int)) ∧ ((↑x.2.1 : Int) < (↑(cnt s + 1) : Int))) ∧ ((Int.toNat (↑x.2.1 : Int) < cnt s + 1) ∧ ((inK IntKind.i64 (idxB x.1 + (↑1 : Int))) ∧ ((((0 : Int) ≤ Option.getD (some (idxB x.1 + (↑1 : Int))) (0 : Int)) ∧ ((Option.getD (some (idxB x.1 + (↑1 : Int))) (0 : Int) ≤ Option.getD none (↑(ByteArray.size x.1) : Int)) ∧ (Option.getD none (↑(ByteArray.size x.1) : Int) ≤ (↑(ByteArray.size x.1) : Int)))) ∧ ((k70_2 x) ∧ (∃ y : ByteArray × Nat × List ByteArray, ((k70_0 s x y) ∧ (((ByteArray.size y.1 ≤ ByteArray.size s) ∧ ((List.length y.2.2 = cnt s + 1) ∧ ((Prod.fst y.2 + cnt y.1 = cnt s) ∧ (List.take y.2.1 y.2.2 ++ cutB y.1 = cutB s)))) ∧ (cnt s - Prod.fst y.2 < cnt s - Prod.fst x.2))))))))))))))) ∧ ((decide ((↑x.2.1 : Int) < (↑(cnt s) : Int)) = false) → ((((0 : Int) ≤ (↑x.2.1 : Int)) ∧ ((↑x.2.1 : Int) < (↑(cnt s + 1) : Int))) ∧ ((Int.toNat (↑x.2.1 : Int) < cnt s + 1) ∧ ((k70_2 x) ∧ ((((0 : Int) ≤ (↑x.2.1 : Int) + (1 : Int)) ∧ ((↑x.2.1 : Int) + (1 : Int) ≤ (↑(cnt s + 1) : Int))) ∧ (k70_1 s x))))))))))))))))))) := by
    delta k70_3; delta k70_2; delta k70_1; delta k70_0; delta vi
    obtain ⟨rfl, rfl, rfl, hs⟩ := hpre
    have hc : cnt s ≤ s.size := by unfold cnt; rw [size_len]; exact List.count_le_length
    have em : (if (s.size : Int) + 1 < (cnt s : Int) + 1 then (s.size : Int) + 1 else (cnt s : Int) + 1) = (cnt s : Int) + 1 := if_neg (by omega)
    have em2 : ((cnt s : Int) + 1).toNat = cnt s + 1 := by omega
    simp only [em, em2]
    refine ⟨fun h => by simp at h, fun _ => ⟨fun h => ?_, fun _ => ⟨fun _ => ?_, fun h => by simp at h⟩⟩⟩
    · rw [strEq_dec] at h
      exact absurd (congrArg ByteArray.size (of_decide_eq_true h)) (by decide)
    refine ⟨⟨rfl, hs⟩, inK64 (by omega), inK64 (by omega), ⟨by omega, by omega, by omega⟩, inK64 (by omega), ⟨(s, 0, List.replicate (cnt s + 1) ByteArray.empty), sle_of ⟨rfl, VLe.refl _, rfl, VLe.refl _, rfl, VLe.refl _, rfl, vle_int (by omega), rfl, VLe.refl _, rfl, vle_int (by simp), trivial⟩ ⟨rfl, ble_arr (fun i hi => ELe.of_eq (gL_rep hi).symm) (Or.inl rfl), trivial⟩, by simp, by simp, by simp, by simp⟩, ?_⟩
    rintro ⟨r, i, a⟩ ⟨h1, h2, h3, h4⟩
    simp only at h1 h2 h3 h4 ⊢
    refine ⟨fun h => ?_, fun h => ?_⟩
    · have hlt : i < cnt s := by simpa using h
      rcases cut_at 47 r.data.toList with ⟨e1, _⟩ | ⟨p, q, e1, e2, e3⟩
      · have : cnt r = 0 := List.count_eq_zero.2 e1
        omega
      · have hx : idxB r = (p.length : Int) := e3
        have hr : r.size = p.length + 1 + q.length := by rw [size_len, e1]; simp; omega
        have hq : cnt r = cnt (ba q) + 1 := by
          have : p.count 47 = 0 := List.count_eq_zero.2 e2
          unfold cnt
          rw [e1, ba_toList, List.count_append, List.count_cons_self, this, Nat.zero_add]
        have x1 : r.extract 0 p.length = ba p := bytes_ext (by rw [extract_list, e1]; simp)
        have x2 : r.extract (p.length + 1) r.size = ba q := bytes_ext (by
          rw [extract_list, e1, hr]
          have : p.length + 1 + q.length - (p.length + 1) = q.length := by omega
          rw [this]
          simp)
        have n1 : ((p.length : Int) + ((1 : Nat) : Int)).toNat = p.length + 1 := by omega
        have n2 : ((p.length : Int) + 1).toNat = p.length + 1 := by omega
        simp only [hx, Option.getD_some, Option.getD_none, Int.add_zero, Int.toNat_natCast, n1, n2, x1, x2]
        refine ⟨rfl, fun h => ?_, fun _ => ⟨inK64 (by omega), ⟨by omega, by omega, by omega⟩, ⟨by omega, by omega⟩, by omega, inK64 (by omega), ⟨by omega, by omega, by omega⟩, inK64 (by omega), (ba q, i + 1, a.set i (ba p)), ?_, ⟨?_, by simpa using h2, ?_, ?_⟩, ?_⟩⟩
        · have := of_decide_eq_true h
          omega
        · exact sle_of ⟨rfl, VLe.refl _, rfl, VLe.refl _, rfl, VLe.refl _, rfl, VLe.refl _, rfl, VLe.refl _, rfl, vle_int (by simp), trivial⟩ ⟨rfl, ble_of_eq (by rw [gL_set (by omega)]), trivial⟩
        · show (ba q).size ≤ s.size
          rw [ba_size]; omega
        · simp only; omega
        · show (a.set i (ba p)).take (i + 1) ++ cutB (ba q) = cutB s
          rw [set_take _ _ _ (by omega), List.append_assoc, List.singleton_append, ← cutB_pre e1 e2, h4]
        · simp only; omega
    · have hge : i = cnt s := by
        have := of_decide_eq_false h
        omega
      have hz : cnt r = 0 := by omega
      have e1 : cutB r = [r] := cutB_last (List.count_eq_zero.1 hz)
      have e2 : a.set i r = cutB s := by
        rw [← h4, e1, ← set_take r a i (by omega), List.take_of_length_le (by rw [List.length_set]; omega)]
      refine ⟨⟨by omega, by omega⟩, by simp; omega, inK64 (by omega), ⟨by omega, by omega⟩, ?_⟩
      rw [Int.toNat_natCast, gL_set (by omega), e2]
      exact vle_encL_eq (by rw [← e2, List.length_set]; omega) (fun k hk => by simp [gL, hk]) (Or.inl rfl)
  exact Eq.mp (by kernel_rfl) key
theorem so70 : Sound Tryz.prog 70 sp70 := by
  refine sound_of_body hmix (pol := 1) Tryz.func70 rfl (by kernel_rfl) fun args bin ob r bout hDe hob => ?_
  unfold sp70 at hDe
  split at hDe
  · rename_i a0 a1 a2 a3
    cases hDe
    exact ⟨rfl, rfl, Nat.le_of_ble_eq_true (by kernel_rfl), cx70 a0 a1 a2 a3, Eq.mp (by kernel_rfl) htt, Eq.mp (by kernel_rfl) da70, Eq.mp (by kernel_rfl) (noM_sound (P := Tryz.prog)), by kernel_rfl, [.str (a0), .str (a1), .int .i64 (a2), .int .i64 (a3)], args_of_vles (⟨VLe.refl _, VLe.refl _, VLe.refl _, VLe.refl _, trivial⟩), Eq.mp (by kernel_rfl) (bd70 a0 a1 a2 a3 (hob))⟩
  · cases hDe

/-! ### strings.Split -/
def pr48 (s : ByteArray) (sep : ByteArray) : Prop := sep = top ∧ s.size ≤ 1000
noncomputable def rs48 (s : ByteArray) (sep : ByteArray) : V := encL encS 2 (cutB s)
noncomputable def sp48 : FSpec := fun args bin => match args, bin with
  | [.str a0, .str a1], [] => some (pr48 a0 a1, rs48 a0 a1, [])
  | _, _ => none
noncomputable def D48 : Nat → Option (Bool × FSpec) := lk [(70, (false, sp70))]
theorem da48 : SoundAll Tryz.prog D48 := soundAll_cons so70 (soundAll_nil)
noncomputable def cx48 (s : ByteArray) (sep : ByteArray) : Cx := ⟨tt, D48, Tryz.f48.ntmps, [0, 1, 4], [], [], fun _ => none, [], noM, []⟩
theorem bd48 (s : ByteArray) (sep : ByteArray) (hpre : pr48 s sep) : bodyP (cx48 s sep) Tryz.f48 1 [.str (s), .str (sep)] (fun rr => VLe rr (rs48 s sep)) := by
  have key : ((pr70 s sep (0 : Int) (-1 : Int)) ∧ (VLe (encL encS 2 (cutB s)) (encL encS 2 (cutB s)))) := by
    exact ⟨⟨hpre.1, rfl, rfl, hpre.2⟩, VLe.refl _⟩
  exact Eq.mp (by kernel_rfl) key
theorem so48 : Sound Tryz.prog 48 sp48 := by
  refine sound_of_body hmix (pol := 1) Tryz.func48 rfl (by kernel_rfl) fun args bin ob r bout hDe hob => ?_
  unfold sp48 at hDe
  split at hDe
  · rename_i a0 a1
    cases hDe
    exact ⟨rfl, rfl, Nat.le_of_ble_eq_true (by kernel_rfl), cx48 a0 a1, Eq.mp (by kernel_rfl) htt, Eq.mp (by kernel_rfl) da48, Eq.mp (by kernel_rfl) (noM_sound (P := Tryz.prog)), by kernel_rfl, [.str (a0), .str (a1)], args_of_vles (⟨VLe.refl _, VLe.refl _, trivial⟩), Eq.mp (by kernel_rfl) (bd48 a0 a1 (hob))⟩
  · cases hDe

/-! ### impl.within -/
def pr22 (n : Int) (low : Int) (high : Int) : Prop := True
noncomputable def rs22 (n : Int) (low : Int) (high : Int) : V := .bool (decide (inR n low high))
noncomputable def sp22 : FSpec := fun args bin => match args, bin with
  | [.int .i64 a0, .int .i64 a1, .int .i64 a2], [] => some (pr22 a0 a1 a2, rs22 a0 a1 a2, [])
  | _, _ => none
noncomputable def D22 : Nat → Option (Bool × FSpec) := lk []
theorem da22 : SoundAll Tryz.prog D22 := soundAll_nil
noncomputable def cx22 (n : Int) (low : Int) (high : Int) : Cx := ⟨tt, D22, Tryz.f22.ntmps, [0, 1, 2, 6], [], [], fun _ => none, [], noM, []⟩
theorem bd22 (n : Int) (low : Int) (high : Int) (hpre : pr22 n low high) : bodyP (cx22 n low high) Tryz.f22 0 [.int .i64 (n), .int .i64 (low), .int .i64 (high)] (fun rr => VLe rr (rs22 n low high)) := by
  have key : ((tq (decide (low ≤ n))) ∧ ((tq (decide (low ≤ n))) ∧ (((true = true) → ((decide (low ≤ n) = true) → (decide (low ≤ n) = true))) ∧ (∀ b : Bool, ((b = bif decide (low ≤ n) then decide (n ≤ high) else false) → (VLe (V.bool b) (V.bool (decide (inR n low high))))))))) := by
    repeat (first | (refine And.intro (fun h _ => h) ?_) | (refine And.intro (fun _ h => h) ?_) | (refine And.intro ?aa ?_; case aa => (simp []; done)) | (refine And.intro ?aa ?_; case aa => (simp_all []; done)) | (refine And.intro ?aa ?_; case aa => (intros; exact inK64 (by omega))) | (refine And.intro ?aa ?_; case aa => (intros; simp only [decide_eq_true_eq] at *; omega)) | (intro q hq))
    subst_vars
    refine vle_bool ?_
    rw [Bool.eq_iff_iff]
    simp
    try simp only [inR]
    try omega
  exact Eq.mp (by kernel_rfl) key
theorem so22 : Sound Tryz.prog 22 sp22 := by
  refine sound_of_body hmix (pol := 0) Tryz.func22 rfl (by kernel_rfl) fun args bin ob r bout hDe hob => ?_
  unfold sp22 at hDe
  split at hDe
  · rename_i a0 a1 a2
    cases hDe
    exact ⟨rfl, rfl, Nat.le_of_ble_eq_true (by kernel_rfl), cx22 a0 a1 a2, Eq.mp (by kernel_rfl) htt, Eq.mp (by kernel_rfl) da22, Eq.mp (by kernel_rfl) (noM_sound (P := Tryz.prog)), by kernel_rfl, [.int .i64 (a0), .int .i64 (a1), .int .i64 (a2)], args_of_vles (⟨VLe.refl _, VLe.refl _, VLe.refl _, trivial⟩), Eq.mp (by kernel_rfl) (bd22 a0 a1 a2 (hob))⟩
  · cases hDe

/-! ### spec.l1In -/
def pr42 (n : Int) (low : Int) (high : Int) : Prop := True
noncomputable def rs42 (n : Int) (low : Int) (high : Int) : V := .bool (decide (inR n low high))
noncomputable def sp42 : FSpec := fun args bin => match args, bin with
  | [.int .i64 a0, .int .i64 a1, .int .i64 a2], [] => some (pr42 a0 a1 a2, rs42 a0 a1 a2, [])
  | _, _ => none
noncomputable def D42 : Nat → Option (Bool × FSpec) := lk []
theorem da42 : SoundAll Tryz.prog D42 := soundAll_nil
noncomputable def cx42 (n : Int) (low : Int) (high : Int) : Cx := ⟨tt, D42, Tryz.f42.ntmps, [0, 1, 2, 6], [], [], fun _ => none, [], noM, []⟩
theorem bd42 (n : Int) (low : Int) (high : Int) (hpre : pr42 n low high) : bodyP (cx42 n low high) Tryz.f42 0 [.int .i64 (n), .int .i64 (low), .int .i64 (high)] (fun rr => VLe rr (rs42 n low high)) := by
  have key : ((tq (decide (n ≥ low))) ∧ ((tq (decide (n ≥ low))) ∧ (((true = true) → ((decide (n ≥ low) = true) → (decide (n ≥ low) = true))) ∧ (∀ b : Bool, ((b = bif decide (n ≥ low) then decide (n ≤ high) else false) → (VLe (V.bool b) (V.bool (decide (inR n low high))))))))) := by
    repeat (first | (refine And.intro (fun h _ => h) ?_) | (refine And.intro (fun _ h => h) ?_) | (refine And.intro ?aa ?_; case aa => (simp []; done)) | (refine And.intro ?aa ?_; case aa => (simp_all []; done)) | (refine And.intro ?aa ?_; case aa => (intros; exact inK64 (by omega))) | (refine And.intro ?aa ?_; case aa => (intros; simp only [decide_eq_true_eq] at *; omega)) | (intro q hq))
    subst_vars
    refine vle_bool ?_
    rw [Bool.eq_iff_iff]
    simp
    try simp only [inR]
    try omega
  exact Eq.mp (by kernel_rfl) key
theorem so42 : Sound Tryz.prog 42 sp42 := by
  refine sound_of_body hmix (pol := 0) Tryz.func42 rfl (by kernel_rfl) fun args bin ob r bout hDe hob => ?_
  unfold sp42 at hDe
  split at hDe
  · rename_i a0 a1 a2
    cases hDe
    exact ⟨rfl, rfl, Nat.le_of_ble_eq_true (by kernel_rfl), cx42 a0 a1 a2, Eq.mp (by kernel_rfl) htt, Eq.mp (by kernel_rfl) da42, Eq.mp (by kernel_rfl) (noM_sound (P := Tryz.prog)), by kernel_rfl, [.int .i64 (a0), .int .i64 (a1), .int .i64 (a2)], args_of_vles (⟨VLe.refl _, VLe.refl _, VLe.refl _, trivial⟩), Eq.mp (by kernel_rfl) (bd42 a0 a1 a2 (hob))⟩
  · cases hDe

/-! ### impl.isName -/
def pr49 (s : ByteArray) : Prop := s.size ≤ 1000
noncomputable def rs49 (s : ByteArray) : V := .bool (decide (isNm s))
noncomputable def sp49 : FSpec := fun args bin => match args, bin with
  | [.str a0], [] => some (pr49 a0, rs49 a0, [])
  | _, _ => none
noncomputable def in49_2 (s : ByteArray) : LoopInv :=
  ⟨Nat, fun i => ⟨[(0, .str s), (5, .int .i64 s.size), (6, .int .i64 i)], []⟩, fun i => i ≤ s.size ∧ ∀ j : Nat, j < i → nmCh (byteAt s j), fun i => s.size - i⟩
noncomputable def iv49 (s : ByteArray) : Nat → Option LoopInv := fun rg_ => match rg_ with
  | 2 => some (in49_2 s)
  | _ => none
noncomputable def D49 : Nat → Option (Bool × FSpec) := lk [(22, (false, sp22))]
theorem da49 : SoundAll Tryz.prog D49 := soundAll_cons so22 (soundAll_nil)
noncomputable def cx49 (s : ByteArray) : Cx := ⟨tt, D49, Tryz.f49.ntmps, [0, 2, 3, 5, 6, 7, 30], [(2, ⟨[(0, none), (5, none), (6, none)], []⟩)], [], iv49 s, [], noM, []⟩
theorem bd49 (s : ByteArray) (hpre : pr49 s) : bodyP (cx49 s) Tryz.f49 0 [.str (s)] (fun rr => VLe rr (rs49 s)) := by
  have key : ((∃ x : Nat, ((SLe (AS.mk [(0, V.str s), (5, vi (↑(ByteArray.size s) : Int)), (6, vi (0 : Int))] []) (AS.mk [(0, V.str s), (5, vi (↑(ByteArray.size s) : Int)), (6, vi (↑x : Int))] [])) ∧ ((x ≤ ByteArray.size s) ∧ (∀ j : Nat, ((j < x) → (nmCh (byteAt s (↑j : Int)))))))) ∧ (∀ x : Nat, (((x ≤ ByteArray.size s) ∧ (∀ j : Nat, ((j < x) → (nmCh (byteAt s (↑j : Int)))))) → (((decide ((↑x : Int) < (↑(ByteArray.size s) : Int)) = true) → ((((0 : Int) ≤ (↑x : Int)) ∧ ((↑x : Int) < (↑(ByteArray.size s) : Int))) ∧ ((tq (!decide (byteAt s (↑x : Int) < (97 : Int)))) ∧ ((tq (!decide (byteAt s (↑x : Int) < (97 : Int)))) ∧ ((((!decide (byteAt s (↑x : Int) < (97 : Int))) = true) → (((0 : Int) ≤ (↑x : Int)) ∧ ((↑x : Int) < (↑(ByteArray.size s) : Int)))) ∧ ((tq (!decide (byteAt s (↑x : Int) < (97 : Int)))) ∧ (((true = true) → ((decide (byteAt s (↑x : Int) < (97 : Int)) = false) → ((!decide (byteAt s (↑x : Int) < (97 : Int))) = true))) ∧ (∀ b : Bool, ((b = bif decide (byteAt s (↑x : Int) < (97 : Int)) then true else decide (byteAt s (↑x : Int) > (122 : Int))) → ((tq (b)) ∧ ((tq (b)) ∧ (((b = true) → (((0 : Int) ≤ (↑x : Int)) ∧ ((↑x : Int) < (↑(ByteArray.size s) : Int)))) ∧ ((tq (b)) ∧ ((tq (b)) ∧ ((tq (b && !decide (byteAt s (↑x : Int) < (48 : Int)))) ∧ ((tq (b && !decide (byteAt s (↑x : Int) < (48 : Int)))) ∧ ((((b && !decide (byteAt s (↑x : Int) < (48 : Int))) = true) → (((0 : Int) ≤ (↑x : Int)) ∧ ((↑x : Int) < (↑(ByteArray.size s) : Int)))) ∧ ((tq (b && !decide (byteAt s (↑x : Int) < (48 : Int)))) ∧ ((tq (b)) ∧ (((b = true) → ((b = true) → ((decide (byteAt s (↑x : Int) < (48 : Int)) = false) → ((b && !decide (byteAt s (↑x : Int) < (48 : Int))) = true)))) ∧ (∀ b_1 : Bool, ((b_1 = bif decide (byteAt s (↑x : Int) < (48 : Int)) then true else decide (byteAt s (↑x : Int) > (57 : Int))) → (((true = true) → ((b = true) → (b = true))) ∧ (∀ b_2 : Bool, ((b_2 = bif b then b_1 else false) → (((b_2 = true) → (VLe (V.bool false) (V.bool (decide (isNm s))))) ∧ ((b_2 = false) → ((inK IntKind.i64 ((↑x : Int) + (1 : Int))) ∧ (∃ y : Nat, ((SLe (AS.mk [(0, V.str s), (5, vi (↑(ByteArray.size s) : Int)), (6, vi ((↑x : Int) + (1 : Int)))] []) (AS.mk [(0, V.str s), (5, vi (↑(ByteArray.size s) : Int)), (6, vi (↑y : Int))] [])) ∧ (((y ≤ ByteArray.size s) ∧ (∀ j : Nat, ((j < y) → (nmCh (byteAt s (↑j : Int)))))) ∧ (ByteArray.size s - y < ByteArray.size s - x)))))))))))))))))))))))))))))))) ∧ ((decide ((↑x : Int) < (↑(ByteArray.size s) : Int)) = false) → ((pr22 (↑(ByteArray.size s) : Int) (1 : Int) (8 : Int)) ∧ (VLe (V.bool (decide (inR (↑(ByteArray.size s) : Int) (1 : Int) (8 : Int)))) (V.bool (decide (isNm s)))))))))) := by
    delta vi
    unfold pr49 at hpre
    refine ⟨⟨0, SLe.refl _, by omega, fun j hj => by omega⟩, ?_⟩
    rintro i ⟨hi, hj⟩
    refine ⟨fun h => ?_, fun h => ?_⟩
    · have hlt : i < s.size := by simpa using h
      refine ⟨by omega, ?_⟩
      repeat (first | (refine And.intro (fun h _ => h) ?_) | (refine And.intro (fun _ h => h) ?_) | (refine And.intro ?aa ?_; case aa => (exact (fun _ => ⟨by omega, by omega⟩))) | (refine And.intro ?aa ?_; case aa => (intros; simp_all [pr22]; done)) | (refine And.intro ?aa ?_; case aa => (intros; exact inK64 (by omega))) | (refine And.intro ?aa ?_; case aa => (intros; simp only [decide_eq_true_eq] at *; omega)) | (intro q hq))
      have e0 : q = decide (¬ nmCh (byteAt s i)) := by
        subst_vars
        rw [Bool.eq_iff_iff, decide_eq_true_eq]
        unfold nmCh
        by_cases a1 : byteAt s i < 97 <;> by_cases a2 : byteAt s i > 122 <;> by_cases a3 : byteAt s i < 48 <;> by_cases a4 : byteAt s i > 57 <;> simp [a1, a2, a3, a4] <;> omega
      clear hq
      refine ⟨fun h2 => vle_bool ?_, fun h2 => ⟨inK64 (by omega), i + 1, SLe.refl _, ⟨by omega, fun j h3 => ?_⟩, by omega⟩⟩
      · rw [e0] at h2
        symm
        exact decide_eq_false fun g => of_decide_eq_true h2 (g.1 i hlt)
      · rw [e0] at h2
        rcases Nat.lt_or_ge j i with h4 | h4
        · exact hj j h4
        · have : j = i := by omega
          subst this
          exact Classical.not_not.1 (of_decide_eq_false h2)
    · have hge : i = s.size := by simp at h; omega
      subst hge
      refine ⟨trivial, vle_bool ?_⟩
      rw [Bool.eq_iff_iff, decide_eq_true_eq, decide_eq_true_eq]
      unfold inR
      exact ⟨fun g => ⟨hj, by omega, by omega⟩, fun g => by have := g.2; omega⟩
  exact Eq.mp (by kernel_rfl) key
theorem so49 : Sound Tryz.prog 49 sp49 := by
  refine sound_of_body hmix (pol := 0) Tryz.func49 rfl (by kernel_rfl) fun args bin ob r bout hDe hob => ?_
  unfold sp49 at hDe
  split at hDe
  · rename_i a0
    cases hDe
    exact ⟨rfl, rfl, Nat.le_of_ble_eq_true (by kernel_rfl), cx49 a0, Eq.mp (by kernel_rfl) htt, Eq.mp (by kernel_rfl) da49, Eq.mp (by kernel_rfl) (noM_sound (P := Tryz.prog)), by kernel_rfl, [.str (a0)], args_of_vles (⟨VLe.refl _, trivial⟩), Eq.mp (by kernel_rfl) (bd49 a0 (hob))⟩
  · cases hDe

/-! ### spec.l1Name -/
def pr58 (s : ByteArray) : Prop := s.size ≤ 1000
noncomputable def rs58 (s : ByteArray) : V := .bool (decide (isNm s))
noncomputable def sp58 : FSpec := fun args bin => match args, bin with
  | [.str a0], [] => some (pr58 a0, rs58 a0, [])
  | _, _ => none
noncomputable def in58_2 (s : ByteArray) : LoopInv :=
  ⟨Nat, fun i => ⟨[(0, .str s), (3, .int .i64 i)], []⟩, fun i => i ≤ s.size ∧ ∀ j : Nat, j < i → nmCh (byteAt s j), fun i => s.size - i⟩
noncomputable def iv58 (s : ByteArray) : Nat → Option LoopInv := fun rg_ => match rg_ with
  | 2 => some (in58_2 s)
  | _ => none
noncomputable def D58 : Nat → Option (Bool × FSpec) := lk [(42, (false, sp42))]
theorem da58 : SoundAll Tryz.prog D58 := soundAll_cons so42 (soundAll_nil)
noncomputable def cx58 (s : ByteArray) : Cx := ⟨tt, D58, Tryz.f58.ntmps, [0, 2, 3, 7, 31], [(2, ⟨[(0, none), (3, none)], []⟩)], [], iv58 s, [], noM, []⟩
theorem bd58 (s : ByteArray) (hpre : pr58 s) : bodyP (cx58 s) Tryz.f58 0 [.str (s)] (fun rr => VLe rr (rs58 s)) := by
  have key : ((∃ x : Nat, ((SLe (AS.mk [(0, V.str s), (3, vi (0 : Int))] []) (AS.mk [(0, V.str s), (3, vi (↑x : Int))] [])) ∧ ((x ≤ ByteArray.size s) ∧ (∀ j : Nat, ((j < x) → (nmCh (byteAt s (↑j : Int)))))))) ∧ (∀ x : Nat, (((x ≤ ByteArray.size s) ∧ (∀ j : Nat, ((j < x) → (nmCh (byteAt s (↑j : Int)))))) → (((decide ((↑x : Int) < (↑(ByteArray.size s) : Int)) = true) → ((((0 : Int) ≤ (↑x : Int)) ∧ ((↑x : Int) < (↑(ByteArray.size s) : Int))) ∧ ((tq (!decide (byteAt s (↑x : Int) < (97 : Int)))) ∧ ((tq (!decide (byteAt s (↑x : Int) < (97 : Int)))) ∧ ((((!decide (byteAt s (↑x : Int) < (97 : Int))) = true) → (((0 : Int) ≤ (↑x : Int)) ∧ ((↑x : Int) < (↑(ByteArray.size s) : Int)))) ∧ ((tq (!decide (byteAt s (↑x : Int) < (97 : Int)))) ∧ (((true = true) → ((decide (byteAt s (↑x : Int) < (97 : Int)) = false) → ((!decide (byteAt s (↑x : Int) < (97 : Int))) = true))) ∧ (∀ b : Bool, ((b = bif decide (byteAt s (↑x : Int) < (97 : Int)) then true else decide (byteAt s (↑x : Int) > (122 : Int))) → ((tq (b)) ∧ ((tq (b)) ∧ (((b = true) → (((0 : Int) ≤ (↑x : Int)) ∧ ((↑x : Int) < (↑(ByteArray.size s) : Int)))) ∧ ((tq (b)) ∧ ((tq (b)) ∧ ((tq (b && !decide (byteAt s (↑x : Int) < (48 : Int)))) ∧ ((tq (b && !decide (byteAt s (↑x : Int) < (48 : Int)))) ∧ ((((b && !decide (byteAt s (↑x : Int) < (48 : Int))) = true) → (((0 : Int) ≤ (↑x : Int)) ∧ ((↑x : Int) < (↑(ByteArray.size s) : Int)))) ∧ ((tq (b && !decide (byteAt s (↑x : Int) < (48 : Int)))) ∧ ((tq (b)) ∧ (((b = true) → ((b = true) → ((decide (byteAt s (↑x : Int) < (48 : Int)) = false) → ((b && !decide (byteAt s (↑x : Int) < (48 : Int))) = true)))) ∧ (∀ b_1 : Bool, ((b_1 = bif decide (byteAt s (↑x : Int) < (48 : Int)) then true else decide (byteAt s (↑x : Int) > (57 : Int))) → (((true = true) → ((b = true) → (b = true))) ∧ (∀ b_2 : Bool, ((b_2 = bif b then b_1 else false) → (((b_2 = true) → (VLe (V.bool false) (V.bool (decide (isNm s))))) ∧ ((b_2 = false) → ((inK IntKind.i64 ((↑x : Int) + (1 : Int))) ∧ (∃ y : Nat, ((SLe (AS.mk [(0, V.str s), (3, vi ((↑x : Int) + (1 : Int)))] []) (AS.mk [(0, V.str s), (3, vi (↑y : Int))] [])) ∧ (((y ≤ ByteArray.size s) ∧ (∀ j : Nat, ((j < y) → (nmCh (byteAt s (↑j : Int)))))) ∧ (ByteArray.size s - y < ByteArray.size s - x)))))))))))))))))))))))))))))))) ∧ ((decide ((↑x : Int) < (↑(ByteArray.size s) : Int)) = false) → ((pr42 (↑(ByteArray.size s) : Int) (1 : Int) (8 : Int)) ∧ (VLe (V.bool (decide (inR (↑(ByteArray.size s) : Int) (1 : Int) (8 : Int)))) (V.bool (decide (isNm s)))))))))) := by
    delta vi
    unfold pr58 at hpre
    refine ⟨⟨0, SLe.refl _, by omega, fun j hj => by omega⟩, ?_⟩
    rintro i ⟨hi, hj⟩
    refine ⟨fun h => ?_, fun h => ?_⟩
    · have hlt : i < s.size := by simpa using h
      refine ⟨by omega, ?_⟩
      repeat (first | (refine And.intro (fun h _ => h) ?_) | (refine And.intro (fun _ h => h) ?_) | (refine And.intro ?aa ?_; case aa => (exact (fun _ => ⟨by omega, by omega⟩))) | (refine And.intro ?aa ?_; case aa => (intros; simp_all [pr42]; done)) | (refine And.intro ?aa ?_; case aa => (intros; exact inK64 (by omega))) | (refine And.intro ?aa ?_; case aa => (intros; simp only [decide_eq_true_eq] at *; omega)) | (intro q hq))
      have e0 : q = decide (¬ nmCh (byteAt s i)) := by
        subst_vars
        rw [Bool.eq_iff_iff, decide_eq_true_eq]
        unfold nmCh
        by_cases a1 : byteAt s i < 97 <;> by_cases a2 : byteAt s i > 122 <;> by_cases a3 : byteAt s i < 48 <;> by_cases a4 : byteAt s i > 57 <;> simp [a1, a2, a3, a4] <;> omega
      clear hq
      refine ⟨fun h2 => vle_bool ?_, fun h2 => ⟨inK64 (by omega), i + 1, SLe.refl _, ⟨by omega, fun j h3 => ?_⟩, by omega⟩⟩
      · rw [e0] at h2
        symm
        exact decide_eq_false fun g => of_decide_eq_true h2 (g.1 i hlt)
      · rw [e0] at h2
        rcases Nat.lt_or_ge j i with h4 | h4
        · exact hj j h4
        · have : j = i := by omega
          subst this
          exact Classical.not_not.1 (of_decide_eq_false h2)
    · have hge : i = s.size := by simp at h; omega
      subst hge
      refine ⟨trivial, vle_bool ?_⟩
      rw [Bool.eq_iff_iff, decide_eq_true_eq, decide_eq_true_eq]
      unfold inR
      exact ⟨fun g => ⟨hj, by omega, by omega⟩, fun g => by have := g.2; omega⟩
  exact Eq.mp (by kernel_rfl) key
theorem so58 : Sound Tryz.prog 58 sp58 := by
  refine sound_of_body hmix (pol := 0) Tryz.func58 rfl (by kernel_rfl) fun args bin ob r bout hDe hob => ?_
  unfold sp58 at hDe
  split at hDe
  · rename_i a0
    cases hDe
    exact ⟨rfl, rfl, Nat.le_of_ble_eq_true (by kernel_rfl), cx58 a0, Eq.mp (by kernel_rfl) htt, Eq.mp (by kernel_rfl) da58, Eq.mp (by kernel_rfl) (noM_sound (P := Tryz.prog)), by kernel_rfl, [.str (a0)], args_of_vles (⟨VLe.refl _, trivial⟩), Eq.mp (by kernel_rfl) (bd58 a0 (hob))⟩
  · cases hDe

/-! ### spec.l1Cut -/
def pr65 (s : ByteArray) (c : Int) : Prop := c = 47 ∧ s.size ≤ 1000
noncomputable def rs65 (s : ByteArray) (c : Int) : V := encL encS 2 (cutB s)
noncomputable def sp65 : FSpec := fun args bin => match args, bin with
  | [.str a0, .int .u8 a1], [] => some (pr65 a0 a1, rs65 a0 a1, [])
  | _, _ => none
noncomputable def in65_4 (s : ByteArray) (c : Int) : LoopInv :=
  ⟨Nat × Nat × List ByteArray, fun p => ⟨[(0, .str s), (1, .int .u8 47), (5, .osl (canonT 5) p.2.2.length), (6, .int .i64 p.1), (7, .int .i64 p.2.1)], [(canonT 5, .arr 1 p.2.2.length (gL encS p.2.2) tagS)]⟩,
    fun p => cutI s p.1 p.2.1 p.2.2, fun p => s.size + 1 - p.2.1⟩
noncomputable def iv65 (s : ByteArray) (c : Int) : Nat → Option LoopInv := fun rg_ => match rg_ with
  | 4 => some (in65_4 s c)
  | _ => none
noncomputable def D65 : Nat → Option (Bool × FSpec) := lk []
theorem da65 : SoundAll Tryz.prog D65 := soundAll_nil
noncomputable def cx65 (s : ByteArray) (c : Int) : Cx := ⟨tt, D65, Tryz.f65.ntmps, [0, 1, 4, 5, 6, 7, 12, 25], [(4, ⟨[(0, none), (1, none), (5, some 1), (6, none), (7, none)], []⟩)], [], iv65 s c, [], noM, []⟩
noncomputable def k65_0 (s : ByteArray) (y : Nat × Nat × List ByteArray) : AS := (AS.mk [(0, V.str s), (1, V.int IntKind.u8 (47 : Int)), (5, V.osl 32000384 (List.length y.2.2)), (6, vi (↑y.1 : Int)), (7, vi (↑y.2.1 : Int))] [(32000384, Blk.arr 1 (List.length y.2.2) (gL encS y.2.2) 100)])
noncomputable def k65_1 (s : ByteArray) (x : Nat × Nat × List ByteArray) : List V := [V.str (ByteArray.extract s (Int.toNat (Option.getD (some (↑x.1 : Int)) (0 : Int))) (Int.toNat (Option.getD (some (↑x.2.1 : Int)) (↑(ByteArray.size s) : Int))))]
theorem bd65 (s : ByteArray) (c : Int) (hpre : pr65 s c) : bodyP (cx65 s c) Tryz.f65 1 [.str (s), .int .u8 (c)] (fun rr => VLe rr (rs65 s c)) := by
  have key : ((∃ x : Nat × Nat × List ByteArray, ((SLe (AS.mk [(0, V.str s), (1, V.int IntKind.u8 c), (5, V.osl 32000384 0), (6, vi (0 : Int)), (7, vi (0 : Int))] [(32000384, Blk.arr 1 0 (rowg []) 100)]) (AS.mk [(0, V.str s), (1, V.int IntKind.u8 (47 : Int)), (5, V.osl 32000384 (List.length x.2.2)), (6, vi (↑x.1 : Int)), (7, vi (↑x.2.1 : Int))] [(32000384, Blk.arr 1 (List.length x.2.2) (gL encS x.2.2) 100)])) ∧ (cutI s x.1 x.2.1 x.2.2))) ∧ (∀ x : Nat × Nat × List ByteArray, ((cutI s x.1 x.2.1 x.2.2) → (((decide ((↑x.2.1 : Int) ≤ (↑(ByteArray.size s) : Int)) = true) → ((tq (!(↑x.2.1 : Int) == (↑(ByteArray.size s) : Int))) ∧ ((tq (!(↑x.2.1 : Int) == (↑(ByteArray.size s) : Int))) ∧ ((((!(↑x.2.1 : Int) == (↑(ByteArray.size s) : Int)) = true) → (((0 : Int) ≤ (↑x.2.1 : Int)) ∧ ((↑x.2.1 : Int) < (↑(ByteArray.size s) : Int)))) ∧ ((tq (!(↑x.2.1 : Int) == (↑(ByteArray.size s) : Int))) ∧ ((tq (!(↑x.2.1 : Int) == (↑(ByteArray.size s) : Int))) ∧ (((true = true) → ((((↑x.2.1 : Int) == (↑(ByteArray.size s) : Int)) = false) → ((!(↑x.2.1 : Int) == (↑(ByteArray.size s) : Int)) = true))) ∧ (∀ b : Bool, ((b = bif (↑x.2.1 : Int) == (↑(ByteArray.size s) : Int) then true else byteAt s (↑x.2.1 : Int) == (47 : Int)) → (((b = true) → ((((0 : Int) ≤ Option.getD (some (↑x.1 : Int)) (0 : Int)) ∧ ((Option.getD (some (↑x.1 : Int)) (0 : Int) ≤ Option.getD (some (↑x.2.1 : Int)) (↑(ByteArray.size s) : Int)) ∧ (Option.getD (some (↑x.2.1 : Int)) (↑(ByteArray.size s) : Int) ≤ (↑(ByteArray.size s) : Int)))) ∧ ((List.length x.2.2 = List.length x.2.2) ∧ ((List.length x.2.2 + 1 ≤ 1073741824) ∧ ((sizedL 1 1 (rowg (k65_1 s x))) ∧ ((inK IntKind.i64 ((↑x.2.1 : Int) + (1 : Int))) ∧ ((inK IntKind.i64 ((↑x.2.1 : Int) + (1 : Int))) ∧ (∃ y : Nat × Nat × List ByteArray, ((SLe (AS.mk [(0, V.str s), (1, V.int IntKind.u8 (47 : Int)), (5, V.osl 32000384 (List.length x.2.2 + 1)), (6, vi ((↑x.2.1 : Int) + (1 : Int))), (7, vi ((↑x.2.1 : Int) + (1 : Int)))] [(32000384, Blk.arr 1 (List.length x.2.2 + 1) (appg (List.length x.2.2) (gL encS x.2.2) (rowg (k65_1 s x))) 100)]) (k65_0 s y)) ∧ ((cutI s y.1 y.2.1 y.2.2) ∧ (ByteArray.size s + 1 - Prod.fst y.2 < ByteArray.size s + 1 - Prod.fst x.2))))))))))) ∧ ((b = false) → ((inK IntKind.i64 ((↑x.2.1 : Int) + (1 : Int))) ∧ (∃ y : Nat × Nat × List ByteArray, ((SLe (AS.mk [(0, V.str s), (1, V.int IntKind.u8 (47 : Int)), (5, V.osl 32000384 (List.length x.2.2)), (6, vi (↑x.1 : Int)), (7, vi ((↑x.2.1 : Int) + (1 : Int)))] [(32000384, Blk.arr 1 (List.length x.2.2) (gL encS x.2.2) 100)]) (k65_0 s y)) ∧ ((cutI s y.1 y.2.1 y.2.2) ∧ (ByteArray.size s + 1 - Prod.fst y.2 < ByteArray.size s + 1 - Prod.fst x.2)))))))))))))))) ∧ ((decide ((↑x.2.1 : Int) ≤ (↑(ByteArray.size s) : Int)) = false) → (VLe (encL encS 2 x.2.2) (encL encS 2 (cutB s)))))))) := by
    delta k65_1; delta k65_0; delta vi
    obtain ⟨rfl, hs⟩ := hpre
    refine ⟨⟨(0, 0, []), sle_of ⟨rfl, VLe.refl _, rfl, VLe.refl _, rfl, VLe.refl _, rfl, VLe.refl _, rfl, VLe.refl _, trivial⟩ ⟨rfl, ble_nil _, trivial⟩, cutI_start s⟩, ?_⟩
    rintro ⟨f, i, out⟩ hI
    simp only at hI ⊢
    refine ⟨fun h => ?_, fun h => ?_⟩
    · have hle : i ≤ s.size := by simpa using h
      have hf := (hI.2.2.1 hle).1
      have hol := hI.2.1
      repeat (first | (refine And.intro (fun h _ => h) ?_) | (refine And.intro (fun _ h => h) ?_) | (refine And.intro ?aa ?_; case aa => (exact (fun h => by simp at h; omega))) | (refine And.intro ?aa ?_; case aa => (intros; simp_all []; done)) | (refine And.intro ?aa ?_; case aa => (intros; exact inK64 (by omega))) | (refine And.intro ?aa ?_; case aa => (intros; simp only [decide_eq_true_eq] at *; omega)) | (intro q hq))
      have e0 : q = decide (i = s.size ∨ byteAt s i = 47) := by
        subst_vars
        rw [Bool.eq_iff_iff, decide_eq_true_eq]
        by_cases a1 : i = s.size
        · simp [a1]
        · have : ((i : Int) == (s.size : Int)) = false := by rw [beq_eq_false_iff_ne]; omega
          simp [a1, this]
      clear hq
      simp only [Option.getD_some, Int.toNat_natCast]
      refine ⟨fun h2 => ?_, fun h2 => ?_⟩
      · rw [e0] at h2
        refine ⟨⟨by omega, by omega, by omega⟩, trivial, by omega, fun k hk => ?_, inK64 (by omega), inK64 (by omega), (i + 1, i + 1, out ++ [s.extract f i]), ?_, cutI_cut hI hle (of_decide_eq_true h2), by simp only; omega⟩
        · have hk0 : k = 0 := by omega
          subst hk0
          exact ⟨rfl, rfl⟩
        · simp only [List.length_append, List.length_singleton]
          exact sle_of ⟨rfl, VLe.refl _, rfl, VLe.refl _, rfl, VLe.refl _, rfl, VLe.refl _, rfl, VLe.refl _, trivial⟩ ⟨rfl, ble_push rfl rfl, trivial⟩
      · rw [e0] at h2
        have h3 := of_decide_eq_false h2
        refine ⟨inK64 (by omega), (f, i + 1, out), SLe.refl _, cutI_go hI (by omega) fun e => h3 (Or.inr e), by simp only; omega⟩
    · have : i = s.size + 1 := by
        have := hI.1
        simp at h; omega
      rw [hI.2.2.2 this]
      exact VLe.refl _
  exact Eq.mp (by kernel_rfl) key
theorem so65 : Sound Tryz.prog 65 sp65 := by
  refine sound_of_body hmix (pol := 1) Tryz.func65 rfl (by kernel_rfl) fun args bin ob r bout hDe hob => ?_
  unfold sp65 at hDe
  split at hDe
  · rename_i a0 a1
    cases hDe
    exact ⟨rfl, rfl, Nat.le_of_ble_eq_true (by kernel_rfl), cx65 a0 a1, Eq.mp (by kernel_rfl) htt, Eq.mp (by kernel_rfl) da65, Eq.mp (by kernel_rfl) (noM_sound (P := Tryz.prog)), by kernel_rfl, [.str (a0), .int .u8 (a1)], args_of_vles (⟨VLe.refl _, VLe.refl _, trivial⟩), Eq.mp (by kernel_rfl) (bd65 a0 a1 (hob))⟩
  · cases hDe

end Go.Av
