/- Texts cut at the mark. -/
import Derived.Test.YtendmninanhmiaaDoorE0
import Derived.Test.YtendmninanhmiaaDoorP1
namespace Go.Av
open Go.Proofs
set_option maxRecDepth 100000
set_option linter.unusedVariables false
set_option linter.unusedSimpArgs false


noncomputable def sp126 : FSpec := countD
theorem so126 : Sound Tryd.prog 126 sp126 := count_sound Tryd.func126 (by kernel_rfl) (by kernel_rfl) (by kernel_rfl) (by kernel_rfl)

noncomputable def sp167 : FSpec := indexByteD
theorem so167 : Sound Tryd.prog 167 sp167 := indexByte_sound Tryd.func167 (by kernel_rfl) (by kernel_rfl) (by kernel_rfl) (by kernel_rfl)

noncomputable def sp170 : FSpec := compareD
theorem so170 : Sound Tryd.prog 170 sp170 := compare_sound Tryd.func170 (by kernel_rfl) (by kernel_rfl) (by kernel_rfl) (by kernel_rfl)

noncomputable def idxB (s : ByteArray) : Int := Lib.indexByte s.data.toList 47
theorem top_size : top.size = 1 := rfl
theorem top_at : byteAt top 0 = 47 := rfl
theorem b47 : (Int.toNat 47).toUInt8 = 47 := rfl

/-! ### strings.Count -/
def pr103 (s : ByteArray) (sub : ByteArray) : Prop := sub = top ∧ s.size ≤ 1000
noncomputable def rs103 (s : ByteArray) (sub : ByteArray) : V := .int .i64 (cnt s)
noncomputable def sp103 : FSpec := fun args bin => match args, bin with
  | [.str a0, .str a1], [] => some (pr103 a0 a1, rs103 a0 a1, [])
  | _, _ => none
noncomputable def D103 : Nat → Option (Bool × FSpec) := lk [(126, (false, sp126))]
theorem da103 : SoundAll Tryd.prog D103 := soundAll_cons so126 (soundAll_nil)
noncomputable def cx103 (s : ByteArray) (sub : ByteArray) : Cx := ⟨tt, D103, Tryd.f103.ntmps, [0, 1, 4, 5, 6, 9, 15, 24], [], [2, 5], fun _ => none, [], noM, []⟩
theorem bd103 (s : ByteArray) (sub : ByteArray) (hpre : pr103 s sub) : bodyP (cx103 s sub) Tryd.f103 0 [.str (s), .str (sub)] (fun rr => VLe rr (rs103 s sub)) := by
  have key :
      (((((↑(ByteArray.size sub) : Int) == (0 : Int)) = true) →
   (False)) ∧
   ((((↑(ByteArray.size sub) : Int) == (0 : Int)) = false) →
   (((((↑(ByteArray.size sub) : Int) == (1 : Int)) = true) →
   ((((0 : Int) ≤ (0 : Int)) ∧
   ((0 : Int) < (↑(ByteArray.size sub) : Int))) ∧
   ((True) ∧
   (VLe
   (V.int IntKind.i64
   (↑(Lib.countByte (Array.toList (ByteArray.data s)) (Nat.toUInt8 (Int.toNat (byteAt sub (0 : Int))))) : Int))
   (V.int IntKind.i64 (↑(cnt s) : Int)))))) ∧
   ((((↑(ByteArray.size sub) : Int) == (1 : Int)) = false) →
   (False))))) := by
    obtain ⟨rfl, hs⟩ := hpre
    simp only [top_size, top_at, b47]
    exact ⟨fun h => by simp at h, fun h => ⟨fun h => ⟨by simp, trivial, VLe.refl _⟩, fun h => by simp at h⟩⟩
  exact Eq.mp (by kernel_rfl) key
theorem so103 : Sound Tryd.prog 103 sp103 := by
  refine sound_of_body hmix (pol := 0) Tryd.func103 rfl (by kernel_rfl) fun args bin ob r bout hDe hob => ?_
  unfold sp103 at hDe
  split at hDe
  · rename_i a0 a1
    cases hDe
    exact ⟨rfl, rfl, Nat.le_of_ble_eq_true (by kernel_rfl), cx103 a0 a1, Eq.mp (by kernel_rfl) htt, Eq.mp (by kernel_rfl) da103, Eq.mp (by kernel_rfl) (noM_sound (P := Tryd.prog)), by kernel_rfl, [.str (a0), .str (a1)], args_of_vles (⟨VLe.refl _, VLe.refl _, trivial⟩), Eq.mp (by kernel_rfl) (bd103 a0 a1 (hob))⟩
  · cases hDe

/-! ### internal/stringslite.IndexByte -/
def pr158 (s : ByteArray) (c : Int) : Prop := c = 47
noncomputable def rs158 (s : ByteArray) (c : Int) : V := .int .i64 (idxB s)
noncomputable def sp158 : FSpec := fun args bin => match args, bin with
  | [.str a0, .int .u8 a1], [] => some (pr158 a0 a1, rs158 a0 a1, [])
  | _, _ => none
noncomputable def D158 : Nat → Option (Bool × FSpec) := lk [(167, (false, sp167))]
theorem da158 : SoundAll Tryd.prog D158 := soundAll_cons so167 (soundAll_nil)
noncomputable def cx158 (s : ByteArray) (c : Int) : Cx := ⟨tt, D158, Tryd.f158.ntmps, [0, 1, 4], [], [], fun _ => none, [], noM, []⟩
theorem bd158 (s : ByteArray) (c : Int) (hpre : pr158 s c) : bodyP (cx158 s c) Tryd.f158 0 [.str (s), .int .u8 (c)] (fun rr => VLe rr (rs158 s c)) := by
  have key :
      ((True) ∧
   (VLe (V.int IntKind.i64 (Lib.indexByte (Array.toList (ByteArray.data s)) (Nat.toUInt8 (Int.toNat c))))
   (V.int IntKind.i64 (idxB s)))) := by
    subst hpre
    exact ⟨trivial, VLe.refl _⟩
  exact Eq.mp (by kernel_rfl) key
theorem so158 : Sound Tryd.prog 158 sp158 := by
  refine sound_of_body hmix (pol := 0) Tryd.func158 rfl (by kernel_rfl) fun args bin ob r bout hDe hob => ?_
  unfold sp158 at hDe
  split at hDe
  · rename_i a0 a1
    cases hDe
    exact ⟨rfl, rfl, Nat.le_of_ble_eq_true (by kernel_rfl), cx158 a0 a1, Eq.mp (by kernel_rfl) htt, Eq.mp (by kernel_rfl) da158, Eq.mp (by kernel_rfl) (noM_sound (P := Tryd.prog)), by kernel_rfl, [.str (a0), .int .u8 (a1)], args_of_vles (⟨VLe.refl _, VLe.refl _, trivial⟩), Eq.mp (by kernel_rfl) (bd158 a0 a1 (hob))⟩
  · cases hDe

/-! ### internal/stringslite.Index -/
def pr145 (s : ByteArray) (sub : ByteArray) : Prop := sub = top
noncomputable def rs145 (s : ByteArray) (sub : ByteArray) : V := .int .i64 (idxB s)
noncomputable def sp145 : FSpec := fun args bin => match args, bin with
  | [.str a0, .str a1], [] => some (pr145 a0 a1, rs145 a0 a1, [])
  | _, _ => none
noncomputable def D145 : Nat → Option (Bool × FSpec) := lk [(158, (false, sp158))]
theorem da145 : SoundAll Tryd.prog D145 := soundAll_cons so158 (soundAll_nil)
noncomputable def cx145 (s : ByteArray) (sub : ByteArray) : Cx := ⟨tt, D145, Tryd.f145.ntmps, [0, 1, 4, 5, 6, 7, 8, 9, 10, 11, 12, 13, 16, 24, 31, 36, 59, 64, 73, 93, 107, 114, 132, 139], [], [6], fun _ => none, [], noM, []⟩
theorem bd145 (s : ByteArray) (sub : ByteArray) (hpre : pr145 s sub) : bodyP (cx145 s sub) Tryd.f145 0 [.str (s), .str (sub)] (fun rr => VLe rr (rs145 s sub)) := by
  have key :
      ((tq (!(↑(ByteArray.size sub) : Int) == (0 : Int))) ∧
   ((tq (!(↑(ByteArray.size sub) : Int) == (0 : Int))) ∧
   (((true = true) →
   ((((↑(ByteArray.size sub) : Int) == (0 : Int)) = false) →
   ((!(↑(ByteArray.size sub) : Int) == (0 : Int)) = true))) ∧
   (∀ b : Bool,
   ((b = bif (↑(ByteArray.size sub) : Int) == (0 : Int) then true else strEq sub s) →
   (((b = true) →
   (VLe (V.int IntKind.i64 (0 : Int)) (V.int IntKind.i64 (idxB s)))) ∧
   ((b = false) →
   (((((↑(ByteArray.size sub) : Int) == (1 : Int)) = true) →
   ((((0 : Int) ≤ (0 : Int)) ∧
   ((0 : Int) < (↑(ByteArray.size sub) : Int))) ∧
   ((pr158 s (byteAt sub (0 : Int))) ∧
   (VLe (V.int IntKind.i64 (idxB s)) (V.int IntKind.i64 (idxB s)))))) ∧
   ((((↑(ByteArray.size sub) : Int) == (1 : Int)) = false) →
   (False)))))))))) := by
    subst hpre
    simp only [top_size, top_at]
    repeat (first | (refine And.intro (fun h _ => h) ?_) | (refine And.intro (fun _ h => h) ?_) | (refine And.intro ?aa ?_; case aa => (exact trivial)) | (refine And.intro ?aa ?_; case aa => (intros; simp_all [pr158]; done)) | (refine And.intro ?aa ?_; case aa => (intros; exact inK64 (by omega))) | (refine And.intro ?aa ?_; case aa => (intros; simp only [decide_eq_true_eq] at *; omega)) | (intro q hq))
    refine ⟨fun h => ?_, fun h => ⟨fun h => ⟨by simp, rfl, VLe.refl _⟩, fun h => by simp at h⟩⟩
    rw [hq] at h
    simp [strEq_dec] at h
    refine vle_int ?_
    rw [← h]
    rfl
  exact Eq.mp (by kernel_rfl) key
theorem so145 : Sound Tryd.prog 145 sp145 := by
  refine sound_of_body hmix (pol := 0) Tryd.func145 rfl (by kernel_rfl) fun args bin ob r bout hDe hob => ?_
  unfold sp145 at hDe
  split at hDe
  · rename_i a0 a1
    cases hDe
    exact ⟨rfl, rfl, Nat.le_of_ble_eq_true (by kernel_rfl), cx145 a0 a1, Eq.mp (by kernel_rfl) htt, Eq.mp (by kernel_rfl) da145, Eq.mp (by kernel_rfl) (noM_sound (P := Tryd.prog)), by kernel_rfl, [.str (a0), .str (a1)], args_of_vles (⟨VLe.refl _, VLe.refl _, trivial⟩), Eq.mp (by kernel_rfl) (bd145 a0 a1 (hob))⟩
  · cases hDe

/-! ### strings.Index -/
def pr127 (s : ByteArray) (sub : ByteArray) : Prop := sub = top
noncomputable def rs127 (s : ByteArray) (sub : ByteArray) : V := .int .i64 (idxB s)
noncomputable def sp127 : FSpec := fun args bin => match args, bin with
  | [.str a0, .str a1], [] => some (pr127 a0 a1, rs127 a0 a1, [])
  | _, _ => none
noncomputable def D127 : Nat → Option (Bool × FSpec) := lk [(145, (false, sp145))]
theorem da127 : SoundAll Tryd.prog D127 := soundAll_cons so145 (soundAll_nil)
noncomputable def cx127 (s : ByteArray) (sub : ByteArray) : Cx := ⟨tt, D127, Tryd.f127.ntmps, [0, 1, 4], [], [], fun _ => none, [], noM, []⟩
theorem bd127 (s : ByteArray) (sub : ByteArray) (hpre : pr127 s sub) : bodyP (cx127 s sub) Tryd.f127 0 [.str (s), .str (sub)] (fun rr => VLe rr (rs127 s sub)) := by
  have key :
      ((pr145 s sub) ∧
   (VLe (V.int IntKind.i64 (idxB s)) (V.int IntKind.i64 (idxB s)))) := by
    exact ⟨hpre, VLe.refl _⟩
  exact Eq.mp (by kernel_rfl) key
theorem so127 : Sound Tryd.prog 127 sp127 := by
  refine sound_of_body hmix (pol := 0) Tryd.func127 rfl (by kernel_rfl) fun args bin ob r bout hDe hob => ?_
  unfold sp127 at hDe
  split at hDe
  · rename_i a0 a1
    cases hDe
    exact ⟨rfl, rfl, Nat.le_of_ble_eq_true (by kernel_rfl), cx127 a0 a1, Eq.mp (by kernel_rfl) htt, Eq.mp (by kernel_rfl) da127, Eq.mp (by kernel_rfl) (noM_sound (P := Tryd.prog)), by kernel_rfl, [.str (a0), .str (a1)], args_of_vles (⟨VLe.refl _, VLe.refl _, trivial⟩), Eq.mp (by kernel_rfl) (bd127 a0 a1 (hob))⟩
  · cases hDe

theorem gL_set {l : List ByteArray} {i : Nat} {x : ByteArray} (hi : i < l.length) : setg (gL encS l) i (.str x) = gL encS (l.set i x) := by
  funext k
  simp only [setg, gL]
  by_cases e : k = i
  · subst e; rw [if_pos rfl, getD_set_eq _ _ _ _ hi]; rfl
  · rw [if_neg e, getD_set_ne _ _ _ _ e]
theorem ble_nil {α : Type} [Inhabited α] (enc : α → V) {sz te te' : Nat} {g : Nat → V} : BLe (.arr sz 0 g te) (.arr sz ([] : List α).length (gL enc []) te') := ble_arr (fun i hi => absurd hi (Nat.not_lt_zero i)) (Or.inr (Or.inr (Or.inr rfl)))
theorem ble_of_eq {a b : Blk} (h : a = b) : BLe a b := by rw [h]; exact BLe.refl _
theorem gL_rep {n i : Nat} (h : i < n) : gL encS (List.replicate n ByteArray.empty) i = .str ⟨#[]⟩ := by
  simp [gL, h]
  rfl

/-! ### strings.genSplit -/
def pr128 (s : ByteArray) (sep : ByteArray) (save : Int) (n : Int) : Prop := sep = top ∧ save = 0 ∧ n = -1 ∧ s.size ≤ 1000
noncomputable def rs128 (s : ByteArray) (sep : ByteArray) (save : Int) (n : Int) : V := encL encS 2 (cutB s)
noncomputable def sp128 : FSpec := fun args bin => match args, bin with
  | [.str a0, .str a1, .int .i64 a2, .int .i64 a3], [] => some (pr128 a0 a1 a2 a3, rs128 a0 a1 a2 a3, [])
  | _, _ => none
noncomputable def in128_11 (s : ByteArray) (sep : ByteArray) (save : Int) (n : Int) : LoopInv :=
  ⟨ByteArray × Nat × List ByteArray, fun p => ⟨[(0, .str p.1), (1, .str top), (2, .int .i64 0), (3, .int .i64 (cnt s)), (9, .osl (canonT 9) (cnt s + 1)), (10, .int .i64 p.2.1)], [(canonT 9, .arr 1 (cnt s + 1) (gL encS p.2.2) tagS)]⟩,
    fun p => p.1.size ≤ s.size ∧ p.2.2.length = cnt s + 1 ∧ p.2.1 + cnt p.1 = cnt s ∧ p.2.2.take p.2.1 ++ cutB p.1 = cutB s, fun p => cnt s - p.2.1⟩
noncomputable def iv128 (s : ByteArray) (sep : ByteArray) (save : Int) (n : Int) : Nat → Option LoopInv := fun rg_ => match rg_ with
  | 11 => some (in128_11 s sep save n)
  | _ => none
noncomputable def D128 : Nat → Option (Bool × FSpec) := lk [(103, (false, sp103)), (127, (false, sp127))]
theorem da128 : SoundAll Tryd.prog D128 := soundAll_cons so103 (soundAll_cons so127 (soundAll_nil))
noncomputable def cx128 (s : ByteArray) (sep : ByteArray) (save : Int) (n : Int) : Cx := ⟨tt, D128, Tryd.f128.ntmps, [0, 1, 2, 3, 8, 9, 10, 11, 13, 15, 20, 36, 41], [(11, ⟨[(0, none), (1, none), (2, none), (3, none), (9, some 1), (10, none)], []⟩)], [2, 4], iv128 s sep save n, [], noM, []⟩
theorem bd128 (s : ByteArray) (sep : ByteArray) (save : Int) (n : Int) (hpre : pr128 s sep save n) : bodyP (cx128 s sep save n) Tryd.f128 1 [.str (s), .str (sep), .int .i64 (save), .int .i64 (n)] (fun rr => VLe rr (rs128 s sep save n)) := by
  have key :
      ((((n == (0 : Int)) = true) →
   (False)) ∧
   (((n == (0 : Int)) = false) →
   (((strEq sep (ByteArray.mk #[]) = true) →
   (False)) ∧
   ((strEq sep (ByteArray.mk #[]) = false) →
   (((decide (n < (0 : Int)) = true) →
   ((pr103 s sep) ∧
   ((inK IntKind.i64 ((↑(cnt s) : Int) + (1 : Int))) ∧
   ((inK IntKind.i64 ((↑(ByteArray.size s) : Int) + (1 : Int))) ∧
   ((((0 : Int) ≤
   if (↑(ByteArray.size s) : Int) + (1 : Int) < (↑(cnt s) : Int) + (1 : Int) then (↑(ByteArray.size s) : Int) + (1 : Int)
   else (↑(cnt s) : Int) + (1 : Int)) ∧
   (((if (↑(ByteArray.size s) : Int) + (1 : Int) < (↑(cnt s) : Int) + (1 : Int) then (↑(ByteArray.size s) : Int) + (1 : Int)
   else (↑(cnt s) : Int) + (1 : Int)) ≤
   if (↑(ByteArray.size s) : Int) + (1 : Int) < (↑(cnt s) : Int) + (1 : Int) then (↑(ByteArray.size s) : Int) + (1 : Int)
   else (↑(cnt s) : Int) + (1 : Int)) ∧
   ((if (↑(ByteArray.size s) : Int) + (1 : Int) < (↑(cnt s) : Int) + (1 : Int) then (↑(ByteArray.size s) : Int) + (1 : Int)
   else (↑(cnt s) : Int) + (1 : Int)) ≤
   (↑1073741824 : Int)))) ∧
   ((inK IntKind.i64
   ((if (↑(ByteArray.size s) : Int) + (1 : Int) < (↑(cnt s) : Int) + (1 : Int) then
   (↑(ByteArray.size s) : Int) + (1 : Int)
   else (↑(cnt s) : Int) + (1 : Int)) -
   (1 : Int))) ∧
   ((∃ x : ByteArray × Nat × List ByteArray, ((SLe
   (AS.mk
   [(0, V.str s), (1, V.str sep), (2, V.int IntKind.i64 save),
   (3,
   V.int IntKind.i64
   ((if (↑(ByteArray.size s) : Int) + (1 : Int) < (↑(cnt s) : Int) + (1 : Int) then
   (↑(ByteArray.size s) : Int) + (1 : Int)
   else (↑(cnt s) : Int) + (1 : Int)) -
   (1 : Int))),
   (9,
   V.osl 32000640
   (Int.toNat
   (if (↑(ByteArray.size s) : Int) + (1 : Int) < (↑(cnt s) : Int) + (1 : Int) then
   (↑(ByteArray.size s) : Int) + (1 : Int)
   else (↑(cnt s) : Int) + (1 : Int)))),
   (10, V.int IntKind.i64 (0 : Int))]
   [(32000640,
   Blk.arr 1
   (Int.toNat
   (if (↑(ByteArray.size s) : Int) + (1 : Int) < (↑(cnt s) : Int) + (1 : Int) then
   (↑(ByteArray.size s) : Int) + (1 : Int)
   else (↑(cnt s) : Int) + (1 : Int)))
   (fun (x : Nat) ↦ V.str (ByteArray.mk #[])) 100)])
   (AS.mk
   [(0, V.str (Prod.fst x)), (1, V.str top), (2, V.int IntKind.i64 (0 : Int)),
   (3, V.int IntKind.i64 (↑(cnt s) : Int)), (9, V.osl 32000640 (cnt s + 1)),
   (10, V.int IntKind.i64 (↑(Prod.fst (Prod.snd x)) : Int))]
   [(32000640, Blk.arr 1 (cnt s + 1) (gL encS (Prod.snd (Prod.snd x))) 100)])) ∧
   ((ByteArray.size (Prod.fst x) ≤ ByteArray.size s) ∧
   ((List.length (Prod.snd (Prod.snd x)) = cnt s + 1) ∧
   ((Prod.fst (Prod.snd x) + cnt (Prod.fst x) = cnt s) ∧
   (List.take (Prod.fst (Prod.snd x)) (Prod.snd (Prod.snd x)) ++ cutB (Prod.fst x) = cutB s)))))) ∧
   (∀ x : ByteArray × Nat × List ByteArray,
   (((ByteArray.size (Prod.fst x) ≤ ByteArray.size s) ∧
   ((List.length (Prod.snd (Prod.snd x)) = cnt s + 1) ∧
   ((Prod.fst (Prod.snd x) + cnt (Prod.fst x) = cnt s) ∧
   (List.take (Prod.fst (Prod.snd x)) (Prod.snd (Prod.snd x)) ++ cutB (Prod.fst x) = cutB s)))) →
   (((decide ((↑(Prod.fst (Prod.snd x)) : Int) < (↑(cnt s) : Int)) = true) →
   ((pr127 (Prod.fst x) top) ∧
   (((decide (idxB (Prod.fst x) < (0 : Int)) = true) →
   ((((0 : Int) ≤ (↑(Prod.fst (Prod.snd x)) : Int)) ∧
   ((↑(Prod.fst (Prod.snd x)) : Int) < (↑(cnt s + 1) : Int))) ∧
   ((Int.toNat (↑(Prod.fst (Prod.snd x)) : Int) < cnt s + 1) ∧
   ((inK IntKind.i64 ((↑(Prod.fst (Prod.snd x)) : Int) + (1 : Int))) ∧
   ((((0 : Int) ≤ (↑(Prod.fst (Prod.snd x)) : Int) + (1 : Int)) ∧
   ((↑(Prod.fst (Prod.snd x)) : Int) + (1 : Int) ≤ (↑(cnt s + 1) : Int))) ∧
   (VLe
   (V.sl (Int.toNat ((↑(Prod.fst (Prod.snd x)) : Int) + (1 : Int)))
   (setg (gL encS (Prod.snd (Prod.snd x))) (Int.toNat (↑(Prod.fst (Prod.snd x)) : Int)) (V.str (Prod.fst x)))
   2)
   (encL encS 2 (cutB s)))))))) ∧
   ((decide (idxB (Prod.fst x) < (0 : Int)) = false) →
   ((inK IntKind.i64 (idxB (Prod.fst x) + (0 : Int))) ∧
   ((((0 : Int) ≤ Option.getD none (0 : Int)) ∧
   ((Option.getD none (0 : Int) ≤ Option.getD (some (idxB (Prod.fst x) + (0 : Int))) (↑(ByteArray.size (Prod.fst x)) : Int)) ∧
   (Option.getD (some (idxB (Prod.fst x) + (0 : Int))) (↑(ByteArray.size (Prod.fst x)) : Int) ≤
   (↑(ByteArray.size (Prod.fst x)) : Int)))) ∧
   ((((0 : Int) ≤ (↑(Prod.fst (Prod.snd x)) : Int)) ∧
   ((↑(Prod.fst (Prod.snd x)) : Int) < (↑(cnt s + 1) : Int))) ∧
   ((Int.toNat (↑(Prod.fst (Prod.snd x)) : Int) < cnt s + 1) ∧
   ((inK IntKind.i64 (idxB (Prod.fst x) + (↑1 : Int))) ∧
   ((((0 : Int) ≤ Option.getD (some (idxB (Prod.fst x) + (↑1 : Int))) (0 : Int)) ∧
   ((Option.getD (some (idxB (Prod.fst x) + (↑1 : Int))) (0 : Int) ≤
   Option.getD none (↑(ByteArray.size (Prod.fst x)) : Int)) ∧
   (Option.getD none (↑(ByteArray.size (Prod.fst x)) : Int) ≤ (↑(ByteArray.size (Prod.fst x)) : Int)))) ∧
   ((inK IntKind.i64 ((↑(Prod.fst (Prod.snd x)) : Int) + (1 : Int))) ∧
   (∃ y : ByteArray × Nat × List ByteArray, ((SLe
   (AS.mk
   [(0,
   V.str
   (ByteArray.extract (Prod.fst x)
   (Int.toNat (Option.getD (some (idxB (Prod.fst x) + (↑1 : Int))) (0 : Int)))
   (Int.toNat (Option.getD none (↑(ByteArray.size (Prod.fst x)) : Int))))),
   (1, V.str top), (2, V.int IntKind.i64 (0 : Int)), (3, V.int IntKind.i64 (↑(cnt s) : Int)),
   (9, V.osl 32000640 (cnt s + 1)),
   (10, V.int IntKind.i64 ((↑(Prod.fst (Prod.snd x)) : Int) + (1 : Int)))]
   [(32000640,
   Blk.arr 1 (cnt s + 1)
   (setg (gL encS (Prod.snd (Prod.snd x))) (Int.toNat (↑(Prod.fst (Prod.snd x)) : Int))
   (V.str
   (ByteArray.extract (Prod.fst x) 0
   (Int.toNat
   (Option.getD (some (idxB (Prod.fst x) + (0 : Int))) (↑(ByteArray.size (Prod.fst x)) : Int))))))
   100)])
   (AS.mk
   [(0, V.str (Prod.fst y)), (1, V.str top), (2, V.int IntKind.i64 (0 : Int)),
   (3, V.int IntKind.i64 (↑(cnt s) : Int)), (9, V.osl 32000640 (cnt s + 1)),
   (10, V.int IntKind.i64 (↑(Prod.fst (Prod.snd y)) : Int))]
   [(32000640, Blk.arr 1 (cnt s + 1) (gL encS (Prod.snd (Prod.snd y))) 100)])) ∧
   (((ByteArray.size (Prod.fst y) ≤ ByteArray.size s) ∧
   ((List.length (Prod.snd (Prod.snd y)) = cnt s + 1) ∧
   ((Prod.fst (Prod.snd y) + cnt (Prod.fst y) = cnt s) ∧
   (List.take (Prod.fst (Prod.snd y)) (Prod.snd (Prod.snd y)) ++ cutB (Prod.fst y) = cutB s)))) ∧
   (cnt s - Prod.fst (Prod.snd y) < cnt s - Prod.fst (Prod.snd x)))))))))))))))) ∧
   ((decide ((↑(Prod.fst (Prod.snd x)) : Int) < (↑(cnt s) : Int)) = false) →
   ((((0 : Int) ≤ (↑(Prod.fst (Prod.snd x)) : Int)) ∧
   ((↑(Prod.fst (Prod.snd x)) : Int) < (↑(cnt s + 1) : Int))) ∧
   ((Int.toNat (↑(Prod.fst (Prod.snd x)) : Int) < cnt s + 1) ∧
   ((inK IntKind.i64 ((↑(Prod.fst (Prod.snd x)) : Int) + (1 : Int))) ∧
   ((((0 : Int) ≤ (↑(Prod.fst (Prod.snd x)) : Int) + (1 : Int)) ∧
   ((↑(Prod.fst (Prod.snd x)) : Int) + (1 : Int) ≤ (↑(cnt s + 1) : Int))) ∧
   (VLe
   (V.sl (Int.toNat ((↑(Prod.fst (Prod.snd x)) : Int) + (1 : Int)))
   (setg (gL encS (Prod.snd (Prod.snd x))) (Int.toNat (↑(Prod.fst (Prod.snd x)) : Int)) (V.str (Prod.fst x)))
   2)
   (encL encS 2 (cutB s)))))))))))))))))) ∧
   ((decide (n < (0 : Int)) = false) →
   ((inK IntKind.i64 ((↑(ByteArray.size s) : Int) + (1 : Int))) ∧
   ((((0 : Int) ≤ if (↑(ByteArray.size s) : Int) + (1 : Int) < n then (↑(ByteArray.size s) : Int) + (1 : Int) else n) ∧
   (((if (↑(ByteArray.size s) : Int) + (1 : Int) < n then (↑(ByteArray.size s) : Int) + (1 : Int) else n) ≤
   if (↑(ByteArray.size s) : Int) + (1 : Int) < n then (↑(ByteArray.size s) : Int) + (1 : Int) else n) ∧
   ((if (↑(ByteArray.size s) : Int) + (1 : Int) < n then (↑(ByteArray.size s) : Int) + (1 : Int) else n) ≤
   (↑1073741824 : Int)))) ∧
   ((inK IntKind.i64
   ((if (↑(ByteArray.size s) : Int) + (1 : Int) < n then (↑(ByteArray.size s) : Int) + (1 : Int) else n) - (1 : Int))) ∧
   ((∃ x : ByteArray × Nat × List ByteArray, ((SLe
   (AS.mk
   [(0, V.str s), (1, V.str sep), (2, V.int IntKind.i64 save),
   (3,
   V.int IntKind.i64
   ((if (↑(ByteArray.size s) : Int) + (1 : Int) < n then (↑(ByteArray.size s) : Int) + (1 : Int) else n) -
   (1 : Int))),
   (9,
   V.osl 32000640
   (Int.toNat
   (if (↑(ByteArray.size s) : Int) + (1 : Int) < n then (↑(ByteArray.size s) : Int) + (1 : Int) else n))),
   (10, V.int IntKind.i64 (0 : Int))]
   [(32000640,
   Blk.arr 1
   (Int.toNat
   (if (↑(ByteArray.size s) : Int) + (1 : Int) < n then (↑(ByteArray.size s) : Int) + (1 : Int) else n))
   (fun (x : Nat) ↦ V.str (ByteArray.mk #[])) 100)])
   (AS.mk
   [(0, V.str (Prod.fst x)), (1, V.str top), (2, V.int IntKind.i64 (0 : Int)),
   (3, V.int IntKind.i64 (↑(cnt s) : Int)), (9, V.osl 32000640 (cnt s + 1)),
   (10, V.int IntKind.i64 (↑(Prod.fst (Prod.snd x)) : Int))]
   [(32000640, Blk.arr 1 (cnt s + 1) (gL encS (Prod.snd (Prod.snd x))) 100)])) ∧
   ((ByteArray.size (Prod.fst x) ≤ ByteArray.size s) ∧
   ((List.length (Prod.snd (Prod.snd x)) = cnt s + 1) ∧
   ((Prod.fst (Prod.snd x) + cnt (Prod.fst x) = cnt s) ∧
   (List.take (Prod.fst (Prod.snd x)) (Prod.snd (Prod.snd x)) ++ cutB (Prod.fst x) = cutB s)))))) ∧
   (∀ x : ByteArray × Nat × List ByteArray,
   (((ByteArray.size (Prod.fst x) ≤ ByteArray.size s) ∧
   ((List.length (Prod.snd (Prod.snd x)) = cnt s + 1) ∧
   ((Prod.fst (Prod.snd x) + cnt (Prod.fst x) = cnt s) ∧
   (List.take (Prod.fst (Prod.snd x)) (Prod.snd (Prod.snd x)) ++ cutB (Prod.fst x) = cutB s)))) →
   (((decide ((↑(Prod.fst (Prod.snd x)) : Int) < (↑(cnt s) : Int)) = true) →
   ((pr127 (Prod.fst x) top) ∧
   (((decide (idxB (Prod.fst x) < (0 : Int)) = true) →
   ((((0 : Int) ≤ (↑(Prod.fst (Prod.snd x)) : Int)) ∧
   ((↑(Prod.fst (Prod.snd x)) : Int) < (↑(cnt s + 1) : Int))) ∧
   ((Int.toNat (↑(Prod.fst (Prod.snd x)) : Int) < cnt s + 1) ∧
   ((inK IntKind.i64 ((↑(Prod.fst (Prod.snd x)) : Int) + (1 : Int))) ∧
   ((((0 : Int) ≤ (↑(Prod.fst (Prod.snd x)) : Int) + (1 : Int)) ∧
   ((↑(Prod.fst (Prod.snd x)) : Int) + (1 : Int) ≤ (↑(cnt s + 1) : Int))) ∧
   (VLe
   (V.sl (Int.toNat ((↑(Prod.fst (Prod.snd x)) : Int) + (1 : Int)))
   (setg (gL encS (Prod.snd (Prod.snd x))) (Int.toNat (↑(Prod.fst (Prod.snd x)) : Int)) (V.str (Prod.fst x)))
   2)
   (encL encS 2 (cutB s)))))))) ∧
   ((decide (idxB (Prod.fst x) < (0 : Int)) = false) →
   ((inK IntKind.i64 (idxB (Prod.fst x) + (0 : Int))) ∧
   ((((0 : Int) ≤ Option.getD none (0 : Int)) ∧
   ((Option.getD none (0 : Int) ≤ Option.getD (some (idxB (Prod.fst x) + (0 : Int))) (↑(ByteArray.size (Prod.fst x)) : Int)) ∧
   (Option.getD (some (idxB (Prod.fst x) + (0 : Int))) (↑(ByteArray.size (Prod.fst x)) : Int) ≤
   (↑(ByteArray.size (Prod.fst x)) : Int)))) ∧
   ((((0 : Int) ≤ (↑(Prod.fst (Prod.snd x)) : Int)) ∧
   ((↑(Prod.fst (Prod.snd x)) : Int) < (↑(cnt s + 1) : Int))) ∧
   ((Int.toNat (↑(Prod.fst (Prod.snd x)) : Int) < cnt s + 1) ∧
   ((inK IntKind.i64 (idxB (Prod.fst x) + (↑1 : Int))) ∧
   ((((0 : Int) ≤ Option.getD (some (idxB (Prod.fst x) + (↑1 : Int))) (0 : Int)) ∧
   ((Option.getD (some (idxB (Prod.fst x) + (↑1 : Int))) (0 : Int) ≤
   Option.getD none (↑(ByteArray.size (Prod.fst x)) : Int)) ∧
   (Option.getD none (↑(ByteArray.size (Prod.fst x)) : Int) ≤ (↑(ByteArray.size (Prod.fst x)) : Int)))) ∧
   ((inK IntKind.i64 ((↑(Prod.fst (Prod.snd x)) : Int) + (1 : Int))) ∧
   (∃ y : ByteArray × Nat × List ByteArray, ((SLe
   (AS.mk
   [(0,
   V.str
   (ByteArray.extract (Prod.fst x)
   (Int.toNat (Option.getD (some (idxB (Prod.fst x) + (↑1 : Int))) (0 : Int)))
   (Int.toNat (Option.getD none (↑(ByteArray.size (Prod.fst x)) : Int))))),
   (1, V.str top), (2, V.int IntKind.i64 (0 : Int)), (3, V.int IntKind.i64 (↑(cnt s) : Int)),
   (9, V.osl 32000640 (cnt s + 1)),
   (10, V.int IntKind.i64 ((↑(Prod.fst (Prod.snd x)) : Int) + (1 : Int)))]
   [(32000640,
   Blk.arr 1 (cnt s + 1)
   (setg (gL encS (Prod.snd (Prod.snd x))) (Int.toNat (↑(Prod.fst (Prod.snd x)) : Int))
   (V.str
   (ByteArray.extract (Prod.fst x) 0
   (Int.toNat
   (Option.getD (some (idxB (Prod.fst x) + (0 : Int))) (↑(ByteArray.size (Prod.fst x)) : Int))))))
   100)])
   (AS.mk
   [(0, V.str (Prod.fst y)), (1, V.str top), (2, V.int IntKind.i64 (0 : Int)),
   (3, V.int IntKind.i64 (↑(cnt s) : Int)), (9, V.osl 32000640 (cnt s + 1)),
   (10, V.int IntKind.i64 (↑(Prod.fst (Prod.snd y)) : Int))]
   [(32000640, Blk.arr 1 (cnt s + 1) (gL encS (Prod.snd (Prod.snd y))) 100)])) ∧
   (((ByteArray.size (Prod.fst y) ≤ ByteArray.size s) ∧
   ((List.length (Prod.snd (Prod.snd y)) = cnt s + 1) ∧
   ((Prod.fst (Prod.snd y) + cnt (Prod.fst y) = cnt s) ∧
   (List.take (Prod.fst (Prod.snd y)) (Prod.snd (Prod.snd y)) ++ cutB (Prod.fst y) = cutB s)))) ∧
   (cnt s - Prod.fst (Prod.snd y) < cnt s - Prod.fst (Prod.snd x)))))))))))))))) ∧
   ((decide ((↑(Prod.fst (Prod.snd x)) : Int) < (↑(cnt s) : Int)) = false) →
   ((((0 : Int) ≤ (↑(Prod.fst (Prod.snd x)) : Int)) ∧
   ((↑(Prod.fst (Prod.snd x)) : Int) < (↑(cnt s + 1) : Int))) ∧
   ((Int.toNat (↑(Prod.fst (Prod.snd x)) : Int) < cnt s + 1) ∧
   ((inK IntKind.i64 ((↑(Prod.fst (Prod.snd x)) : Int) + (1 : Int))) ∧
   ((((0 : Int) ≤ (↑(Prod.fst (Prod.snd x)) : Int) + (1 : Int)) ∧
   ((↑(Prod.fst (Prod.snd x)) : Int) + (1 : Int) ≤ (↑(cnt s + 1) : Int))) ∧
   (VLe
   (V.sl (Int.toNat ((↑(Prod.fst (Prod.snd x)) : Int) + (1 : Int)))
   (setg (gL encS (Prod.snd (Prod.snd x))) (Int.toNat (↑(Prod.fst (Prod.snd x)) : Int)) (V.str (Prod.fst x)))
   2)
   (encL encS 2 (cutB s))))))))))))))))))))) := by
    obtain ⟨rfl, rfl, rfl, hs⟩ := hpre
    have hc : cnt s ≤ s.size := by unfold cnt; rw [size_len]; exact List.count_le_length
    have em : (if (s.size : Int) + 1 < (cnt s : Int) + 1 then (s.size : Int) + 1 else (cnt s : Int) + 1) = (cnt s : Int) + 1 := if_neg (by omega)
    have em2 : ((cnt s : Int) + 1).toNat = cnt s + 1 := by omega
    simp only [em, em2]
    refine ⟨fun h => by simp at h, fun _ => ⟨fun h => ?_, fun _ => ⟨fun _ => ?_, fun h => by simp at h⟩⟩⟩
    · rw [strEq_dec] at h
      exact absurd (congrArg ByteArray.size (of_decide_eq_true h)) (by decide)
    refine ⟨⟨rfl, hs⟩, inK64 (by omega), inK64 (by omega), ⟨by omega, by omega, by omega⟩, inK64 (by omega), ⟨(s, 0, List.replicate (cnt s + 1) ByteArray.empty), sle_of ⟨rfl, VLe.refl _, rfl, VLe.refl _, rfl, VLe.refl _, rfl, vle_int (by omega), rfl, VLe.refl _, rfl, vle_int (by simp), trivial⟩ ⟨rfl, ble_arr (fun i hi => ELe.of_eq (gL_rep hi).symm) (Or.inl rfl), trivial⟩, by simp, by simp, by simp, by simp⟩, ?_⟩
    rintro ⟨r, i, a⟩ ⟨h1, h2, h3, h4⟩
    simp only at h1 h2 h3 h4 ⊢
    refine ⟨fun h => ?_, fun h => ?_⟩
    · have hlt : i < cnt s := by simpa using h
      rcases cut_at 47 r.data.toList with ⟨e1, _⟩ | ⟨p, q, e1, e2, e3⟩
      · have : cnt r = 0 := List.count_eq_zero.2 e1
        omega
      · have hx : idxB r = (p.length : Int) := e3
        have hr : r.size = p.length + 1 + q.length := by rw [size_len, e1]; simp; omega
        have hq : cnt r = cnt (ba q) + 1 := by
          have : p.count 47 = 0 := List.count_eq_zero.2 e2
          unfold cnt
          rw [e1, ba_toList, List.count_append, List.count_cons_self, this, Nat.zero_add]
        have x1 : r.extract 0 p.length = ba p := bytes_ext (by rw [extract_list, e1]; simp)
        have x2 : r.extract (p.length + 1) r.size = ba q := bytes_ext (by
          rw [extract_list, e1, hr]
          have : p.length + 1 + q.length - (p.length + 1) = q.length := by omega
          rw [this]
          simp)
        have n1 : ((p.length : Int) + ((1 : Nat) : Int)).toNat = p.length + 1 := by omega
        have n2 : ((p.length : Int) + 1).toNat = p.length + 1 := by omega
        simp only [hx, Option.getD_some, Option.getD_none, Int.add_zero, Int.toNat_natCast, n1, n2, x1, x2]
        refine ⟨rfl, fun h => ?_, fun _ => ⟨inK64 (by omega), ⟨by omega, by omega, by omega⟩, ⟨by omega, by omega⟩, by omega, inK64 (by omega), ⟨by omega, by omega, by omega⟩, inK64 (by omega), (ba q, i + 1, a.set i (ba p)), ?_, ⟨?_, by simpa using h2, ?_, ?_⟩, ?_⟩⟩
        · have := of_decide_eq_true h
          omega
        · exact sle_of ⟨rfl, VLe.refl _, rfl, VLe.refl _, rfl, VLe.refl _, rfl, VLe.refl _, rfl, VLe.refl _, rfl, vle_int (by simp), trivial⟩ ⟨rfl, ble_of_eq (by rw [gL_set (by omega)]), trivial⟩
        · show (ba q).size ≤ s.size
          rw [ba_size]; omega
        · simp only; omega
        · show (a.set i (ba p)).take (i + 1) ++ cutB (ba q) = cutB s
          rw [set_take _ _ _ (by omega), List.append_assoc, List.singleton_append, ← cutB_pre e1 e2, h4]
        · simp only; omega
    · have hge : i = cnt s := by
        have := of_decide_eq_false h
        omega
      have hz : cnt r = 0 := by omega
      have e1 : cutB r = [r] := cutB_last (List.count_eq_zero.1 hz)
      have e2 : a.set i r = cutB s := by
        rw [← h4, e1, ← set_take r a i (by omega), List.take_of_length_le (by rw [List.length_set]; omega)]
      refine ⟨⟨by omega, by omega⟩, by simp; omega, inK64 (by omega), ⟨by omega, by omega⟩, ?_⟩
      rw [Int.toNat_natCast, gL_set (by omega), e2]
      exact vle_encL_eq (by rw [← e2, List.length_set]; omega) (fun k hk => by simp [gL, hk]) (Or.inl rfl)
  exact Eq.mp (by kernel_rfl) key
theorem so128 : Sound Tryd.prog 128 sp128 := by
  refine sound_of_body hmix (pol := 1) Tryd.func128 rfl (by kernel_rfl) fun args bin ob r bout hDe hob => ?_
  unfold sp128 at hDe
  split at hDe
  · rename_i a0 a1 a2 a3
    cases hDe
    exact ⟨rfl, rfl, Nat.le_of_ble_eq_true (by kernel_rfl), cx128 a0 a1 a2 a3, Eq.mp (by kernel_rfl) htt, Eq.mp (by kernel_rfl) da128, Eq.mp (by kernel_rfl) (noM_sound (P := Tryd.prog)), by kernel_rfl, [.str (a0), .str (a1), .int .i64 (a2), .int .i64 (a3)], args_of_vles (⟨VLe.refl _, VLe.refl _, VLe.refl _, VLe.refl _, trivial⟩), Eq.mp (by kernel_rfl) (bd128 a0 a1 a2 a3 (hob))⟩
  · cases hDe

/-! ### strings.Split -/
def pr104 (s : ByteArray) (sep : ByteArray) : Prop := sep = top ∧ s.size ≤ 1000
noncomputable def rs104 (s : ByteArray) (sep : ByteArray) : V := encL encS 2 (cutB s)
noncomputable def sp104 : FSpec := fun args bin => match args, bin with
  | [.str a0, .str a1], [] => some (pr104 a0 a1, rs104 a0 a1, [])
  | _, _ => none
noncomputable def D104 : Nat → Option (Bool × FSpec) := lk [(128, (false, sp128))]
theorem da104 : SoundAll Tryd.prog D104 := soundAll_cons so128 (soundAll_nil)
noncomputable def cx104 (s : ByteArray) (sep : ByteArray) : Cx := ⟨tt, D104, Tryd.f104.ntmps, [0, 1, 4], [], [], fun _ => none, [], noM, []⟩
theorem bd104 (s : ByteArray) (sep : ByteArray) (hpre : pr104 s sep) : bodyP (cx104 s sep) Tryd.f104 1 [.str (s), .str (sep)] (fun rr => VLe rr (rs104 s sep)) := by
  have key :
      ((pr128 s sep (0 : Int) (-1 : Int)) ∧
   (VLe (encL encS 2 (cutB s)) (encL encS 2 (cutB s)))) := by
    exact ⟨⟨hpre.1, rfl, rfl, hpre.2⟩, VLe.refl _⟩
  exact Eq.mp (by kernel_rfl) key
theorem so104 : Sound Tryd.prog 104 sp104 := by
  refine sound_of_body hmix (pol := 1) Tryd.func104 rfl (by kernel_rfl) fun args bin ob r bout hDe hob => ?_
  unfold sp104 at hDe
  split at hDe
  · rename_i a0 a1
    cases hDe
    exact ⟨rfl, rfl, Nat.le_of_ble_eq_true (by kernel_rfl), cx104 a0 a1, Eq.mp (by kernel_rfl) htt, Eq.mp (by kernel_rfl) da104, Eq.mp (by kernel_rfl) (noM_sound (P := Tryd.prog)), by kernel_rfl, [.str (a0), .str (a1)], args_of_vles (⟨VLe.refl _, VLe.refl _, trivial⟩), Eq.mp (by kernel_rfl) (bd104 a0 a1 (hob))⟩
  · cases hDe

/-! ### impl.within -/
def pr56 (n : Int) (low : Int) (high : Int) : Prop := True
noncomputable def rs56 (n : Int) (low : Int) (high : Int) : V := .bool (decide (inR n low high))
noncomputable def sp56 : FSpec := fun args bin => match args, bin with
  | [.int .i64 a0, .int .i64 a1, .int .i64 a2], [] => some (pr56 a0 a1 a2, rs56 a0 a1 a2, [])
  | _, _ => none
noncomputable def D56 : Nat → Option (Bool × FSpec) := lk []
theorem da56 : SoundAll Tryd.prog D56 := soundAll_nil
noncomputable def cx56 (n : Int) (low : Int) (high : Int) : Cx := ⟨tt, D56, Tryd.f56.ntmps, [0, 1, 2, 6], [], [], fun _ => none, [], noM, []⟩
theorem bd56 (n : Int) (low : Int) (high : Int) (hpre : pr56 n low high) : bodyP (cx56 n low high) Tryd.f56 0 [.int .i64 (n), .int .i64 (low), .int .i64 (high)] (fun rr => VLe rr (rs56 n low high)) := by
  have key :
      ((tq (decide (low ≤ n))) ∧
   ((tq (decide (low ≤ n))) ∧
   (((true = true) →
   ((decide (low ≤ n) = true) →
   (decide (low ≤ n) = true))) ∧
   (∀ b : Bool,
   ((b = bif decide (low ≤ n) then decide (n ≤ high) else false) →
   (VLe (V.bool b) (V.bool (decide (inR n low high))))))))) := by
    repeat (first | (refine And.intro (fun h _ => h) ?_) | (refine And.intro (fun _ h => h) ?_) | (refine And.intro ?aa ?_; case aa => (simp []; done)) | (refine And.intro ?aa ?_; case aa => (simp_all []; done)) | (refine And.intro ?aa ?_; case aa => (intros; exact inK64 (by omega))) | (refine And.intro ?aa ?_; case aa => (intros; simp only [decide_eq_true_eq] at *; omega)) | (intro q hq))
    subst_vars
    refine vle_bool ?_
    rw [Bool.eq_iff_iff]
    simp
    try simp only [inR]
    try omega
  exact Eq.mp (by kernel_rfl) key
theorem so56 : Sound Tryd.prog 56 sp56 := by
  refine sound_of_body hmix (pol := 0) Tryd.func56 rfl (by kernel_rfl) fun args bin ob r bout hDe hob => ?_
  unfold sp56 at hDe
  split at hDe
  · rename_i a0 a1 a2
    cases hDe
    exact ⟨rfl, rfl, Nat.le_of_ble_eq_true (by kernel_rfl), cx56 a0 a1 a2, Eq.mp (by kernel_rfl) htt, Eq.mp (by kernel_rfl) da56, Eq.mp (by kernel_rfl) (noM_sound (P := Tryd.prog)), by kernel_rfl, [.int .i64 (a0), .int .i64 (a1), .int .i64 (a2)], args_of_vles (⟨VLe.refl _, VLe.refl _, VLe.refl _, trivial⟩), Eq.mp (by kernel_rfl) (bd56 a0 a1 a2 (hob))⟩
  · cases hDe

/-! ### spec.l1In -/
def pr54 (n : Int) (low : Int) (high : Int) : Prop := True
noncomputable def rs54 (n : Int) (low : Int) (high : Int) : V := .bool (decide (inR n low high))
noncomputable def sp54 : FSpec := fun args bin => match args, bin with
  | [.int .i64 a0, .int .i64 a1, .int .i64 a2], [] => some (pr54 a0 a1 a2, rs54 a0 a1 a2, [])
  | _, _ => none
noncomputable def D54 : Nat → Option (Bool × FSpec) := lk []
theorem da54 : SoundAll Tryd.prog D54 := soundAll_nil
noncomputable def cx54 (n : Int) (low : Int) (high : Int) : Cx := ⟨tt, D54, Tryd.f54.ntmps, [0, 1, 2, 6], [], [], fun _ => none, [], noM, []⟩
theorem bd54 (n : Int) (low : Int) (high : Int) (hpre : pr54 n low high) : bodyP (cx54 n low high) Tryd.f54 0 [.int .i64 (n), .int .i64 (low), .int .i64 (high)] (fun rr => VLe rr (rs54 n low high)) := by
  have key :
      ((tq (decide (n ≥ low))) ∧
   ((tq (decide (n ≥ low))) ∧
   (((true = true) →
   ((decide (n ≥ low) = true) →
   (decide (n ≥ low) = true))) ∧
   (∀ b : Bool,
   ((b = bif decide (n ≥ low) then decide (n ≤ high) else false) →
   (VLe (V.bool b) (V.bool (decide (inR n low high))))))))) := by
    repeat (first | (refine And.intro (fun h _ => h) ?_) | (refine And.intro (fun _ h => h) ?_) | (refine And.intro ?aa ?_; case aa => (simp []; done)) | (refine And.intro ?aa ?_; case aa => (simp_all []; done)) | (refine And.intro ?aa ?_; case aa => (intros; exact inK64 (by omega))) | (refine And.intro ?aa ?_; case aa => (intros; simp only [decide_eq_true_eq] at *; omega)) | (intro q hq))
    subst_vars
    refine vle_bool ?_
    rw [Bool.eq_iff_iff]
    simp
    try simp only [inR]
    try omega
  exact Eq.mp (by kernel_rfl) key
theorem so54 : Sound Tryd.prog 54 sp54 := by
  refine sound_of_body hmix (pol := 0) Tryd.func54 rfl (by kernel_rfl) fun args bin ob r bout hDe hob => ?_
  unfold sp54 at hDe
  split at hDe
  · rename_i a0 a1 a2
    cases hDe
    exact ⟨rfl, rfl, Nat.le_of_ble_eq_true (by kernel_rfl), cx54 a0 a1 a2, Eq.mp (by kernel_rfl) htt, Eq.mp (by kernel_rfl) da54, Eq.mp (by kernel_rfl) (noM_sound (P := Tryd.prog)), by kernel_rfl, [.int .i64 (a0), .int .i64 (a1), .int .i64 (a2)], args_of_vles (⟨VLe.refl _, VLe.refl _, VLe.refl _, trivial⟩), Eq.mp (by kernel_rfl) (bd54 a0 a1 a2 (hob))⟩
  · cases hDe

/-! ### impl.isName -/
def pr105 (s : ByteArray) : Prop := s.size ≤ 1000
noncomputable def rs105 (s : ByteArray) : V := .bool (decide (isNm s))
noncomputable def sp105 : FSpec := fun args bin => match args, bin with
  | [.str a0], [] => some (pr105 a0, rs105 a0, [])
  | _, _ => none
noncomputable def in105_2 (s : ByteArray) : LoopInv :=
  ⟨Nat, fun i => ⟨[(0, .str s), (5, .int .i64 s.size), (6, .int .i64 i)], []⟩, fun i => i ≤ s.size ∧ ∀ j : Nat, j < i → nmCh (byteAt s j), fun i => s.size - i⟩
noncomputable def iv105 (s : ByteArray) : Nat → Option LoopInv := fun rg_ => match rg_ with
  | 2 => some (in105_2 s)
  | _ => none
noncomputable def D105 : Nat → Option (Bool × FSpec) := lk [(56, (false, sp56))]
theorem da105 : SoundAll Tryd.prog D105 := soundAll_cons so56 (soundAll_nil)
noncomputable def cx105 (s : ByteArray) : Cx := ⟨tt, D105, Tryd.f105.ntmps, [0, 2, 3, 5, 6, 7, 30], [(2, ⟨[(0, none), (5, none), (6, none)], []⟩)], [], iv105 s, [], noM, []⟩
theorem bd105 (s : ByteArray) (hpre : pr105 s) : bodyP (cx105 s) Tryd.f105 0 [.str (s)] (fun rr => VLe rr (rs105 s)) := by
  have key :
      ((∃ x : Nat, ((SLe
   (AS.mk
   [(0, V.str s), (5, V.int IntKind.i64 (↑(ByteArray.size s) : Int)),
   (6, V.int IntKind.i64 (0 : Int))]
   [])
   (AS.mk
   [(0, V.str s), (5, V.int IntKind.i64 (↑(ByteArray.size s) : Int)),
   (6, V.int IntKind.i64 (↑x : Int))]
   [])) ∧
   ((x ≤ ByteArray.size s) ∧
   (∀ j : Nat,
   ((j < x) →
   (nmCh (byteAt s (↑j : Int)))))))) ∧
   (∀ x : Nat,
   (((x ≤ ByteArray.size s) ∧
   (∀ j : Nat,
   ((j < x) →
   (nmCh (byteAt s (↑j : Int)))))) →
   (((decide ((↑x : Int) < (↑(ByteArray.size s) : Int)) = true) →
   ((((0 : Int) ≤ (↑x : Int)) ∧
   ((↑x : Int) < (↑(ByteArray.size s) : Int))) ∧
   ((tq (!decide (byteAt s (↑x : Int) < (97 : Int)))) ∧
   ((tq (!decide (byteAt s (↑x : Int) < (97 : Int)))) ∧
   ((((!decide (byteAt s (↑x : Int) < (97 : Int))) = true) →
   (((0 : Int) ≤ (↑x : Int)) ∧
   ((↑x : Int) < (↑(ByteArray.size s) : Int)))) ∧
   ((tq (!decide (byteAt s (↑x : Int) < (97 : Int)))) ∧
   (((true = true) →
   ((decide (byteAt s (↑x : Int) < (97 : Int)) = false) →
   ((!decide (byteAt s (↑x : Int) < (97 : Int))) = true))) ∧
   (∀ b : Bool,
   ((b = bif decide (byteAt s (↑x : Int) < (97 : Int)) then true else decide (byteAt s (↑x : Int) > (122 : Int))) →
   ((tq (b)) ∧
   ((tq (b)) ∧
   (((b = true) →
   (((0 : Int) ≤ (↑x : Int)) ∧
   ((↑x : Int) < (↑(ByteArray.size s) : Int)))) ∧
   ((tq (b)) ∧
   ((tq (b)) ∧
   ((tq (b && !decide (byteAt s (↑x : Int) < (48 : Int)))) ∧
   ((tq (b && !decide (byteAt s (↑x : Int) < (48 : Int)))) ∧
   ((((b && !decide (byteAt s (↑x : Int) < (48 : Int))) = true) →
   (((0 : Int) ≤ (↑x : Int)) ∧
   ((↑x : Int) < (↑(ByteArray.size s) : Int)))) ∧
   ((tq (b && !decide (byteAt s (↑x : Int) < (48 : Int)))) ∧
   ((tq (b)) ∧
   (((b = true) →
   ((b = true) →
   ((decide (byteAt s (↑x : Int) < (48 : Int)) = false) →
   ((b && !decide (byteAt s (↑x : Int) < (48 : Int))) = true)))) ∧
   (∀ b_1 : Bool,
   ((b_1 = bif decide (byteAt s (↑x : Int) < (48 : Int)) then true else decide (byteAt s (↑x : Int) > (57 : Int))) →
   (((true = true) →
   ((b = true) →
   (b = true))) ∧
   (∀ b_2 : Bool,
   ((b_2 = bif b then b_1 else false) →
   (((b_2 = true) →
   (VLe (V.bool false) (V.bool (decide (isNm s))))) ∧
   ((b_2 = false) →
   ((inK IntKind.i64 ((↑x : Int) + (1 : Int))) ∧
   (∃ y : Nat, ((SLe
   (AS.mk
   [(0, V.str s), (5, V.int IntKind.i64 (↑(ByteArray.size s) : Int)),
   (6, V.int IntKind.i64 ((↑x : Int) + (1 : Int)))]
   [])
   (AS.mk
   [(0, V.str s), (5, V.int IntKind.i64 (↑(ByteArray.size s) : Int)),
   (6, V.int IntKind.i64 (↑y : Int))]
   [])) ∧
   (((y ≤ ByteArray.size s) ∧
   (∀ j : Nat,
   ((j < y) →
   (nmCh (byteAt s (↑j : Int)))))) ∧
   (ByteArray.size s - y < ByteArray.size s - x)))))))))))))))))))))))))))))))) ∧
   ((decide ((↑x : Int) < (↑(ByteArray.size s) : Int)) = false) →
   ((pr56 (↑(ByteArray.size s) : Int) (1 : Int) (8 : Int)) ∧
   (VLe (V.bool (decide (inR (↑(ByteArray.size s) : Int) (1 : Int) (8 : Int)))) (V.bool (decide (isNm s)))))))))) := by
    unfold pr105 at hpre
    refine ⟨⟨0, SLe.refl _, by omega, fun j hj => by omega⟩, ?_⟩
    rintro i ⟨hi, hj⟩
    refine ⟨fun h => ?_, fun h => ?_⟩
    · have hlt : i < s.size := by simpa using h
      refine ⟨by omega, ?_⟩
      repeat (first | (refine And.intro (fun h _ => h) ?_) | (refine And.intro (fun _ h => h) ?_) | (refine And.intro ?aa ?_; case aa => (exact (fun _ => ⟨by omega, by omega⟩))) | (refine And.intro ?aa ?_; case aa => (intros; simp_all [pr56]; done)) | (refine And.intro ?aa ?_; case aa => (intros; exact inK64 (by omega))) | (refine And.intro ?aa ?_; case aa => (intros; simp only [decide_eq_true_eq] at *; omega)) | (intro q hq))
      have e0 : q = decide (¬ nmCh (byteAt s i)) := by
        subst_vars
        rw [Bool.eq_iff_iff, decide_eq_true_eq]
        unfold nmCh
        by_cases a1 : byteAt s i < 97 <;> by_cases a2 : byteAt s i > 122 <;> by_cases a3 : byteAt s i < 48 <;> by_cases a4 : byteAt s i > 57 <;> simp [a1, a2, a3, a4] <;> omega
      clear hq
      refine ⟨fun h2 => vle_bool ?_, fun h2 => ⟨inK64 (by omega), i + 1, SLe.refl _, ⟨by omega, fun j h3 => ?_⟩, by omega⟩⟩
      · rw [e0] at h2
        symm
        exact decide_eq_false fun g => of_decide_eq_true h2 (g.1 i hlt)
      · rw [e0] at h2
        rcases Nat.lt_or_ge j i with h4 | h4
        · exact hj j h4
        · have : j = i := by omega
          subst this
          exact Classical.not_not.1 (of_decide_eq_false h2)
    · have hge : i = s.size := by simp at h; omega
      subst hge
      refine ⟨trivial, vle_bool ?_⟩
      rw [Bool.eq_iff_iff, decide_eq_true_eq, decide_eq_true_eq]
      unfold inR
      exact ⟨fun g => ⟨hj, by omega, by omega⟩, fun g => by have := g.2; omega⟩
  exact Eq.mp (by kernel_rfl) key
theorem so105 : Sound Tryd.prog 105 sp105 := by
  refine sound_of_body hmix (pol := 0) Tryd.func105 rfl (by kernel_rfl) fun args bin ob r bout hDe hob => ?_
  unfold sp105 at hDe
  split at hDe
  · rename_i a0
    cases hDe
    exact ⟨rfl, rfl, Nat.le_of_ble_eq_true (by kernel_rfl), cx105 a0, Eq.mp (by kernel_rfl) htt, Eq.mp (by kernel_rfl) da105, Eq.mp (by kernel_rfl) (noM_sound (P := Tryd.prog)), by kernel_rfl, [.str (a0)], args_of_vles (⟨VLe.refl _, trivial⟩), Eq.mp (by kernel_rfl) (bd105 a0 (hob))⟩
  · cases hDe

/-! ### spec.l1Name -/
def pr122 (s : ByteArray) : Prop := s.size ≤ 1000
noncomputable def rs122 (s : ByteArray) : V := .bool (decide (isNm s))
noncomputable def sp122 : FSpec := fun args bin => match args, bin with
  | [.str a0], [] => some (pr122 a0, rs122 a0, [])
  | _, _ => none
noncomputable def in122_2 (s : ByteArray) : LoopInv :=
  ⟨Nat, fun i => ⟨[(0, .str s), (3, .int .i64 i)], []⟩, fun i => i ≤ s.size ∧ ∀ j : Nat, j < i → nmCh (byteAt s j), fun i => s.size - i⟩
noncomputable def iv122 (s : ByteArray) : Nat → Option LoopInv := fun rg_ => match rg_ with
  | 2 => some (in122_2 s)
  | _ => none
noncomputable def D122 : Nat → Option (Bool × FSpec) := lk [(54, (false, sp54))]
theorem da122 : SoundAll Tryd.prog D122 := soundAll_cons so54 (soundAll_nil)
noncomputable def cx122 (s : ByteArray) : Cx := ⟨tt, D122, Tryd.f122.ntmps, [0, 2, 3, 7, 31], [(2, ⟨[(0, none), (3, none)], []⟩)], [], iv122 s, [], noM, []⟩
theorem bd122 (s : ByteArray) (hpre : pr122 s) : bodyP (cx122 s) Tryd.f122 0 [.str (s)] (fun rr => VLe rr (rs122 s)) := by
  have key :
      ((∃ x : Nat, ((SLe (AS.mk [(0, V.str s), (3, V.int IntKind.i64 (0 : Int))] [])
   (AS.mk [(0, V.str s), (3, V.int IntKind.i64 (↑x : Int))] [])) ∧
   ((x ≤ ByteArray.size s) ∧
   (∀ j : Nat,
   ((j < x) →
   (nmCh (byteAt s (↑j : Int)))))))) ∧
   (∀ x : Nat,
   (((x ≤ ByteArray.size s) ∧
   (∀ j : Nat,
   ((j < x) →
   (nmCh (byteAt s (↑j : Int)))))) →
   (((decide ((↑x : Int) < (↑(ByteArray.size s) : Int)) = true) →
   ((((0 : Int) ≤ (↑x : Int)) ∧
   ((↑x : Int) < (↑(ByteArray.size s) : Int))) ∧
   ((tq (!decide (byteAt s (↑x : Int) < (97 : Int)))) ∧
   ((tq (!decide (byteAt s (↑x : Int) < (97 : Int)))) ∧
   ((((!decide (byteAt s (↑x : Int) < (97 : Int))) = true) →
   (((0 : Int) ≤ (↑x : Int)) ∧
   ((↑x : Int) < (↑(ByteArray.size s) : Int)))) ∧
   ((tq (!decide (byteAt s (↑x : Int) < (97 : Int)))) ∧
   (((true = true) →
   ((decide (byteAt s (↑x : Int) < (97 : Int)) = false) →
   ((!decide (byteAt s (↑x : Int) < (97 : Int))) = true))) ∧
   (∀ b : Bool,
   ((b = bif decide (byteAt s (↑x : Int) < (97 : Int)) then true else decide (byteAt s (↑x : Int) > (122 : Int))) →
   ((tq (b)) ∧
   ((tq (b)) ∧
   (((b = true) →
   (((0 : Int) ≤ (↑x : Int)) ∧
   ((↑x : Int) < (↑(ByteArray.size s) : Int)))) ∧
   ((tq (b)) ∧
   ((tq (b)) ∧
   ((tq (b && !decide (byteAt s (↑x : Int) < (48 : Int)))) ∧
   ((tq (b && !decide (byteAt s (↑x : Int) < (48 : Int)))) ∧
   ((((b && !decide (byteAt s (↑x : Int) < (48 : Int))) = true) →
   (((0 : Int) ≤ (↑x : Int)) ∧
   ((↑x : Int) < (↑(ByteArray.size s) : Int)))) ∧
   ((tq (b && !decide (byteAt s (↑x : Int) < (48 : Int)))) ∧
   ((tq (b)) ∧
   (((b = true) →
   ((b = true) →
   ((decide (byteAt s (↑x : Int) < (48 : Int)) = false) →
   ((b && !decide (byteAt s (↑x : Int) < (48 : Int))) = true)))) ∧
   (∀ b_1 : Bool,
   ((b_1 = bif decide (byteAt s (↑x : Int) < (48 : Int)) then true else decide (byteAt s (↑x : Int) > (57 : Int))) →
   (((true = true) →
   ((b = true) →
   (b = true))) ∧
   (∀ b_2 : Bool,
   ((b_2 = bif b then b_1 else false) →
   (((b_2 = true) →
   (VLe (V.bool false) (V.bool (decide (isNm s))))) ∧
   ((b_2 = false) →
   ((inK IntKind.i64 ((↑x : Int) + (1 : Int))) ∧
   (∃ y : Nat, ((SLe (AS.mk [(0, V.str s), (3, V.int IntKind.i64 ((↑x : Int) + (1 : Int)))] [])
   (AS.mk [(0, V.str s), (3, V.int IntKind.i64 (↑y : Int))] [])) ∧
   (((y ≤ ByteArray.size s) ∧
   (∀ j : Nat,
   ((j < y) →
   (nmCh (byteAt s (↑j : Int)))))) ∧
   (ByteArray.size s - y < ByteArray.size s - x)))))))))))))))))))))))))))))))) ∧
   ((decide ((↑x : Int) < (↑(ByteArray.size s) : Int)) = false) →
   ((pr54 (↑(ByteArray.size s) : Int) (1 : Int) (8 : Int)) ∧
   (VLe (V.bool (decide (inR (↑(ByteArray.size s) : Int) (1 : Int) (8 : Int)))) (V.bool (decide (isNm s)))))))))) := by
    unfold pr122 at hpre
    refine ⟨⟨0, SLe.refl _, by omega, fun j hj => by omega⟩, ?_⟩
    rintro i ⟨hi, hj⟩
    refine ⟨fun h => ?_, fun h => ?_⟩
    · have hlt : i < s.size := by simpa using h
      refine ⟨by omega, ?_⟩
      repeat (first | (refine And.intro (fun h _ => h) ?_) | (refine And.intro (fun _ h => h) ?_) | (refine And.intro ?aa ?_; case aa => (exact (fun _ => ⟨by omega, by omega⟩))) | (refine And.intro ?aa ?_; case aa => (intros; simp_all [pr54]; done)) | (refine And.intro ?aa ?_; case aa => (intros; exact inK64 (by omega))) | (refine And.intro ?aa ?_; case aa => (intros; simp only [decide_eq_true_eq] at *; omega)) | (intro q hq))
      have e0 : q = decide (¬ nmCh (byteAt s i)) := by
        subst_vars
        rw [Bool.eq_iff_iff, decide_eq_true_eq]
        unfold nmCh
        by_cases a1 : byteAt s i < 97 <;> by_cases a2 : byteAt s i > 122 <;> by_cases a3 : byteAt s i < 48 <;> by_cases a4 : byteAt s i > 57 <;> simp [a1, a2, a3, a4] <;> omega
      clear hq
      refine ⟨fun h2 => vle_bool ?_, fun h2 => ⟨inK64 (by omega), i + 1, SLe.refl _, ⟨by omega, fun j h3 => ?_⟩, by omega⟩⟩
      · rw [e0] at h2
        symm
        exact decide_eq_false fun g => of_decide_eq_true h2 (g.1 i hlt)
      · rw [e0] at h2
        rcases Nat.lt_or_ge j i with h4 | h4
        · exact hj j h4
        · have : j = i := by omega
          subst this
          exact Classical.not_not.1 (of_decide_eq_false h2)
    · have hge : i = s.size := by simp at h; omega
      subst hge
      refine ⟨trivial, vle_bool ?_⟩
      rw [Bool.eq_iff_iff, decide_eq_true_eq, decide_eq_true_eq]
      unfold inR
      exact ⟨fun g => ⟨hj, by omega, by omega⟩, fun g => by have := g.2; omega⟩
  exact Eq.mp (by kernel_rfl) key
theorem so122 : Sound Tryd.prog 122 sp122 := by
  refine sound_of_body hmix (pol := 0) Tryd.func122 rfl (by kernel_rfl) fun args bin ob r bout hDe hob => ?_
  unfold sp122 at hDe
  split at hDe
  · rename_i a0
    cases hDe
    exact ⟨rfl, rfl, Nat.le_of_ble_eq_true (by kernel_rfl), cx122 a0, Eq.mp (by kernel_rfl) htt, Eq.mp (by kernel_rfl) da122, Eq.mp (by kernel_rfl) (noM_sound (P := Tryd.prog)), by kernel_rfl, [.str (a0)], args_of_vles (⟨VLe.refl _, trivial⟩), Eq.mp (by kernel_rfl) (bd122 a0 (hob))⟩
  · cases hDe

/-! ### spec.l1Cut -/
def pr95 (s : ByteArray) (c : Int) : Prop := c = 47 ∧ s.size ≤ 1000
noncomputable def rs95 (s : ByteArray) (c : Int) : V := encL encS 2 (cutB s)
noncomputable def sp95 : FSpec := fun args bin => match args, bin with
  | [.str a0, .int .u8 a1], [] => some (pr95 a0 a1, rs95 a0 a1, [])
  | _, _ => none
noncomputable def in95_4 (s : ByteArray) (c : Int) : LoopInv :=
  ⟨Nat × Nat × List ByteArray, fun p => ⟨[(0, .str s), (1, .int .u8 47), (5, .osl (canonT 5) p.2.2.length), (6, .int .i64 p.1), (7, .int .i64 p.2.1)], [(canonT 5, .arr 1 p.2.2.length (gL encS p.2.2) tagS)]⟩,
    fun p => cutI s p.1 p.2.1 p.2.2, fun p => s.size + 1 - p.2.1⟩
noncomputable def iv95 (s : ByteArray) (c : Int) : Nat → Option LoopInv := fun rg_ => match rg_ with
  | 4 => some (in95_4 s c)
  | _ => none
noncomputable def D95 : Nat → Option (Bool × FSpec) := lk []
theorem da95 : SoundAll Tryd.prog D95 := soundAll_nil
noncomputable def cx95 (s : ByteArray) (c : Int) : Cx := ⟨tt, D95, Tryd.f95.ntmps, [0, 1, 4, 5, 6, 7, 12, 25], [(4, ⟨[(0, none), (1, none), (5, some 1), (6, none), (7, none)], []⟩)], [], iv95 s c, [], noM, []⟩
theorem bd95 (s : ByteArray) (c : Int) (hpre : pr95 s c) : bodyP (cx95 s c) Tryd.f95 1 [.str (s), .int .u8 (c)] (fun rr => VLe rr (rs95 s c)) := by
  have key :
      ((∃ x : Nat × Nat × List ByteArray, ((SLe
   (AS.mk
   [(0, V.str s), (1, V.int IntKind.u8 c), (5, V.osl 32000384 0),
   (6, V.int IntKind.i64 (0 : Int)), (7, V.int IntKind.i64 (0 : Int))]
   [(32000384, Blk.arr 1 0 (rowg []) 100)])
   (AS.mk
   [(0, V.str s), (1, V.int IntKind.u8 (47 : Int)),
   (5, V.osl 32000384 (List.length (Prod.snd (Prod.snd x)))),
   (6, V.int IntKind.i64 (↑(Prod.fst x) : Int)),
   (7, V.int IntKind.i64 (↑(Prod.fst (Prod.snd x)) : Int))]
   [(32000384,
   Blk.arr 1 (List.length (Prod.snd (Prod.snd x))) (gL encS (Prod.snd (Prod.snd x))) 100)])) ∧
   (cutI s (Prod.fst x) (Prod.fst (Prod.snd x)) (Prod.snd (Prod.snd x))))) ∧
   (∀ x : Nat × Nat × List ByteArray,
   ((cutI s (Prod.fst x) (Prod.fst (Prod.snd x)) (Prod.snd (Prod.snd x))) →
   (((decide ((↑(Prod.fst (Prod.snd x)) : Int) ≤ (↑(ByteArray.size s) : Int)) = true) →
   ((tq (!(↑(Prod.fst (Prod.snd x)) : Int) == (↑(ByteArray.size s) : Int))) ∧
   ((tq (!(↑(Prod.fst (Prod.snd x)) : Int) == (↑(ByteArray.size s) : Int))) ∧
   ((((!(↑(Prod.fst (Prod.snd x)) : Int) == (↑(ByteArray.size s) : Int)) = true) →
   (((0 : Int) ≤ (↑(Prod.fst (Prod.snd x)) : Int)) ∧
   ((↑(Prod.fst (Prod.snd x)) : Int) < (↑(ByteArray.size s) : Int)))) ∧
   ((tq (!(↑(Prod.fst (Prod.snd x)) : Int) == (↑(ByteArray.size s) : Int))) ∧
   ((tq (!(↑(Prod.fst (Prod.snd x)) : Int) == (↑(ByteArray.size s) : Int))) ∧
   (((true = true) →
   ((((↑(Prod.fst (Prod.snd x)) : Int) == (↑(ByteArray.size s) : Int)) = false) →
   ((!(↑(Prod.fst (Prod.snd x)) : Int) == (↑(ByteArray.size s) : Int)) = true))) ∧
   (∀ b : Bool,
   ((b =
   bif (↑(Prod.fst (Prod.snd x)) : Int) == (↑(ByteArray.size s) : Int) then true
   else byteAt s (↑(Prod.fst (Prod.snd x)) : Int) == (47 : Int)) →
   (((b = true) →
   ((((0 : Int) ≤ Option.getD (some (↑(Prod.fst x) : Int)) (0 : Int)) ∧
   ((Option.getD (some (↑(Prod.fst x) : Int)) (0 : Int) ≤
   Option.getD (some (↑(Prod.fst (Prod.snd x)) : Int)) (↑(ByteArray.size s) : Int)) ∧
   (Option.getD (some (↑(Prod.fst (Prod.snd x)) : Int)) (↑(ByteArray.size s) : Int) ≤ (↑(ByteArray.size s) : Int)))) ∧
   ((List.length (Prod.snd (Prod.snd x)) = List.length (Prod.snd (Prod.snd x))) ∧
   ((List.length (Prod.snd (Prod.snd x)) + 1 ≤ 1073741824) ∧
   ((sizedL 1 1
   (rowg
   [V.str
   (ByteArray.extract s (Int.toNat (Option.getD (some (↑(Prod.fst x) : Int)) (0 : Int)))
   (Int.toNat (Option.getD (some (↑(Prod.fst (Prod.snd x)) : Int)) (↑(ByteArray.size s) : Int))))])) ∧
   ((inK IntKind.i64 ((↑(Prod.fst (Prod.snd x)) : Int) + (1 : Int))) ∧
   ((inK IntKind.i64 ((↑(Prod.fst (Prod.snd x)) : Int) + (1 : Int))) ∧
   (∃ y : Nat × Nat × List ByteArray, ((SLe
   (AS.mk
   [(0, V.str s), (1, V.int IntKind.u8 (47 : Int)),
   (5, V.osl 32000384 (List.length (Prod.snd (Prod.snd x)) + 1)),
   (6, V.int IntKind.i64 ((↑(Prod.fst (Prod.snd x)) : Int) + (1 : Int))),
   (7, V.int IntKind.i64 ((↑(Prod.fst (Prod.snd x)) : Int) + (1 : Int)))]
   [(32000384,
   Blk.arr 1 (List.length (Prod.snd (Prod.snd x)) + 1)
   (appg (List.length (Prod.snd (Prod.snd x))) (gL encS (Prod.snd (Prod.snd x)))
   (rowg
   [V.str
   (ByteArray.extract s (Int.toNat (Option.getD (some (↑(Prod.fst x) : Int)) (0 : Int)))
   (Int.toNat (Option.getD (some (↑(Prod.fst (Prod.snd x)) : Int)) (↑(ByteArray.size s) : Int))))]))
   100)])
   (AS.mk
   [(0, V.str s), (1, V.int IntKind.u8 (47 : Int)),
   (5, V.osl 32000384 (List.length (Prod.snd (Prod.snd y)))),
   (6, V.int IntKind.i64 (↑(Prod.fst y) : Int)),
   (7, V.int IntKind.i64 (↑(Prod.fst (Prod.snd y)) : Int))]
   [(32000384,
   Blk.arr 1 (List.length (Prod.snd (Prod.snd y))) (gL encS (Prod.snd (Prod.snd y))) 100)])) ∧
   ((cutI s (Prod.fst y) (Prod.fst (Prod.snd y)) (Prod.snd (Prod.snd y))) ∧
   (ByteArray.size s + 1 - Prod.fst (Prod.snd y) < ByteArray.size s + 1 - Prod.fst (Prod.snd x)))))))))))) ∧
   ((b = false) →
   ((inK IntKind.i64 ((↑(Prod.fst (Prod.snd x)) : Int) + (1 : Int))) ∧
   (∃ y : Nat × Nat × List ByteArray, ((SLe
   (AS.mk
   [(0, V.str s), (1, V.int IntKind.u8 (47 : Int)),
   (5, V.osl 32000384 (List.length (Prod.snd (Prod.snd x)))),
   (6, V.int IntKind.i64 (↑(Prod.fst x) : Int)),
   (7, V.int IntKind.i64 ((↑(Prod.fst (Prod.snd x)) : Int) + (1 : Int)))]
   [(32000384,
   Blk.arr 1 (List.length (Prod.snd (Prod.snd x))) (gL encS (Prod.snd (Prod.snd x))) 100)])
   (AS.mk
   [(0, V.str s), (1, V.int IntKind.u8 (47 : Int)),
   (5, V.osl 32000384 (List.length (Prod.snd (Prod.snd y)))),
   (6, V.int IntKind.i64 (↑(Prod.fst y) : Int)),
   (7, V.int IntKind.i64 (↑(Prod.fst (Prod.snd y)) : Int))]
   [(32000384,
   Blk.arr 1 (List.length (Prod.snd (Prod.snd y))) (gL encS (Prod.snd (Prod.snd y))) 100)])) ∧
   ((cutI s (Prod.fst y) (Prod.fst (Prod.snd y)) (Prod.snd (Prod.snd y))) ∧
   (ByteArray.size s + 1 - Prod.fst (Prod.snd y) < ByteArray.size s + 1 - Prod.fst (Prod.snd x))))))))))))))))) ∧
   ((decide ((↑(Prod.fst (Prod.snd x)) : Int) ≤ (↑(ByteArray.size s) : Int)) = false) →
   (VLe (encL encS 2 (Prod.snd (Prod.snd x))) (encL encS 2 (cutB s)))))))) := by
    obtain ⟨rfl, hs⟩ := hpre
    refine ⟨⟨(0, 0, []), sle_of ⟨rfl, VLe.refl _, rfl, VLe.refl _, rfl, VLe.refl _, rfl, VLe.refl _, rfl, VLe.refl _, trivial⟩ ⟨rfl, ble_nil _, trivial⟩, cutI_start s⟩, ?_⟩
    rintro ⟨f, i, out⟩ hI
    simp only at hI ⊢
    refine ⟨fun h => ?_, fun h => ?_⟩
    · have hle : i ≤ s.size := by simpa using h
      have hf := (hI.2.2.1 hle).1
      have hol := hI.2.1
      repeat (first | (refine And.intro (fun h _ => h) ?_) | (refine And.intro (fun _ h => h) ?_) | (refine And.intro ?aa ?_; case aa => (exact (fun h => by simp at h; omega))) | (refine And.intro ?aa ?_; case aa => (intros; simp_all []; done)) | (refine And.intro ?aa ?_; case aa => (intros; exact inK64 (by omega))) | (refine And.intro ?aa ?_; case aa => (intros; simp only [decide_eq_true_eq] at *; omega)) | (intro q hq))
      have e0 : q = decide (i = s.size ∨ byteAt s i = 47) := by
        subst_vars
        rw [Bool.eq_iff_iff, decide_eq_true_eq]
        by_cases a1 : i = s.size
        · simp [a1]
        · have : ((i : Int) == (s.size : Int)) = false := by rw [beq_eq_false_iff_ne]; omega
          simp [a1, this]
      clear hq
      simp only [Option.getD_some, Int.toNat_natCast]
      refine ⟨fun h2 => ?_, fun h2 => ?_⟩
      · rw [e0] at h2
        refine ⟨⟨by omega, by omega, by omega⟩, trivial, by omega, fun k hk => ?_, inK64 (by omega), inK64 (by omega), (i + 1, i + 1, out ++ [s.extract f i]), ?_, cutI_cut hI hle (of_decide_eq_true h2), by simp only; omega⟩
        · have hk0 : k = 0 := by omega
          subst hk0
          exact ⟨rfl, rfl⟩
        · simp only [List.length_append, List.length_singleton]
          exact sle_of ⟨rfl, VLe.refl _, rfl, VLe.refl _, rfl, VLe.refl _, rfl, VLe.refl _, rfl, VLe.refl _, trivial⟩ ⟨rfl, ble_push rfl rfl, trivial⟩
      · rw [e0] at h2
        have h3 := of_decide_eq_false h2
        refine ⟨inK64 (by omega), (f, i + 1, out), SLe.refl _, cutI_go hI (by omega) fun e => h3 (Or.inr e), by simp only; omega⟩
    · have : i = s.size + 1 := by
        have := hI.1
        simp at h; omega
      rw [hI.2.2.2 this]
      exact VLe.refl _
  exact Eq.mp (by kernel_rfl) key
theorem so95 : Sound Tryd.prog 95 sp95 := by
  refine sound_of_body hmix (pol := 1) Tryd.func95 rfl (by kernel_rfl) fun args bin ob r bout hDe hob => ?_
  unfold sp95 at hDe
  split at hDe
  · rename_i a0 a1
    cases hDe
    exact ⟨rfl, rfl, Nat.le_of_ble_eq_true (by kernel_rfl), cx95 a0 a1, Eq.mp (by kernel_rfl) htt, Eq.mp (by kernel_rfl) da95, Eq.mp (by kernel_rfl) (noM_sound (P := Tryd.prog)), by kernel_rfl, [.str (a0), .int .u8 (a1)], args_of_vles (⟨VLe.refl _, VLe.refl _, trivial⟩), Eq.mp (by kernel_rfl) (bd95 a0 a1 (hob))⟩
  · cases hDe

end Go.Av
