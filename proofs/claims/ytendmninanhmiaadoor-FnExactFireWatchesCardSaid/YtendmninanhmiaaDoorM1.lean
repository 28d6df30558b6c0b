/- Marks with texts: functions that write numbers and their texts into watches and events. -/
import Derived.Test.YtendmninanhmiaaDoorW1
namespace Go.Av
open Go.Proofs
set_option maxRecDepth 100000
set_option maxHeartbeats 2000000
set_option linter.unusedVariables false
set_option linter.unusedSimpArgs false

theorem inU8' {n : Int} (h : 0 ≤ n ∧ n ≤ 255) : inK .u8 n := Go.IntWalk.u8_in _ h
/-- The text of a number, digit by digit. -/
def digM (n : Int) : ByteArray := bytesV 1 (rowg [.int .u8 (48 + n)])
theorem digM_size (n : Int) : (digM n).size = 1 := rfl
def mtA (k : Nat) (out : ByteArray) : ByteArray := if h : 0 < k then mtA (k / 10) (digM ((k : Int).tmod 10) ++ out) else out
termination_by k
decreasing_by omega
noncomputable def mtF (k : Int) : ByteArray := (⟨#[109]⟩ : ByteArray) ++ mtA k.toNat ⟨#[]⟩
noncomputable def markW (k : Int) (n : Nat) : List Watch := (List.range n).map fun i : Nat => ⟨k + 2 * i, mtF (k + 2 * i + 1)⟩
@[simp] theorem markW_len (k : Int) (n : Nat) : (markW k n).length = n := by simp [markW]
theorem markW_get (k : Int) (n i : Nat) (h : i < n) : (markW k n).getD i default = ⟨k + 2 * i, mtF (k + 2 * i + 1)⟩ := by simp [markW, h]
noncomputable def markE (k : Int) (n : Nat) : List TEvent := (List.range n).map fun i : Nat => ⟨k + 3 * i, mtF (k + 3 * i + 1), k + 3 * i + 2⟩
@[simp] theorem markE_len (k : Int) (n : Nat) : (markE k n).length = n := by simp [markE]
theorem markE_get (k : Int) (n i : Nat) (h : i < n) : (markE k n).getD i default = ⟨k + 3 * i, mtF (k + 3 * i + 1), k + 3 * i + 2⟩ := by simp [markE, h]
theorem SLe.refl' {s s' : AS} (h : s = s') : SLe s s' := h ▸ SLe.refl s
theorem eq_of_getD {α : Type} [Inhabited α] {xs ys : List α} (hl : xs.length = ys.length) (h : ∀ j, j < xs.length → xs.getD j default = ys.getD j default) : xs = ys := by
  refine List.ext_getElem hl fun k h1 h2 => ?_
  have := h k h1
  simpa [h1, h2] using this

theorem tdiv10 (n : Nat) : ((n : Int)).tdiv 10 = ((n / 10 : Nat) : Int) := rfl
theorem tmod10 (n : Nat) : ((n : Int)).tmod 10 = ((n % 10 : Nat) : Int) := rfl
theorem mtA_step {k : Nat} {out : ByteArray} (h : 0 < k) : mtA k out = mtA (k / 10) (digM ((k : Int).tmod 10) ++ out) := by
  rw [mtA, dif_pos h]
theorem mtA_zero {out : ByteArray} : mtA 0 out = out := by rw [mtA]; simp
/-- One element written anew, cell by cell. -/
theorem ble_setc {α : Type} [Inhabited α] {enc : α → V} {sz n i te : Nat} {xs : List α} {g : Nat → V} {x : α} (hi : i < xs.length) (h : ELe (g i) (enc x)) (ho : ∀ j, j ≠ i → g j = gL enc xs j) :
    BLe (.arr sz n g te) (.arr sz n (gL enc (xs.set i x)) te) := by
  refine ble_arr (fun k hk => ?_) (Or.inl rfl)
  by_cases e : k = i
  · subst e
    simp only [gL]
    rw [getD_set_eq _ _ _ _ hi]
    exact h
  · rw [ho k e]
    simp only [gL]
    rw [getD_set_ne _ _ _ _ e]
    exact ELe.refl _
theorem getD_set_if {α : Type} [Inhabited α] {xs : List α} {i j : Nat} {x : α} {f : Nat → α} (hi : i < xs.length) (hj : ∀ j, j < i → xs.getD j default = f j) (hx : x = f i) (h : j < i + 1) : (xs.set i x).getD j default = f j := by
  by_cases e : j = i
  · subst e; rw [getD_set_eq _ _ _ _ hi, hx]
  · rw [getD_set_ne _ _ _ _ e]; exact hj j (by omega)


/-! ### laws.markText -/
def pr62 (k : Int) : Prop := 0 < k ∧ k < 4611686018427387904
noncomputable def rs62 (k : Int) : V := .str (mtF k)
noncomputable def sp62 : FSpec := fun args bin => match args, bin with
  | [.int .i64 a0], [] => some (pr62 a0, rs62 a0, [])
  | _, _ => none
noncomputable def in62_4 (k : Int) : LoopInv :=
  ⟨Nat × ByteArray, fun p => ⟨[(0, .int .i64 p.1), (3, .str p.2)], []⟩, fun p => mtA k.toNat ⟨#[]⟩ = mtA p.1 p.2 ∧ p.2.size + p.1 ≤ k.toNat, fun p => p.1⟩
noncomputable def iv62 (k : Int) : Nat → Option LoopInv := fun rg_ => match rg_ with
  | 4 => some (in62_4 k)
  | _ => none
noncomputable def D62 : Nat → Option (Bool × FSpec) := lk []
theorem da62 : SoundAll Tryd.prog D62 := soundAll_nil
noncomputable def cx62 (k : Int) : Cx := ⟨tt, D62, Tryd.f62.ntmps, [0, 2, 3, 5, 7], [(4, ⟨[(0, none), (3, none)], []⟩)], [], iv62 k, [], noM, []⟩
theorem bd62 (k : Int) (hpre : pr62 k) : bodyP (cx62 k) Tryd.f62 0 [.int .i64 (k)] (fun rr => VLe rr (rs62 k)) := by
  have key :
      (((decide (k ≤ (0 : Int)) = true) →
   (VLe (V.str (ByteArray.mk #[(109 : UInt8), (48 : UInt8)])) (V.str (mtF k)))) ∧
   ((decide (k ≤ (0 : Int)) = false) →
   ((∃ x : Nat × ByteArray, ((SLe (AS.mk [(0, V.int IntKind.i64 k), (3, V.str (ByteArray.mk #[]))] [])
   (AS.mk [(0, V.int IntKind.i64 (↑(Prod.fst x) : Int)), (3, V.str (Prod.snd x))] [])) ∧
   ((mtA (Int.toNat k) (ByteArray.mk #[]) = mtA (Prod.fst x) (Prod.snd x)) ∧
   (ByteArray.size (Prod.snd x) + Prod.fst x ≤ Int.toNat k)))) ∧
   (∀ x : Nat × ByteArray,
   (((mtA (Int.toNat k) (ByteArray.mk #[]) = mtA (Prod.fst x) (Prod.snd x)) ∧
   (ByteArray.size (Prod.snd x) + Prod.fst x ≤ Int.toNat k)) →
   (((decide ((↑(Prod.fst x) : Int) > (0 : Int)) = true) →
   (((10 : Int) ≠ (0 : Int)) ∧
   ((inK IntKind.i64 ((48 : Int) + Int.tmod (↑(Prod.fst x) : Int) (10 : Int))) ∧
   ((inK IntKind.u8 ((48 : Int) + Int.tmod (↑(Prod.fst x) : Int) (10 : Int))) ∧
   ((∀ i : Nat,
   ((i < 1) →
   (isU8V (V.int IntKind.u8 (List.getD [(48 : Int) + Int.tmod (↑(Prod.fst x) : Int) (10 : Int)] i (0 : Int))) = true))) ∧
   ((1 + ByteArray.size (Prod.snd x) ≤ 4611686018427387904) ∧
   (((10 : Int) ≠ (0 : Int)) ∧
   ((inK IntKind.i64 (Int.tdiv (↑(Prod.fst x) : Int) (10 : Int))) ∧
   (∃ y : Nat × ByteArray, ((SLe
   (AS.mk
   [(0, V.int IntKind.i64 (Int.tdiv (↑(Prod.fst x) : Int) (10 : Int))),
   (3,
   V.str
   (bytesV 1 (rowg [V.int IntKind.u8 ((48 : Int) + Int.tmod (↑(Prod.fst x) : Int) (10 : Int))]) ++
   Prod.snd x))]
   [])
   (AS.mk [(0, V.int IntKind.i64 (↑(Prod.fst y) : Int)), (3, V.str (Prod.snd y))] [])) ∧
   (((mtA (Int.toNat k) (ByteArray.mk #[]) = mtA (Prod.fst y) (Prod.snd y)) ∧
   (ByteArray.size (Prod.snd y) + Prod.fst y ≤ Int.toNat k)) ∧
   (Prod.fst y < Prod.fst x)))))))))))) ∧
   ((decide ((↑(Prod.fst x) : Int) > (0 : Int)) = false) →
   ((ByteArray.size (ByteArray.mk #[(109 : UInt8)]) + ByteArray.size (Prod.snd x) ≤ 2 ^ 62) ∧
   (VLe (V.str (ByteArray.mk #[(109 : UInt8)] ++ Prod.snd x)) (V.str (mtF k))))))))))) := by
    obtain ⟨h0, h1⟩ := hpre
    refine ⟨fun h => by have := of_decide_eq_true h; omega, fun _ => ⟨⟨(k.toNat, ⟨#[]⟩), SLe.refl' (by simp; omega), rfl, ?_⟩, ?_⟩⟩
    · show 0 + k.toNat ≤ k.toNat
      omega
    rintro ⟨n, out⟩ ⟨h2, h3⟩
    simp only at h2 h3 ⊢
    refine ⟨fun h => ?_, fun h => ?_⟩
    · have hn : 0 < n := by have := of_decide_eq_true h; omega
      have e2 := tmod10 n
      have e1 := tdiv10 n
      refine ⟨by omega, inK64 (by omega), inU8' (by omega), fun i hi => by
        have : i = 0 := by omega
        subst this
        rfl, by omega, by omega, inK64 (by omega), (n / 10, digM ((n : Int).tmod 10) ++ out), SLe.refl' (by rw [e1]; rfl), ⟨by rw [h2, mtA_step hn], ?_⟩, by simp only; omega⟩
      simp only [ByteArray.size_append, digM_size]
      omega
    · have hn : n = 0 := by have := of_decide_eq_false h; omega
      subst hn
      refine ⟨?_, vle_str ?_⟩
      · show 1 + out.size ≤ 2 ^ 62
        omega
      · unfold mtF
        rw [h2, mtA_zero]
  exact Eq.mp (by kernel_rfl) key
theorem so62 : Sound Tryd.prog 62 sp62 := by
  refine sound_of_body hmix (pol := 0) Tryd.func62 rfl (by kernel_rfl) fun args bin ob r bout hDe hob => ?_
  unfold sp62 at hDe
  split at hDe
  · rename_i a0
    cases hDe
    exact ⟨rfl, rfl, Nat.le_of_ble_eq_true (by kernel_rfl), cx62 a0, Eq.mp (by kernel_rfl) htt, Eq.mp (by kernel_rfl) da62, Eq.mp (by kernel_rfl) (noM_sound (P := Tryd.prog)), by kernel_rfl, [.int .i64 (a0)], args_of_vles (⟨VLe.refl _, trivial⟩), Eq.mp (by kernel_rfl) (bd62 a0 (hob))⟩
  · cases hDe

/-! ### laws.markWatchS -/
noncomputable def in26m_2 (l : List Watch) (k : Int) : LoopInv :=
  ⟨Nat, fun i => ⟨[(0, encL (encWatch 1) 1 l), (1, .int .i64 (k + 2 * i)), (5, .int .i64 i)], []⟩, fun i => i ≤ l.length, fun i => l.length - i⟩
noncomputable def iv26m (l : List Watch) (k : Int) : Nat → Option LoopInv := fun k0 => match k0 with
  | 2 => some (in26m_2 l k)
  | _ => none
def mp26 (l : List Watch) (k : Int) : Prop := 1 ≤ k ∧ k + 2 * l.length ≤ 4611686018427387904
noncomputable def mm26 : MSpec := fun n g k => some (VLe (.sl n g 1) (encL (encWatch 1) 1 (decL decWatch (.sl n g 1))) ∧ mp26 (decL decWatch (.sl n g 1)) k, (fun (l : List Watch) => k + 2 * (l.length : Int)) (decL decWatch (.sl n g 1)))
noncomputable def M26 : Nat → Option MSpec := lk []
theorem ma26 : SoundAllM Tryd.prog M26 := soundAllM_nil
noncomputable def D26m : Nat → Option (Bool × FSpec) := lk [(62, (false, sp62))]
theorem da26m : SoundAll Tryd.prog D26m := soundAll_cons so62 (soundAll_nil)
noncomputable def cx26m (l : List Watch) (k : Int) : Cx := ⟨tt, D26m, Tryd.f26.ntmps, [0, 1, 4, 5, 9], [(2, ⟨[(0, none), (1, none), (5, none)], []⟩)], [], iv26m l k, [], M26, []⟩
theorem bd26m (l : List Watch) (k : Int) (hpre : mp26 l k) : bodyM (cx26m l k) Tryd.f26 [encL (encWatch 1) 1 l, .int .i64 k] (fun r => r = k + 2 * (l.length : Int)) := by
  have key :
      ((∃ x : Nat, ((SLe
   (AS.mk
   [(0, encL (encWatch 1) 1 l), (1, V.int IntKind.i64 k),
   (5, V.int IntKind.i64 (0 : Int))]
   [])
   (AS.mk
   [(0, encL (encWatch 1) 1 l), (1, V.int IntKind.i64 (k + (2 : Int) * (↑x : Int))),
   (5, V.int IntKind.i64 (↑x : Int))]
   [])) ∧
   (x ≤ List.length l))) ∧
   (∀ x : Nat,
   ((x ≤ List.length l) →
   (((decide ((↑x : Int) < (↑(List.length l) : Int)) = true) →
   ((((0 : Int) ≤ (↑x : Int)) ∧
   ((↑x : Int) < (↑(List.length l) : Int))) ∧
   ((inK IntKind.i64 (k + (2 : Int) * (↑x : Int) + (1 : Int))) ∧
   ((pr62 (k + (2 : Int) * (↑x : Int) + (1 : Int))) ∧
   ((((0 : Int) ≤ (↑x : Int)) ∧
   ((↑x : Int) < (↑(List.length l) : Int))) ∧
   ((inK IntKind.i64 (k + (2 : Int) * (↑x : Int) + (1 : Int) + (1 : Int))) ∧
   ((inK IntKind.i64 ((↑x : Int) + (1 : Int))) ∧
   (∃ y : Nat, ((SLe
   (AS.mk
   [(0, encL (encWatch 1) 1 l),
   (1, V.int IntKind.i64 (k + (2 : Int) * (↑x : Int) + (1 : Int) + (1 : Int))),
   (5, V.int IntKind.i64 ((↑x : Int) + (1 : Int)))]
   [])
   (AS.mk
   [(0, encL (encWatch 1) 1 l), (1, V.int IntKind.i64 (k + (2 : Int) * (↑y : Int))),
   (5, V.int IntKind.i64 (↑y : Int))]
   [])) ∧
   ((y ≤ List.length l) ∧
   (List.length l - y < List.length l - x))))))))))) ∧
   ((decide ((↑x : Int) < (↑(List.length l) : Int)) = false) →
   (k + (2 : Int) * (↑x : Int) = k + (2 : Int) * (↑(List.length l) : Int))))))) := by
    unfold mp26 at hpre
    refine ⟨⟨0, sle_of ⟨rfl, VLe.refl _, rfl, vle_int (by omega), rfl, VLe.refl _, trivial⟩ trivial, by omega⟩, fun i hi => ⟨fun h => ?_, fun h => ?_⟩⟩
    · have hlt : i < l.length := by simpa using h
      exact ⟨by omega, inK64 (by omega), ⟨by omega, by omega⟩, by omega, inK64 (by omega), inK64 (by omega), i + 1, sle_of ⟨rfl, VLe.refl _, rfl, vle_int (by omega), rfl, vle_int (by omega), trivial⟩ trivial, by omega, by omega⟩
    · have : i = l.length := by simp at h; omega
      omega
  exact Eq.mp (by kernel_rfl) key
theorem sm26 : SoundMk Tryd.prog 26 mm26 := by
  refine soundMk_of_body Tryd.func26 rfl (by kernel_rfl) (Nat.le_of_ble_eq_true (by kernel_rfl)) fun n g k ob r he ho => ?_
  cases he
  exact ⟨cx26m (decL decWatch (.sl n g 1)) k, Eq.mp (by kernel_rfl) htt, Eq.mp (by kernel_rfl) da26m, Eq.mp (by kernel_rfl) ma26, by kernel_rfl, _, ho.1, Eq.mp (by kernel_rfl) (bd26m _ k ho.2)⟩

/-! ### laws.markWatchS -/
noncomputable def in26_2 (y0 : List Watch) (k : Int) : LoopInv :=
  ⟨Nat × List Watch, fun p => ⟨[(0, .osl 0 y0.length), (1, .int .i64 (k + 2 * p.1)), (5, .int .i64 p.1)], [(0, .arr 2 y0.length (gL (encWatch 1) p.2) tagS)]⟩, fun p => p.1 ≤ y0.length ∧ p.2.length = y0.length ∧ ∀ j, j < p.1 → p.2.getD j default = ⟨k + 2 * j, mtF (k + 2 * j + 1)⟩, fun p => y0.length - p.1⟩
noncomputable def iv26 (y0 : List Watch) (k : Int) : Nat → Option LoopInv := fun k0 => match k0 with
  | 2 => some (in26_2 y0 k)
  | _ => none
noncomputable def D26 : Nat → Option (Bool × FSpec) := lk [(62, (false, sp62))]
theorem da26 : SoundAll Tryd.prog D26 := soundAll_cons so62 (soundAll_nil)
noncomputable def cx26 (y0 : List Watch) (k : Int) : Cx := ⟨tt, D26, Tryd.f26.ntmps, [0, 1, 4, 5, 9], [(2, ⟨[(0, none), (1, none), (5, none)], [(0, [])]⟩)], [], iv26 y0 k, [], noM, []⟩
def pr26 (n0 : Nat) (k : Int) : Prop := 1 ≤ k ∧ k + 2 * n0 ≤ 4611686018427387904
theorem bd26 (y0 : List Watch) (k : Int) (hpre : pr26 y0.length k) : bodyO (cx26 y0 k) Tryd.f26 [] [.osl 0 y0.length, .int .i64 k] [.arr 2 y0.length (gL (encWatch 1) y0) tagS] (fun rr bs => VLe rr (.int .i64 (k + 2 * (y0.length : Int))) ∧ BinLe bs [.arr 2 y0.length (gL (encWatch 1) (markW k y0.length)) tagS]) := by
  have key :
      ((∃ x : Nat × List Watch, ((SLe
   (AS.mk
   [(0, V.osl 0 (List.length y0)), (1, V.int IntKind.i64 k),
   (5, V.int IntKind.i64 (0 : Int))]
   [(0, Blk.arr 2 (List.length y0) (gL (encWatch 1) y0) 100)])
   (AS.mk
   [(0, V.osl 0 (List.length y0)),
   (1, V.int IntKind.i64 (k + (2 : Int) * (↑(Prod.fst x) : Int))),
   (5, V.int IntKind.i64 (↑(Prod.fst x) : Int))]
   [(0, Blk.arr 2 (List.length y0) (gL (encWatch 1) (Prod.snd x)) 100)])) ∧
   ((Prod.fst x ≤ List.length y0) ∧
   ((List.length (Prod.snd x) = List.length y0) ∧
   (∀ j : Nat,
   ((j < Prod.fst x) →
   (List.getD (Prod.snd x) j default = Watch.mk (k + (2 : Int) * (↑j : Int)) (mtF (k + (2 : Int) * (↑j : Int) + (1 : Int)))))))))) ∧
   (∀ x : Nat × List Watch,
   (((Prod.fst x ≤ List.length y0) ∧
   ((List.length (Prod.snd x) = List.length y0) ∧
   (∀ j : Nat,
   ((j < Prod.fst x) →
   (List.getD (Prod.snd x) j default = Watch.mk (k + (2 : Int) * (↑j : Int)) (mtF (k + (2 : Int) * (↑j : Int) + (1 : Int)))))))) →
   (((decide ((↑(Prod.fst x) : Int) < (↑(List.length y0) : Int)) = true) →
   ((((0 : Int) ≤ (↑(Prod.fst x) : Int)) ∧
   ((↑(Prod.fst x) : Int) < (↑(List.length y0) : Int))) ∧
   ((Int.toNat (↑(Prod.fst x) : Int) < List.length y0) ∧
   ((inK IntKind.i64 (k + (2 : Int) * (↑(Prod.fst x) : Int) + (1 : Int))) ∧
   ((pr62 (k + (2 : Int) * (↑(Prod.fst x) : Int) + (1 : Int))) ∧
   ((((0 : Int) ≤ (↑(Prod.fst x) : Int)) ∧
   ((↑(Prod.fst x) : Int) < (↑(List.length y0) : Int))) ∧
   ((Int.toNat (↑(Prod.fst x) : Int) < List.length y0) ∧
   ((inK IntKind.i64 (k + (2 : Int) * (↑(Prod.fst x) : Int) + (1 : Int) + (1 : Int))) ∧
   ((inK IntKind.i64 ((↑(Prod.fst x) : Int) + (1 : Int))) ∧
   (∃ y : Nat × List Watch, ((SLe
   (AS.mk
   [(0, V.osl 0 (List.length y0)),
   (1, V.int IntKind.i64 (k + (2 : Int) * (↑(Prod.fst x) : Int) + (1 : Int) + (1 : Int))),
   (5, V.int IntKind.i64 ((↑(Prod.fst x) : Int) + (1 : Int)))]
   [(0,
   Blk.arr 2 (List.length y0)
   (setg
   (setg (gL (encWatch 1) (Prod.snd x)) (Int.toNat (↑(Prod.fst x) : Int))
   (V.agg
   [V.int IntKind.i64 (k + (2 : Int) * (↑(Prod.fst x) : Int)),
   V.str (Watch.path (List.getD (Prod.snd x) (Int.toNat (↑(Prod.fst x) : Int)) default))]))
   (Int.toNat (↑(Prod.fst x) : Int))
   (V.agg
   [List.getD
   (V.cells
   (setg (gL (encWatch 1) (Prod.snd x)) (Int.toNat (↑(Prod.fst x) : Int))
   (V.agg
   [V.int IntKind.i64 (k + (2 : Int) * (↑(Prod.fst x) : Int)),
   V.str (Watch.path (List.getD (Prod.snd x) (Int.toNat (↑(Prod.fst x) : Int)) default))])
   (Int.toNat (↑(Prod.fst x) : Int))))
   0 V.undef,
   V.str (mtF (k + (2 : Int) * (↑(Prod.fst x) : Int) + (1 : Int)))]))
   100)])
   (AS.mk
   [(0, V.osl 0 (List.length y0)),
   (1, V.int IntKind.i64 (k + (2 : Int) * (↑(Prod.fst y) : Int))),
   (5, V.int IntKind.i64 (↑(Prod.fst y) : Int))]
   [(0, Blk.arr 2 (List.length y0) (gL (encWatch 1) (Prod.snd y)) 100)])) ∧
   (((Prod.fst y ≤ List.length y0) ∧
   ((List.length (Prod.snd y) = List.length y0) ∧
   (∀ j : Nat,
   ((j < Prod.fst y) →
   (List.getD (Prod.snd y) j default = Watch.mk (k + (2 : Int) * (↑j : Int)) (mtF (k + (2 : Int) * (↑j : Int) + (1 : Int)))))))) ∧
   (List.length y0 - Prod.fst y < List.length y0 - Prod.fst x))))))))))))) ∧
   ((decide ((↑(Prod.fst x) : Int) < (↑(List.length y0) : Int)) = false) →
   ((VLe (V.int IntKind.i64 (k + (2 : Int) * (↑(Prod.fst x) : Int)))
   (V.int IntKind.i64 (k + (2 : Int) * (↑(List.length y0) : Int)))) ∧
   ((BLe (Blk.arr 2 (List.length y0) (gL (encWatch 1) (Prod.snd x)) 100)
   (Blk.arr 2 (List.length y0) (gL (encWatch 1) (markW k (List.length y0))) 100)) ∧
   (True)))))))) := by
    unfold pr26 at hpre
    refine ⟨⟨(0, y0), SLe.refl' (by simp), by omega, rfl, fun j hj => absurd hj (Nat.not_lt_zero j)⟩, ?_⟩
    rintro ⟨i, ys⟩ ⟨hi, hl, hj⟩
    simp only at hi hl hj ⊢
    refine ⟨fun h => ?_, fun h => ?_⟩
    · have hlt : i < y0.length := by simpa using h
      simp only [Int.toNat_natCast]
      refine ⟨by omega, by omega, inK64 (by omega), ⟨by omega, by omega⟩, by omega, by omega, inK64 (by omega), inK64 (by omega), (i + 1, ys.set i ⟨k + 2 * i, mtF (k + 2 * i + 1)⟩), ?_, ⟨by simp only; omega, by simpa using hl, fun j h3 => getD_set_if (f := fun j => (⟨k + 2 * j, mtF (k + 2 * j + 1)⟩ : Watch)) (by omega) hj rfl h3⟩, by simp only; omega⟩
      refine sle_of ⟨rfl, VLe.refl _, rfl, vle_int (by simp only; omega), rfl, vle_int (by simp), trivial⟩ ⟨rfl, ?_, trivial⟩
      exact ble_setc (by omega) (ELe.of_eq (by simp [setg, V.cells, encWatch])) fun j e => by simp [setg, e]
    · have hge : i = y0.length := by simp at h; omega
      subst hge
      refine ⟨vle_int rfl, ble_arr (fun j hj' => ELe.of_eq ?_) (Or.inl rfl), trivial⟩
      simp only [gL]
      rw [hj j hj', markW_get _ _ _ hj']
  exact Eq.mp (by kernel_rfl) key
noncomputable def sp26 : FSpec := fun args bin => match args, bin with
  | [.osl i0 m0, .int .i64 k], [.arr s0 p0 g0 t0] => some ((i0 = 0 ∧ s0 = 2 ∧ t0 = tagS ∧ p0 = m0 ∧ ∃ y : List Watch, y.length = m0 ∧ ∀ i, i < m0 → ELe (g0 i) (gL (encWatch 1) y i)) ∧ pr26 m0 k, .int .i64 (k + 2 * (m0 : Int)), [.arr 2 m0 (gL (encWatch 1) (markW k m0)) tagS])
  | _, _ => none
theorem so26 : Sound Tryd.prog 26 sp26 := by
  refine sound_of_bodyO hmix (tpl := []) Tryd.func26 rfl (by kernel_rfl) fun args bin ob r bout hDe hob => ?_
  unfold sp26 at hDe
  split at hDe
  · rename_i i0 m0 k s0 p0 g0 t0
    cases hDe
    obtain ⟨⟨rfl, rfl, rfl, rfl, y0, rfl, h0⟩, hpre⟩ := hob
    exact ⟨Nat.le_of_ble_eq_true (by kernel_rfl), cx26 y0 k, Eq.mp (by kernel_rfl) htt, Eq.mp (by kernel_rfl) da26, Eq.mp (by kernel_rfl) (noM_sound (P := Tryd.prog)), by kernel_rfl, _, [.arr 2 y0.length (gL (encWatch 1) y0) tagS], ArgsLe.refl _, ⟨ble_arr h0 (Or.inl rfl), trivial⟩, Eq.mp (by kernel_rfl) (bd26 y0 k hpre)⟩
  · cases hDe

/-! ### laws.markEventS -/
noncomputable def in63_2 (y0 : List TEvent) (k : Int) : LoopInv :=
  ⟨Nat × List TEvent, fun p => ⟨[(0, .osl 0 y0.length), (1, .int .i64 (k + 3 * p.1)), (5, .int .i64 p.1)], [(0, .arr 3 y0.length (gL (encTEvent 1) p.2) tagS)]⟩, fun p => p.1 ≤ y0.length ∧ p.2.length = y0.length ∧ ∀ j, j < p.1 → p.2.getD j default = ⟨k + 3 * j, mtF (k + 3 * j + 1), k + 3 * j + 2⟩, fun p => y0.length - p.1⟩
noncomputable def iv63 (y0 : List TEvent) (k : Int) : Nat → Option LoopInv := fun k0 => match k0 with
  | 2 => some (in63_2 y0 k)
  | _ => none
noncomputable def D63 : Nat → Option (Bool × FSpec) := lk [(62, (false, sp62))]
theorem da63 : SoundAll Tryd.prog D63 := soundAll_cons so62 (soundAll_nil)
noncomputable def cx63 (y0 : List TEvent) (k : Int) : Cx := ⟨tt, D63, Tryd.f63.ntmps, [0, 1, 4, 5, 9], [(2, ⟨[(0, none), (1, none), (5, none)], [(0, [])]⟩)], [], iv63 y0 k, [], noM, []⟩
def pr63 (n0 : Nat) (k : Int) : Prop := 1 ≤ k ∧ k + 3 * n0 ≤ 4611686018427387904
theorem bd63 (y0 : List TEvent) (k : Int) (hpre : pr63 y0.length k) : bodyO (cx63 y0 k) Tryd.f63 [] [.osl 0 y0.length, .int .i64 k] [.arr 3 y0.length (gL (encTEvent 1) y0) tagS] (fun rr bs => VLe rr (.int .i64 (k + 3 * (y0.length : Int))) ∧ BinLe bs [.arr 3 y0.length (gL (encTEvent 1) (markE k y0.length)) tagS]) := by
  have key :
      ((∃ x : Nat × List TEvent, ((SLe
   (AS.mk
   [(0, V.osl 0 (List.length y0)), (1, V.int IntKind.i64 k),
   (5, V.int IntKind.i64 (0 : Int))]
   [(0, Blk.arr 3 (List.length y0) (gL (encTEvent 1) y0) 100)])
   (AS.mk
   [(0, V.osl 0 (List.length y0)),
   (1, V.int IntKind.i64 (k + (3 : Int) * (↑(Prod.fst x) : Int))),
   (5, V.int IntKind.i64 (↑(Prod.fst x) : Int))]
   [(0, Blk.arr 3 (List.length y0) (gL (encTEvent 1) (Prod.snd x)) 100)])) ∧
   ((Prod.fst x ≤ List.length y0) ∧
   ((List.length (Prod.snd x) = List.length y0) ∧
   (∀ j : Nat,
   ((j < Prod.fst x) →
   (List.getD (Prod.snd x) j default =
   TEvent.mk (k + (3 : Int) * (↑j : Int)) (mtF (k + (3 : Int) * (↑j : Int) + (1 : Int)))
   (k + (3 : Int) * (↑j : Int) + (2 : Int))))))))) ∧
   (∀ x : Nat × List TEvent,
   (((Prod.fst x ≤ List.length y0) ∧
   ((List.length (Prod.snd x) = List.length y0) ∧
   (∀ j : Nat,
   ((j < Prod.fst x) →
   (List.getD (Prod.snd x) j default =
   TEvent.mk (k + (3 : Int) * (↑j : Int)) (mtF (k + (3 : Int) * (↑j : Int) + (1 : Int)))
   (k + (3 : Int) * (↑j : Int) + (2 : Int))))))) →
   (((decide ((↑(Prod.fst x) : Int) < (↑(List.length y0) : Int)) = true) →
   ((((0 : Int) ≤ (↑(Prod.fst x) : Int)) ∧
   ((↑(Prod.fst x) : Int) < (↑(List.length y0) : Int))) ∧
   ((Int.toNat (↑(Prod.fst x) : Int) < List.length y0) ∧
   ((inK IntKind.i64 (k + (3 : Int) * (↑(Prod.fst x) : Int) + (1 : Int))) ∧
   ((pr62 (k + (3 : Int) * (↑(Prod.fst x) : Int) + (1 : Int))) ∧
   ((((0 : Int) ≤ (↑(Prod.fst x) : Int)) ∧
   ((↑(Prod.fst x) : Int) < (↑(List.length y0) : Int))) ∧
   ((Int.toNat (↑(Prod.fst x) : Int) < List.length y0) ∧
   ((inK IntKind.i64 (k + (3 : Int) * (↑(Prod.fst x) : Int) + (1 : Int) + (1 : Int))) ∧
   ((((0 : Int) ≤ (↑(Prod.fst x) : Int)) ∧
   ((↑(Prod.fst x) : Int) < (↑(List.length y0) : Int))) ∧
   ((Int.toNat (↑(Prod.fst x) : Int) < List.length y0) ∧
   ((inK IntKind.i64 (k + (3 : Int) * (↑(Prod.fst x) : Int) + (1 : Int) + (1 : Int) + (1 : Int))) ∧
   ((inK IntKind.i64 ((↑(Prod.fst x) : Int) + (1 : Int))) ∧
   (∃ y : Nat × List TEvent, ((SLe
   (AS.mk
   [(0, V.osl 0 (List.length y0)),
   (1, V.int IntKind.i64 (k + (3 : Int) * (↑(Prod.fst x) : Int) + (1 : Int) + (1 : Int) + (1 : Int))),
   (5, V.int IntKind.i64 ((↑(Prod.fst x) : Int) + (1 : Int)))]
   [(0,
   Blk.arr 3 (List.length y0)
   (setg
   (setg
   (setg (gL (encTEvent 1) (Prod.snd x)) (Int.toNat (↑(Prod.fst x) : Int))
   (V.agg
   [V.int IntKind.i64 (k + (3 : Int) * (↑(Prod.fst x) : Int)),
   V.str (TEvent.path (List.getD (Prod.snd x) (Int.toNat (↑(Prod.fst x) : Int)) default)),
   V.int IntKind.i64
   (TEvent.kind (List.getD (Prod.snd x) (Int.toNat (↑(Prod.fst x) : Int)) default))]))
   (Int.toNat (↑(Prod.fst x) : Int))
   (V.agg
   [List.getD
   (V.cells
   (setg (gL (encTEvent 1) (Prod.snd x)) (Int.toNat (↑(Prod.fst x) : Int))
   (V.agg
   [V.int IntKind.i64 (k + (3 : Int) * (↑(Prod.fst x) : Int)),
   V.str (TEvent.path (List.getD (Prod.snd x) (Int.toNat (↑(Prod.fst x) : Int)) default)),
   V.int IntKind.i64
   (TEvent.kind (List.getD (Prod.snd x) (Int.toNat (↑(Prod.fst x) : Int)) default))])
   (Int.toNat (↑(Prod.fst x) : Int))))
   0 V.undef,
   V.str (mtF (k + (3 : Int) * (↑(Prod.fst x) : Int) + (1 : Int))),
   List.getD
   (V.cells
   (setg (gL (encTEvent 1) (Prod.snd x)) (Int.toNat (↑(Prod.fst x) : Int))
   (V.agg
   [V.int IntKind.i64 (k + (3 : Int) * (↑(Prod.fst x) : Int)),
   V.str (TEvent.path (List.getD (Prod.snd x) (Int.toNat (↑(Prod.fst x) : Int)) default)),
   V.int IntKind.i64
   (TEvent.kind (List.getD (Prod.snd x) (Int.toNat (↑(Prod.fst x) : Int)) default))])
   (Int.toNat (↑(Prod.fst x) : Int))))
   2 V.undef]))
   (Int.toNat (↑(Prod.fst x) : Int))
   (V.agg
   [List.getD
   (V.cells
   (setg
   (setg (gL (encTEvent 1) (Prod.snd x)) (Int.toNat (↑(Prod.fst x) : Int))
   (V.agg
   [V.int IntKind.i64 (k + (3 : Int) * (↑(Prod.fst x) : Int)),
   V.str (TEvent.path (List.getD (Prod.snd x) (Int.toNat (↑(Prod.fst x) : Int)) default)),
   V.int IntKind.i64
   (TEvent.kind (List.getD (Prod.snd x) (Int.toNat (↑(Prod.fst x) : Int)) default))]))
   (Int.toNat (↑(Prod.fst x) : Int))
   (V.agg
   [List.getD
   (V.cells
   (setg (gL (encTEvent 1) (Prod.snd x)) (Int.toNat (↑(Prod.fst x) : Int))
   (V.agg
   [V.int IntKind.i64 (k + (3 : Int) * (↑(Prod.fst x) : Int)),
   V.str
   (TEvent.path (List.getD (Prod.snd x) (Int.toNat (↑(Prod.fst x) : Int)) default)),
   V.int IntKind.i64
   (TEvent.kind (List.getD (Prod.snd x) (Int.toNat (↑(Prod.fst x) : Int)) default))])
   (Int.toNat (↑(Prod.fst x) : Int))))
   0 V.undef,
   V.str (mtF (k + (3 : Int) * (↑(Prod.fst x) : Int) + (1 : Int))),
   List.getD
   (V.cells
   (setg (gL (encTEvent 1) (Prod.snd x)) (Int.toNat (↑(Prod.fst x) : Int))
   (V.agg
   [V.int IntKind.i64 (k + (3 : Int) * (↑(Prod.fst x) : Int)),
   V.str
   (TEvent.path (List.getD (Prod.snd x) (Int.toNat (↑(Prod.fst x) : Int)) default)),
   V.int IntKind.i64
   (TEvent.kind (List.getD (Prod.snd x) (Int.toNat (↑(Prod.fst x) : Int)) default))])
   (Int.toNat (↑(Prod.fst x) : Int))))
   2 V.undef])
   (Int.toNat (↑(Prod.fst x) : Int))))
   0 V.undef,
   List.getD
   (V.cells
   (setg
   (setg (gL (encTEvent 1) (Prod.snd x)) (Int.toNat (↑(Prod.fst x) : Int))
   (V.agg
   [V.int IntKind.i64 (k + (3 : Int) * (↑(Prod.fst x) : Int)),
   V.str (TEvent.path (List.getD (Prod.snd x) (Int.toNat (↑(Prod.fst x) : Int)) default)),
   V.int IntKind.i64
   (TEvent.kind (List.getD (Prod.snd x) (Int.toNat (↑(Prod.fst x) : Int)) default))]))
   (Int.toNat (↑(Prod.fst x) : Int))
   (V.agg
   [List.getD
   (V.cells
   (setg (gL (encTEvent 1) (Prod.snd x)) (Int.toNat (↑(Prod.fst x) : Int))
   (V.agg
   [V.int IntKind.i64 (k + (3 : Int) * (↑(Prod.fst x) : Int)),
   V.str
   (TEvent.path (List.getD (Prod.snd x) (Int.toNat (↑(Prod.fst x) : Int)) default)),
   V.int IntKind.i64
   (TEvent.kind (List.getD (Prod.snd x) (Int.toNat (↑(Prod.fst x) : Int)) default))])
   (Int.toNat (↑(Prod.fst x) : Int))))
   0 V.undef,
   V.str (mtF (k + (3 : Int) * (↑(Prod.fst x) : Int) + (1 : Int))),
   List.getD
   (V.cells
   (setg (gL (encTEvent 1) (Prod.snd x)) (Int.toNat (↑(Prod.fst x) : Int))
   (V.agg
   [V.int IntKind.i64 (k + (3 : Int) * (↑(Prod.fst x) : Int)),
   V.str
   (TEvent.path (List.getD (Prod.snd x) (Int.toNat (↑(Prod.fst x) : Int)) default)),
   V.int IntKind.i64
   (TEvent.kind (List.getD (Prod.snd x) (Int.toNat (↑(Prod.fst x) : Int)) default))])
   (Int.toNat (↑(Prod.fst x) : Int))))
   2 V.undef])
   (Int.toNat (↑(Prod.fst x) : Int))))
   1 V.undef,
   V.int IntKind.i64 (k + (3 : Int) * (↑(Prod.fst x) : Int) + (1 : Int) + (1 : Int))]))
   100)])
   (AS.mk
   [(0, V.osl 0 (List.length y0)),
   (1, V.int IntKind.i64 (k + (3 : Int) * (↑(Prod.fst y) : Int))),
   (5, V.int IntKind.i64 (↑(Prod.fst y) : Int))]
   [(0, Blk.arr 3 (List.length y0) (gL (encTEvent 1) (Prod.snd y)) 100)])) ∧
   (((Prod.fst y ≤ List.length y0) ∧
   ((List.length (Prod.snd y) = List.length y0) ∧
   (∀ j : Nat,
   ((j < Prod.fst y) →
   (List.getD (Prod.snd y) j default =
   TEvent.mk (k + (3 : Int) * (↑j : Int)) (mtF (k + (3 : Int) * (↑j : Int) + (1 : Int)))
   (k + (3 : Int) * (↑j : Int) + (2 : Int))))))) ∧
   (List.length y0 - Prod.fst y < List.length y0 - Prod.fst x)))))))))))))))) ∧
   ((decide ((↑(Prod.fst x) : Int) < (↑(List.length y0) : Int)) = false) →
   ((VLe (V.int IntKind.i64 (k + (3 : Int) * (↑(Prod.fst x) : Int)))
   (V.int IntKind.i64 (k + (3 : Int) * (↑(List.length y0) : Int)))) ∧
   ((BLe (Blk.arr 3 (List.length y0) (gL (encTEvent 1) (Prod.snd x)) 100)
   (Blk.arr 3 (List.length y0) (gL (encTEvent 1) (markE k (List.length y0))) 100)) ∧
   (True)))))))) := by
    unfold pr63 at hpre
    refine ⟨⟨(0, y0), SLe.refl' (by simp), by omega, rfl, fun j hj => absurd hj (Nat.not_lt_zero j)⟩, ?_⟩
    rintro ⟨i, ys⟩ ⟨hi, hl, hj⟩
    simp only at hi hl hj ⊢
    refine ⟨fun h => ?_, fun h => ?_⟩
    · have hlt : i < y0.length := by simpa using h
      simp only [Int.toNat_natCast]
      refine ⟨by omega, by omega, inK64 (by omega), ⟨by omega, by omega⟩, by omega, by omega, inK64 (by omega), by omega, by omega, inK64 (by omega), inK64 (by omega), (i + 1, ys.set i ⟨k + 3 * i, mtF (k + 3 * i + 1), k + 3 * i + 2⟩), ?_, ⟨by simp only; omega, by simpa using hl, fun j h3 => getD_set_if (f := fun j => (⟨k + 3 * j, mtF (k + 3 * j + 1), k + 3 * j + 2⟩ : TEvent)) (by omega) hj rfl h3⟩, by simp only; omega⟩
      refine sle_of ⟨rfl, VLe.refl _, rfl, vle_int (by simp only; omega), rfl, vle_int (by simp), trivial⟩ ⟨rfl, ?_, trivial⟩
      exact ble_setc (by omega) (ELe.of_eq (by simp [setg, V.cells, encTEvent]; omega)) fun j e => by simp [setg, e]
    · have hge : i = y0.length := by simp at h; omega
      subst hge
      refine ⟨vle_int rfl, ble_arr (fun j hj' => ELe.of_eq ?_) (Or.inl rfl), trivial⟩
      simp only [gL]
      rw [hj j hj', markE_get _ _ _ hj']
  exact Eq.mp (by kernel_rfl) key
noncomputable def sp63 : FSpec := fun args bin => match args, bin with
  | [.osl i0 m0, .int .i64 k], [.arr s0 p0 g0 t0] => some ((i0 = 0 ∧ s0 = 3 ∧ t0 = tagS ∧ p0 = m0 ∧ ∃ y : List TEvent, y.length = m0 ∧ ∀ i, i < m0 → ELe (g0 i) (gL (encTEvent 1) y i)) ∧ pr63 m0 k, .int .i64 (k + 3 * (m0 : Int)), [.arr 3 m0 (gL (encTEvent 1) (markE k m0)) tagS])
  | _, _ => none
theorem so63 : Sound Tryd.prog 63 sp63 := by
  refine sound_of_bodyO hmix (tpl := []) Tryd.func63 rfl (by kernel_rfl) fun args bin ob r bout hDe hob => ?_
  unfold sp63 at hDe
  split at hDe
  · rename_i i0 m0 k s0 p0 g0 t0
    cases hDe
    obtain ⟨⟨rfl, rfl, rfl, rfl, y0, rfl, h0⟩, hpre⟩ := hob
    exact ⟨Nat.le_of_ble_eq_true (by kernel_rfl), cx63 y0 k, Eq.mp (by kernel_rfl) htt, Eq.mp (by kernel_rfl) da63, Eq.mp (by kernel_rfl) (noM_sound (P := Tryd.prog)), by kernel_rfl, _, [.arr 3 y0.length (gL (encTEvent 1) y0) tagS], ArgsLe.refl _, ⟨ble_arr h0 (Or.inl rfl), trivial⟩, Eq.mp (by kernel_rfl) (bd63 y0 k hpre)⟩
  · cases hDe

/-! ### laws.markWatchResult -/
noncomputable def D27 : Nat → Option (Bool × FSpec) := lk [(26, (true, sp26)), (63, (true, sp63))]
theorem da27 : SoundAll Tryd.prog D27 := soundAll_cons so26 (soundAll_cons so63 (soundAll_nil))
noncomputable def cx27 (c0 : Int) (y0 : List Watch) (y1 : List TEvent) (k : Int) : Cx := ⟨tt, D27, Tryd.f27.ntmps, [0, 1, 2, 4], [], [], fun _ => none, [], noM, []⟩
def pr27 (n0 : Nat) (n1 : Nat) (k : Int) : Prop := 1 ≤ k ∧ k + 2 * n0 + 3 * n1 ≤ 4611686018427387904
theorem bd27 (c0 : Int) (y0 : List Watch) (y1 : List TEvent) (k : Int) (hpre : pr27 y0.length y1.length k) : bodyO (cx27 c0 y0 y1 k) Tryd.f27 [] [.agg [.int .i64 (c0), .osl 0 y0.length, .osl 1 y1.length], .int .i64 k] [.arr 2 y0.length (gL (encWatch 1) y0) tagS, .arr 3 y1.length (gL (encTEvent 1) y1) tagS] (fun rr bs => VLe rr (.int .i64 (k + 2 * (y0.length : Int) + 3 * (y1.length : Int))) ∧ BinLe bs [.arr 2 y0.length (gL (encWatch 1) (markW k y0.length)) tagS, .arr 3 y1.length (gL (encTEvent 1) (markE (k + 2 * y0.length) y1.length)) tagS]) := by
  have key :
      ((((0 = 0) ∧
   ((2 = 2) ∧
   ((100 = 100) ∧
   ((List.length y0 = List.length y0) ∧
   (∃ y : List Watch, ((List.length y = List.length y0) ∧
   (∀ i : Nat,
   ((i < List.length y0) →
   (ELe (encWatch 1 (List.getD y0 i default)) (encWatch 1 (List.getD y i default))))))))))) ∧
   (pr26 (List.length y0) k)) ∧
   ((List.length y0 = List.length y0) ∧
   ((((0 = 0) ∧
   ((3 = 3) ∧
   ((100 = 100) ∧
   ((List.length y1 = List.length y1) ∧
   (∃ y : List TEvent, ((List.length y = List.length y1) ∧
   (∀ i : Nat,
   ((i < List.length y1) →
   (ELe (encTEvent 1 (List.getD y1 i default)) (encTEvent 1 (List.getD y i default))))))))))) ∧
   (pr63 (List.length y1) (k + (2 : Int) * (↑(List.length y0) : Int)))) ∧
   ((List.length y1 = List.length y1) ∧
   ((VLe (V.int IntKind.i64 (k + (2 : Int) * (↑(List.length y0) : Int) + (3 : Int) * (↑(List.length y1) : Int)))
   (V.int IntKind.i64 (k + (2 : Int) * (↑(List.length y0) : Int) + (3 : Int) * (↑(List.length y1) : Int)))) ∧
   ((BLe (Blk.arr 2 (List.length y0) (gL (encWatch 1) (markW k (List.length y0))) 100)
   (Blk.arr 2 (List.length y0) (gL (encWatch 1) (markW k (List.length y0))) 100)) ∧
   ((BLe
   (Blk.arr 3 (List.length y1)
   (gL (encTEvent 1) (markE (k + (2 : Int) * (↑(List.length y0) : Int)) (List.length y1))) 100)
   (Blk.arr 3 (List.length y1)
   (gL (encTEvent 1) (markE (k + (2 : Int) * (↑(List.length y0) : Int)) (List.length y1))) 100)) ∧
   (True)))))))) := by
    unfold pr27 at hpre
    refine ⟨⟨⟨rfl, rfl, rfl, rfl, y0, rfl, fun _ _ => ELe.refl _⟩, by unfold pr26; omega⟩, rfl, ⟨⟨rfl, rfl, rfl, rfl, y1, rfl, fun _ _ => ELe.refl _⟩, by unfold pr63; omega⟩, rfl, VLe.refl _, BLe.refl _, BLe.refl _, trivial⟩
  exact Eq.mp (by kernel_rfl) key
noncomputable def sp27 : FSpec := fun args bin => match args, bin with
  | [.agg [.int .i64 (c0), .osl i0 m0, .osl i1 m1], .int .i64 k], [.arr s0 p0 g0 t0, .arr s1 p1 g1 t1] => some ((i0 = 0 ∧ s0 = 2 ∧ t0 = tagS ∧ p0 = m0 ∧ ∃ y : List Watch, y.length = m0 ∧ ∀ i, i < m0 → ELe (g0 i) (gL (encWatch 1) y i)) ∧ (i1 = 1 ∧ s1 = 3 ∧ t1 = tagS ∧ p1 = m1 ∧ ∃ y : List TEvent, y.length = m1 ∧ ∀ i, i < m1 → ELe (g1 i) (gL (encTEvent 1) y i)) ∧ pr27 m0 m1 k, .int .i64 (k + 2 * (m0 : Int) + 3 * (m1 : Int)), [.arr 2 m0 (gL (encWatch 1) (markW k m0)) tagS, .arr 3 m1 (gL (encTEvent 1) (markE (k + 2 * m0) m1)) tagS])
  | _, _ => none
theorem so27 : Sound Tryd.prog 27 sp27 := by
  refine sound_of_bodyO hmix (tpl := []) Tryd.func27 rfl (by kernel_rfl) fun args bin ob r bout hDe hob => ?_
  unfold sp27 at hDe
  split at hDe
  · rename_i c0 i0 m0 i1 m1 k s0 p0 g0 t0 s1 p1 g1 t1
    cases hDe
    obtain ⟨⟨rfl, rfl, rfl, rfl, y0, rfl, h0⟩, ⟨rfl, rfl, rfl, rfl, y1, rfl, h1⟩, hpre⟩ := hob
    exact ⟨Nat.le_of_ble_eq_true (by kernel_rfl), cx27 c0 y0 y1 k, Eq.mp (by kernel_rfl) htt, Eq.mp (by kernel_rfl) da27, Eq.mp (by kernel_rfl) (noM_sound (P := Tryd.prog)), by kernel_rfl, _, [.arr 2 y0.length (gL (encWatch 1) y0) tagS, .arr 3 y1.length (gL (encTEvent 1) y1) tagS], ArgsLe.refl _, ⟨ble_arr h0 (Or.inl rfl), ble_arr h1 (Or.inl rfl), trivial⟩, Eq.mp (by kernel_rfl) (bd27 c0 y0 y1 k hpre)⟩
  · cases hDe

/-- What is told of rows that are held against their marks. -/
noncomputable def heldW (xs : List Watch) (k : Int) : Int := if xs = markW k xs.length then k + 2 * xs.length else -1
noncomputable def heldE (xs : List TEvent) (k : Int) : Int := if xs = markE k xs.length then k + 3 * xs.length else -1
noncomputable def heldR (r : WatchResult) (k : Int) : Int := if r.watches = markW k r.watches.length ∧ r.events = markE (k + 2 * r.watches.length) r.events.length then k + 2 * r.watches.length + 3 * r.events.length else -1
theorem decL_markW (k : Int) (n t : Nat) : decL decWatch (.sl n (gL (encWatch 1) (markW k n)) t) = markW k n := by
  have h := decL_encL (dec_encWatch 1) t (markW k n)
  unfold encL at h
  rwa [markW_len] at h
theorem vle_markW (k : Int) (n t : Nat) : VLe (.sl n (gL (encWatch 1) (markW k n)) t) (encL (encWatch 1) t (markW k n)) := by
  unfold encL
  rw [markW_len]
  exact VLe.refl _
theorem decL_markE (k : Int) (n t : Nat) : decL decTEvent (.sl n (gL (encTEvent 1) (markE k n)) t) = markE k n := by
  have h := decL_encL (dec_encTEvent 1) t (markE k n)
  unfold encL at h
  rwa [markE_len] at h
theorem vle_markE (k : Int) (n t : Nat) : VLe (.sl n (gL (encTEvent 1) (markE k n)) t) (encL (encTEvent 1) t (markE k n)) := by
  unfold encL
  rw [markE_len]
  exact VLe.refl _
theorem dec_markR (c k k' : Int) (n m : Nat) : decWatchResult (.agg [.int .i64 c, .sl n (gL (encWatch 1) (markW k n)) 1, .sl m (gL (encTEvent 1) (markE k' m)) 1]) = ⟨c, markW k n, markE k' m⟩ := by
  show (⟨c, decL decWatch (.sl n (gL (encWatch 1) (markW k n)) 1), decL decTEvent (.sl m (gL (encTEvent 1) (markE k' m)) 1)⟩ : WatchResult) = _
  rw [decL_markW, decL_markE]
theorem vle_markR (c k k' : Int) (n m : Nat) : VLe (.agg [.int .i64 c, .sl n (gL (encWatch 1) (markW k n)) 1, .sl m (gL (encTEvent 1) (markE k' m)) 1]) (encWatchResult 1 ⟨c, markW k n, markE k' m⟩) := vle_agg ⟨VLe.refl _, vle_markW k n 1, vle_markE k' m 1, trivial⟩
theorem heldR_mark (c k : Int) (n m : Nat) : heldR ⟨c, markW k n, markE (k + 2 * n) m⟩ k = k + 2 * n + 3 * m := by simp [heldR]

/-! ### laws.heldWatchS -/
def pr64 (xs : List Watch) (k : Int) : Prop := 1 ≤ k ∧ k + 2 * xs.length ≤ 4611686018427387904
noncomputable def rs64 (xs : List Watch) (k : Int) : V := .int .i64 (heldW xs k)
noncomputable def sp64 : FSpec := fun args bin => match args, bin with
  | [a0, .int .i64 a1], [] => some (VLe a0 (encL (encWatch 1) 1 (((decL decWatch) a0))) ∧ pr64 ((decL decWatch) a0) a1, rs64 ((decL decWatch) a0) a1, [])
  | _, _ => none
noncomputable def in64_2 (xs : List Watch) (k : Int) : LoopInv :=
  ⟨Nat, fun i => ⟨[(0, encL (encWatch 1) 1 xs), (1, .int .i64 (k + 2 * i)), (5, .int .i64 i)], []⟩, fun i => i ≤ xs.length ∧ ∀ j, j < i → xs.getD j default = ⟨k + 2 * j, mtF (k + 2 * j + 1)⟩, fun i => xs.length - i⟩
noncomputable def iv64 (xs : List Watch) (k : Int) : Nat → Option LoopInv := fun rg_ => match rg_ with
  | 2 => some (in64_2 xs k)
  | _ => none
noncomputable def D64 : Nat → Option (Bool × FSpec) := lk [(62, (false, sp62))]
theorem da64 : SoundAll Tryd.prog D64 := soundAll_cons so62 (soundAll_nil)
noncomputable def cx64 (xs : List Watch) (k : Int) : Cx := ⟨tt, D64, Tryd.f64.ntmps, [0, 1, 4, 5, 9, 18, 28], [(2, ⟨[(0, none), (1, none), (5, none)], []⟩)], [], iv64 xs k, [], noM, []⟩
theorem bd64 (xs : List Watch) (k : Int) (hpre : pr64 xs k) : bodyP (cx64 xs k) Tryd.f64 0 [encL (encWatch 1) 1 (xs), .int .i64 (k)] (fun rr => VLe rr (rs64 xs k)) := by
  have key :
      ((∃ x : Nat, ((SLe
   (AS.mk
   [(0, encL (encWatch 1) 1 xs), (1, V.int IntKind.i64 k),
   (5, V.int IntKind.i64 (0 : Int))]
   [])
   (AS.mk
   [(0, encL (encWatch 1) 1 xs), (1, V.int IntKind.i64 (k + (2 : Int) * (↑x : Int))),
   (5, V.int IntKind.i64 (↑x : Int))]
   [])) ∧
   ((x ≤ List.length xs) ∧
   (∀ j : Nat,
   ((j < x) →
   (List.getD xs j default = Watch.mk (k + (2 : Int) * (↑j : Int)) (mtF (k + (2 : Int) * (↑j : Int) + (1 : Int))))))))) ∧
   (∀ x : Nat,
   (((x ≤ List.length xs) ∧
   (∀ j : Nat,
   ((j < x) →
   (List.getD xs j default = Watch.mk (k + (2 : Int) * (↑j : Int)) (mtF (k + (2 : Int) * (↑j : Int) + (1 : Int))))))) →
   (((decide ((↑x : Int) < (↑(List.length xs) : Int)) = true) →
   ((((0 : Int) ≤ (↑x : Int)) ∧
   ((↑x : Int) < (↑(List.length xs) : Int))) ∧
   ((((Watch.client (List.getD xs (Int.toNat (↑x : Int)) default) != k + (2 : Int) * (↑x : Int)) = true) →
   (VLe (V.int IntKind.i64 (-1 : Int)) (V.int IntKind.i64 (heldW xs k)))) ∧
   (((Watch.client (List.getD xs (Int.toNat (↑x : Int)) default) != k + (2 : Int) * (↑x : Int)) = false) →
   ((inK IntKind.i64 (k + (2 : Int) * (↑x : Int) + (1 : Int))) ∧
   ((((0 : Int) ≤ (↑x : Int)) ∧
   ((↑x : Int) < (↑(List.length xs) : Int))) ∧
   ((pr62 (k + (2 : Int) * (↑x : Int) + (1 : Int))) ∧
   ((((!strEq (Watch.path (List.getD xs (Int.toNat (↑x : Int)) default)) (mtF (k + (2 : Int) * (↑x : Int) + (1 : Int)))) =
   true) →
   (VLe (V.int IntKind.i64 (-1 : Int)) (V.int IntKind.i64 (heldW xs k)))) ∧
   (((!strEq (Watch.path (List.getD xs (Int.toNat (↑x : Int)) default)) (mtF (k + (2 : Int) * (↑x : Int) + (1 : Int)))) =
   false) →
   ((inK IntKind.i64 (k + (2 : Int) * (↑x : Int) + (1 : Int) + (1 : Int))) ∧
   ((inK IntKind.i64 ((↑x : Int) + (1 : Int))) ∧
   (∃ y : Nat, ((SLe
   (AS.mk
   [(0, encL (encWatch 1) 1 xs),
   (1, V.int IntKind.i64 (k + (2 : Int) * (↑x : Int) + (1 : Int) + (1 : Int))),
   (5, V.int IntKind.i64 ((↑x : Int) + (1 : Int)))]
   [])
   (AS.mk
   [(0, encL (encWatch 1) 1 xs), (1, V.int IntKind.i64 (k + (2 : Int) * (↑y : Int))),
   (5, V.int IntKind.i64 (↑y : Int))]
   [])) ∧
   (((y ≤ List.length xs) ∧
   (∀ j : Nat,
   ((j < y) →
   (List.getD xs j default = Watch.mk (k + (2 : Int) * (↑j : Int)) (mtF (k + (2 : Int) * (↑j : Int) + (1 : Int))))))) ∧
   (List.length xs - y < List.length xs - x))))))))))))))) ∧
   ((decide ((↑x : Int) < (↑(List.length xs) : Int)) = false) →
   (VLe (V.int IntKind.i64 (k + (2 : Int) * (↑x : Int))) (V.int IntKind.i64 (heldW xs k)))))))) := by
    unfold pr64 at hpre
    refine ⟨⟨0, SLe.refl' (by simp), by omega, fun j hj => absurd hj (Nat.not_lt_zero j)⟩, ?_⟩
    rintro i ⟨hi, hj⟩
    refine ⟨fun h => ?_, fun h => ?_⟩
    · have hlt : i < xs.length := by simpa using h
      have no : xs.getD i default ≠ ⟨k + 2 * i, mtF (k + 2 * i + 1)⟩ → VLe (.int .i64 (-1)) (.int .i64 (heldW xs k)) := fun hn => by
        refine vle_int ?_
        have : xs ≠ markW k xs.length := fun e => hn (by rw [e]; exact markW_get _ _ _ hlt)
        unfold heldW
        rw [if_neg this]
      simp only [Int.toNat_natCast, strEq_dec]
      refine ⟨by omega, fun h2 => ?_, fun h2 => ⟨inK64 (by omega), by omega, ⟨by omega, by omega⟩, fun h3 => ?_, fun h3 => ⟨inK64 (by omega), inK64 (by omega), i + 1, sle_of ⟨rfl, VLe.refl _, rfl, vle_int (by omega), rfl, vle_int (by omega), trivial⟩ trivial, ⟨by omega, fun j h5 => ?_⟩, by omega⟩⟩⟩
      · exact no fun e => by rw [e] at h2; simp at h2
      · exact no fun e => by rw [e] at h3; simp at h3
      · rcases Nat.lt_or_ge j i with h6 | h6
        · exact hj j h6
        · have : j = i := by omega
          subst this
          rw [eq_Watch]
          exact ⟨by simpa using h2, by simpa using h3⟩
    · refine vle_int ?_
      have hge : i = xs.length := by simp at h; omega
      subst hge
      have : xs = markW k xs.length := eq_of_getD (by simp) fun j hj' => by rw [hj j hj', markW_get _ _ _ hj']
      unfold heldW
      rw [if_pos this]
  exact Eq.mp (by kernel_rfl) key
theorem so64 : Sound Tryd.prog 64 sp64 := by
  refine sound_of_body hmix (pol := 0) Tryd.func64 rfl (by kernel_rfl) fun args bin ob r bout hDe hob => ?_
  unfold sp64 at hDe
  split at hDe
  · rename_i a0 a1
    cases hDe
    exact ⟨rfl, rfl, Nat.le_of_ble_eq_true (by kernel_rfl), cx64 ((decL decWatch) a0) a1, Eq.mp (by kernel_rfl) htt, Eq.mp (by kernel_rfl) da64, Eq.mp (by kernel_rfl) (noM_sound (P := Tryd.prog)), by kernel_rfl, [encL (encWatch 1) 1 (((decL decWatch) a0)), .int .i64 (a1)], args_of_vles (⟨hob.1, VLe.refl _, trivial⟩), Eq.mp (by kernel_rfl) (bd64 ((decL decWatch) a0) a1 (hob.2))⟩
  · cases hDe

/-! ### laws.heldEventS -/
def pr65 (xs : List TEvent) (k : Int) : Prop := 1 ≤ k ∧ k + 3 * xs.length ≤ 4611686018427387904
noncomputable def rs65 (xs : List TEvent) (k : Int) : V := .int .i64 (heldE xs k)
noncomputable def sp65 : FSpec := fun args bin => match args, bin with
  | [a0, .int .i64 a1], [] => some (VLe a0 (encL (encTEvent 1) 1 (((decL decTEvent) a0))) ∧ pr65 ((decL decTEvent) a0) a1, rs65 ((decL decTEvent) a0) a1, [])
  | _, _ => none
noncomputable def in65_2 (xs : List TEvent) (k : Int) : LoopInv :=
  ⟨Nat, fun i => ⟨[(0, encL (encTEvent 1) 1 xs), (1, .int .i64 (k + 3 * i)), (5, .int .i64 i)], []⟩, fun i => i ≤ xs.length ∧ ∀ j, j < i → xs.getD j default = ⟨k + 3 * j, mtF (k + 3 * j + 1), k + 3 * j + 2⟩, fun i => xs.length - i⟩
noncomputable def iv65 (xs : List TEvent) (k : Int) : Nat → Option LoopInv := fun rg_ => match rg_ with
  | 2 => some (in65_2 xs k)
  | _ => none
noncomputable def D65 : Nat → Option (Bool × FSpec) := lk [(62, (false, sp62))]
theorem da65 : SoundAll Tryd.prog D65 := soundAll_cons so62 (soundAll_nil)
noncomputable def cx65 (xs : List TEvent) (k : Int) : Cx := ⟨tt, D65, Tryd.f65.ntmps, [0, 1, 4, 5, 9, 18, 28, 37], [(2, ⟨[(0, none), (1, none), (5, none)], []⟩)], [], iv65 xs k, [], noM, []⟩
theorem bd65 (xs : List TEvent) (k : Int) (hpre : pr65 xs k) : bodyP (cx65 xs k) Tryd.f65 0 [encL (encTEvent 1) 1 (xs), .int .i64 (k)] (fun rr => VLe rr (rs65 xs k)) := by
  have key :
      ((∃ x : Nat, ((SLe
   (AS.mk
   [(0, encL (encTEvent 1) 1 xs), (1, V.int IntKind.i64 k),
   (5, V.int IntKind.i64 (0 : Int))]
   [])
   (AS.mk
   [(0, encL (encTEvent 1) 1 xs), (1, V.int IntKind.i64 (k + (3 : Int) * (↑x : Int))),
   (5, V.int IntKind.i64 (↑x : Int))]
   [])) ∧
   ((x ≤ List.length xs) ∧
   (∀ j : Nat,
   ((j < x) →
   (List.getD xs j default =
   TEvent.mk (k + (3 : Int) * (↑j : Int)) (mtF (k + (3 : Int) * (↑j : Int) + (1 : Int)))
   (k + (3 : Int) * (↑j : Int) + (2 : Int)))))))) ∧
   (∀ x : Nat,
   (((x ≤ List.length xs) ∧
   (∀ j : Nat,
   ((j < x) →
   (List.getD xs j default =
   TEvent.mk (k + (3 : Int) * (↑j : Int)) (mtF (k + (3 : Int) * (↑j : Int) + (1 : Int)))
   (k + (3 : Int) * (↑j : Int) + (2 : Int)))))) →
   (((decide ((↑x : Int) < (↑(List.length xs) : Int)) = true) →
   ((((0 : Int) ≤ (↑x : Int)) ∧
   ((↑x : Int) < (↑(List.length xs) : Int))) ∧
   ((((TEvent.client (List.getD xs (Int.toNat (↑x : Int)) default) != k + (3 : Int) * (↑x : Int)) = true) →
   (VLe (V.int IntKind.i64 (-1 : Int)) (V.int IntKind.i64 (heldE xs k)))) ∧
   (((TEvent.client (List.getD xs (Int.toNat (↑x : Int)) default) != k + (3 : Int) * (↑x : Int)) = false) →
   ((inK IntKind.i64 (k + (3 : Int) * (↑x : Int) + (1 : Int))) ∧
   ((((0 : Int) ≤ (↑x : Int)) ∧
   ((↑x : Int) < (↑(List.length xs) : Int))) ∧
   ((pr62 (k + (3 : Int) * (↑x : Int) + (1 : Int))) ∧
   ((((!strEq (TEvent.path (List.getD xs (Int.toNat (↑x : Int)) default)) (mtF (k + (3 : Int) * (↑x : Int) + (1 : Int)))) =
   true) →
   (VLe (V.int IntKind.i64 (-1 : Int)) (V.int IntKind.i64 (heldE xs k)))) ∧
   (((!strEq (TEvent.path (List.getD xs (Int.toNat (↑x : Int)) default)) (mtF (k + (3 : Int) * (↑x : Int) + (1 : Int)))) =
   false) →
   ((inK IntKind.i64 (k + (3 : Int) * (↑x : Int) + (1 : Int) + (1 : Int))) ∧
   ((((0 : Int) ≤ (↑x : Int)) ∧
   ((↑x : Int) < (↑(List.length xs) : Int))) ∧
   ((((TEvent.kind (List.getD xs (Int.toNat (↑x : Int)) default) != k + (3 : Int) * (↑x : Int) + (1 : Int) + (1 : Int)) = true) →
   (VLe (V.int IntKind.i64 (-1 : Int)) (V.int IntKind.i64 (heldE xs k)))) ∧
   (((TEvent.kind (List.getD xs (Int.toNat (↑x : Int)) default) != k + (3 : Int) * (↑x : Int) + (1 : Int) + (1 : Int)) =
   false) →
   ((inK IntKind.i64 (k + (3 : Int) * (↑x : Int) + (1 : Int) + (1 : Int) + (1 : Int))) ∧
   ((inK IntKind.i64 ((↑x : Int) + (1 : Int))) ∧
   (∃ y : Nat, ((SLe
   (AS.mk
   [(0, encL (encTEvent 1) 1 xs),
   (1, V.int IntKind.i64 (k + (3 : Int) * (↑x : Int) + (1 : Int) + (1 : Int) + (1 : Int))),
   (5, V.int IntKind.i64 ((↑x : Int) + (1 : Int)))]
   [])
   (AS.mk
   [(0, encL (encTEvent 1) 1 xs), (1, V.int IntKind.i64 (k + (3 : Int) * (↑y : Int))),
   (5, V.int IntKind.i64 (↑y : Int))]
   [])) ∧
   (((y ≤ List.length xs) ∧
   (∀ j : Nat,
   ((j < y) →
   (List.getD xs j default =
   TEvent.mk (k + (3 : Int) * (↑j : Int)) (mtF (k + (3 : Int) * (↑j : Int) + (1 : Int)))
   (k + (3 : Int) * (↑j : Int) + (2 : Int)))))) ∧
   (List.length xs - y < List.length xs - x))))))))))))))))))) ∧
   ((decide ((↑x : Int) < (↑(List.length xs) : Int)) = false) →
   (VLe (V.int IntKind.i64 (k + (3 : Int) * (↑x : Int))) (V.int IntKind.i64 (heldE xs k)))))))) := by
    unfold pr65 at hpre
    refine ⟨⟨0, SLe.refl' (by simp), by omega, fun j hj => absurd hj (Nat.not_lt_zero j)⟩, ?_⟩
    rintro i ⟨hi, hj⟩
    refine ⟨fun h => ?_, fun h => ?_⟩
    · have hlt : i < xs.length := by simpa using h
      have no : xs.getD i default ≠ ⟨k + 3 * i, mtF (k + 3 * i + 1), k + 3 * i + 2⟩ → VLe (.int .i64 (-1)) (.int .i64 (heldE xs k)) := fun hn => by
        refine vle_int ?_
        have : xs ≠ markE k xs.length := fun e => hn (by rw [e]; exact markE_get _ _ _ hlt)
        unfold heldE
        rw [if_neg this]
      simp only [Int.toNat_natCast, strEq_dec]
      refine ⟨by omega, fun h2 => ?_, fun h2 => ⟨inK64 (by omega), by omega, ⟨by omega, by omega⟩, fun h3 => ?_, fun h3 => ⟨inK64 (by omega), by omega, fun h4 => ?_, fun h4 => ⟨inK64 (by omega), inK64 (by omega), i + 1, sle_of ⟨rfl, VLe.refl _, rfl, vle_int (by omega), rfl, vle_int (by omega), trivial⟩ trivial, ⟨by omega, fun j h5 => ?_⟩, by omega⟩⟩⟩⟩
      · exact no fun e => by rw [e] at h2; simp at h2
      · exact no fun e => by rw [e] at h3; simp at h3
      · exact no fun e => by rw [e] at h4; simp at h4; omega
      · rcases Nat.lt_or_ge j i with h6 | h6
        · exact hj j h6
        · have : j = i := by omega
          subst this
          rw [eq_TEvent]
          have a4 : (xs.getD j default).kind = k + 3 * j + 1 + 1 := by simpa using h4
          exact ⟨by simpa using h2, by simpa using h3, a4.trans (by simp only; omega)⟩
    · refine vle_int ?_
      have hge : i = xs.length := by simp at h; omega
      subst hge
      have : xs = markE k xs.length := eq_of_getD (by simp) fun j hj' => by rw [hj j hj', markE_get _ _ _ hj']
      unfold heldE
      rw [if_pos this]
  exact Eq.mp (by kernel_rfl) key
theorem so65 : Sound Tryd.prog 65 sp65 := by
  refine sound_of_body hmix (pol := 0) Tryd.func65 rfl (by kernel_rfl) fun args bin ob r bout hDe hob => ?_
  unfold sp65 at hDe
  split at hDe
  · rename_i a0 a1
    cases hDe
    exact ⟨rfl, rfl, Nat.le_of_ble_eq_true (by kernel_rfl), cx65 ((decL decTEvent) a0) a1, Eq.mp (by kernel_rfl) htt, Eq.mp (by kernel_rfl) da65, Eq.mp (by kernel_rfl) (noM_sound (P := Tryd.prog)), by kernel_rfl, [encL (encTEvent 1) 1 (((decL decTEvent) a0)), .int .i64 (a1)], args_of_vles (⟨hob.1, VLe.refl _, trivial⟩), Eq.mp (by kernel_rfl) (bd65 ((decL decTEvent) a0) a1 (hob.2))⟩
  · cases hDe

/-! ### laws.heldWatchResult -/
def pr28 (a : WatchResult) (k : Int) : Prop := 1 ≤ k ∧ k + 2 * a.watches.length + 3 * a.events.length ≤ 4611686018427387904
noncomputable def rs28 (a : WatchResult) (k : Int) : V := .int .i64 (heldR a k)
noncomputable def sp28 : FSpec := fun args bin => match args, bin with
  | [a0, .int .i64 a1], [] => some (VLe a0 (encWatchResult 1 ((decWatchResult a0))) ∧ pr28 (decWatchResult a0) a1, rs28 (decWatchResult a0) a1, [])
  | _, _ => none
noncomputable def D28 : Nat → Option (Bool × FSpec) := lk [(64, (false, sp64)), (65, (false, sp65))]
theorem da28 : SoundAll Tryd.prog D28 := soundAll_cons so64 (soundAll_cons so65 (soundAll_nil))
noncomputable def cx28 (a : WatchResult) (k : Int) : Cx := ⟨tt, D28, Tryd.f28.ntmps, [0, 1, 2, 4, 10, 16], [], [], fun _ => none, [], noM, []⟩
theorem bd28 (a : WatchResult) (k : Int) (hpre : pr28 a k) : bodyP (cx28 a k) Tryd.f28 0 [encWatchResult 1 (a), .int .i64 (k)] (fun rr => VLe rr (rs28 a k)) := by
  have key :
      (((VLe (encL (encWatch 1) 1 (WatchResult.watches a))
   (encL (encWatch 1) 1 (decL decWatch (encL (encWatch 1) 1 (WatchResult.watches a))))) ∧
   (pr64 (decL decWatch (encL (encWatch 1) 1 (WatchResult.watches a))) k)) ∧
   (((decide (heldW (decL decWatch (encL (encWatch 1) 1 (WatchResult.watches a))) k < (0 : Int)) = true) →
   (VLe (V.int IntKind.i64 (-1 : Int)) (V.int IntKind.i64 (heldR a k)))) ∧
   ((decide (heldW (decL decWatch (encL (encWatch 1) 1 (WatchResult.watches a))) k < (0 : Int)) = false) →
   (((VLe (encL (encTEvent 1) 1 (WatchResult.events a))
   (encL (encTEvent 1) 1 (decL decTEvent (encL (encTEvent 1) 1 (WatchResult.events a))))) ∧
   (pr65 (decL decTEvent (encL (encTEvent 1) 1 (WatchResult.events a)))
   (heldW (decL decWatch (encL (encWatch 1) 1 (WatchResult.watches a))) k))) ∧
   (((decide
   (heldE (decL decTEvent (encL (encTEvent 1) 1 (WatchResult.events a)))
   (heldW (decL decWatch (encL (encWatch 1) 1 (WatchResult.watches a))) k) <
   (0 : Int)) =
   true) →
   (VLe (V.int IntKind.i64 (-1 : Int)) (V.int IntKind.i64 (heldR a k)))) ∧
   ((decide
   (heldE (decL decTEvent (encL (encTEvent 1) 1 (WatchResult.events a)))
   (heldW (decL decWatch (encL (encWatch 1) 1 (WatchResult.watches a))) k) <
   (0 : Int)) =
   false) →
   (VLe
   (V.int IntKind.i64
   (heldE (decL decTEvent (encL (encTEvent 1) 1 (WatchResult.events a)))
   (heldW (decL decWatch (encL (encWatch 1) 1 (WatchResult.watches a))) k)))
   (V.int IntKind.i64 (heldR a k))))))))) := by
    unfold pr28 at hpre
    simp only [decL_Watch, decL_TEvent]
    refine ⟨⟨VLe.refl _, by show 1 ≤ k ∧ _; omega⟩, fun h => vle_int ?_, fun h => ?_⟩
    · have h1 : heldW a.watches k < 0 := by simpa using h
      have h2 : ¬ a.watches = markW k a.watches.length := fun e => by
        unfold heldW at h1
        rw [if_pos e] at h1
        omega
      unfold heldR
      rw [if_neg fun g => h2 g.1]
    have h1 : ¬ heldW a.watches k < 0 := by simpa using h
    have h2 : a.watches = markW k a.watches.length := Classical.byContradiction fun e => by
      unfold heldW at h1
      rw [if_neg e] at h1
      omega
    have h3 : heldW a.watches k = k + 2 * a.watches.length := if_pos h2
    rw [h3]
    refine ⟨⟨VLe.refl _, by show 1 ≤ k + 2 * (a.watches.length : Int) ∧ _; omega⟩, fun h => vle_int ?_, fun h => vle_int ?_⟩
    · have h4 : heldE a.events (k + 2 * a.watches.length) < 0 := by simpa using h
      have h5 : ¬ a.events = markE (k + 2 * a.watches.length) a.events.length := fun e => by
        unfold heldE at h4
        rw [if_pos e] at h4
        omega
      unfold heldR
      rw [if_neg fun g => h5 g.2]
    · have h4 : ¬ heldE a.events (k + 2 * a.watches.length) < 0 := by simpa using h
      have h5 : a.events = markE (k + 2 * a.watches.length) a.events.length := Classical.byContradiction fun e => by
        unfold heldE at h4
        rw [if_neg e] at h4
        omega
      unfold heldR heldE
      rw [if_pos h5, if_pos ⟨h2, h5⟩]
  exact Eq.mp (by kernel_rfl) key
theorem so28 : Sound Tryd.prog 28 sp28 := by
  refine sound_of_body hmix (pol := 0) Tryd.func28 rfl (by kernel_rfl) fun args bin ob r bout hDe hob => ?_
  unfold sp28 at hDe
  split at hDe
  · rename_i a0 a1
    cases hDe
    exact ⟨rfl, rfl, Nat.le_of_ble_eq_true (by kernel_rfl), cx28 (decWatchResult a0) a1, Eq.mp (by kernel_rfl) htt, Eq.mp (by kernel_rfl) da28, Eq.mp (by kernel_rfl) (noM_sound (P := Tryd.prog)), by kernel_rfl, [encWatchResult 1 ((decWatchResult a0)), .int .i64 (a1)], args_of_vles (⟨hob.1, VLe.refl _, trivial⟩), Eq.mp (by kernel_rfl) (bd28 (decWatchResult a0) a1 (hob.2))⟩
  · cases hDe

/-! ### laws.eqEvent -/
def pr98 (x : TEvent) (y : TEvent) : Prop := True
noncomputable def rs98 (x : TEvent) (y : TEvent) : V := .bool (decide (x = y))
noncomputable def sp98 : FSpec := fun args bin => match args, bin with
  | [a0, a1], [] => some (VLe a0 (encTEvent 1 ((decTEvent a0))) ∧ VLe a1 (encTEvent 1 ((decTEvent a1))) ∧ pr98 (decTEvent a0) (decTEvent a1), rs98 (decTEvent a0) (decTEvent a1), [])
  | _, _ => none
noncomputable def D98 : Nat → Option (Bool × FSpec) := lk []
theorem da98 : SoundAll Tryd.prog D98 := soundAll_nil
noncomputable def cx98 (x : TEvent) (y : TEvent) : Cx := ⟨tt, D98, Tryd.f98.ntmps, [0, 1, 2, 3, 4, 9, 14, 19], [], [], fun _ => none, [], noM, []⟩
theorem bd98 (x : TEvent) (y : TEvent) (hpre : pr98 x y) : bodyP (cx98 x y) Tryd.f98 0 [encTEvent 1 (x), encTEvent 1 (y)] (fun rr => VLe rr (rs98 x y)) := by
  have key :
      ((((TEvent.client x != TEvent.client y) = true) →
   (VLe (V.bool false) (V.bool (decide (x = y))))) ∧
   (((TEvent.client x != TEvent.client y) = false) →
   ((((!strEq (TEvent.path x) (TEvent.path y)) = true) →
   (VLe (V.bool false) (V.bool (decide (x = y))))) ∧
   (((!strEq (TEvent.path x) (TEvent.path y)) = false) →
   ((((TEvent.kind x != TEvent.kind y) = true) →
   (VLe (V.bool false) (V.bool (decide (x = y))))) ∧
   (((TEvent.kind x != TEvent.kind y) = false) →
   (VLe (V.bool true) (V.bool (decide (x = y)))))))))) := by
    simp [eq_TEvent, strEq_dec]
    grind
  exact Eq.mp (by kernel_rfl) key
theorem so98 : Sound Tryd.prog 98 sp98 := by
  refine sound_of_body hmix (pol := 0) Tryd.func98 rfl (by kernel_rfl) fun args bin ob r bout hDe hob => ?_
  unfold sp98 at hDe
  split at hDe
  · rename_i a0 a1
    cases hDe
    exact ⟨rfl, rfl, Nat.le_of_ble_eq_true (by kernel_rfl), cx98 (decTEvent a0) (decTEvent a1), Eq.mp (by kernel_rfl) htt, Eq.mp (by kernel_rfl) da98, Eq.mp (by kernel_rfl) (noM_sound (P := Tryd.prog)), by kernel_rfl, [encTEvent 1 ((decTEvent a0)), encTEvent 1 ((decTEvent a1))], args_of_vles (⟨hob.1, hob.2.1, trivial⟩), Eq.mp (by kernel_rfl) (bd98 (decTEvent a0) (decTEvent a1) (hob.2.2))⟩
  · cases hDe

/-! ### laws.eqEventS -/
def pr61 (xs : List TEvent) (ys : List TEvent) : Prop := xs.length ≤ maxLen ∧ ∀ x ∈ xs, ∀ y, pr98 x y
noncomputable def rs61 (xs : List TEvent) (ys : List TEvent) : V := .bool (decide (xs = ys))
noncomputable def sp61 : FSpec := fun args bin => match args, bin with
  | [a0, a1], [] => some (VLe a0 (encL (encTEvent 1) 1 (((decL decTEvent) a0))) ∧ VLe a1 (encL (encTEvent 1) 1 (((decL decTEvent) a1))) ∧ pr61 ((decL decTEvent) a0) ((decL decTEvent) a1), rs61 ((decL decTEvent) a0) ((decL decTEvent) a1), [])
  | _, _ => none
noncomputable def in61_4 (xs : List TEvent) (ys : List TEvent) : LoopInv :=
  ⟨Nat, fun i => ⟨[(0, encL (encTEvent 1) 1 xs), (1, encL (encTEvent 1) 1 ys), (5, .int .i64 i)], []⟩,
    fun i => i ≤ xs.length ∧ xs.length = ys.length ∧ ∀ j, j < i → xs.getD j default = ys.getD j default, fun i => xs.length - i⟩
noncomputable def iv61 (xs : List TEvent) (ys : List TEvent) : Nat → Option LoopInv := fun rg_ => match rg_ with
  | 4 => some (in61_4 xs ys)
  | _ => none
noncomputable def D61 : Nat → Option (Bool × FSpec) := lk [(98, (false, sp98))]
theorem da61 : SoundAll Tryd.prog D61 := soundAll_cons so98 (soundAll_nil)
noncomputable def cx61 (xs : List TEvent) (ys : List TEvent) : Cx := ⟨tt, D61, Tryd.f61.ntmps, [0, 1, 4, 5, 10, 14, 26], [(4, ⟨[(0, none), (1, none), (5, none)], []⟩)], [], iv61 xs ys, [], noM, []⟩
theorem bd61 (xs : List TEvent) (ys : List TEvent) (hpre : pr61 xs ys) : bodyP (cx61 xs ys) Tryd.f61 0 [encL (encTEvent 1) 1 (xs), encL (encTEvent 1) 1 (ys)] (fun rr => VLe rr (rs61 xs ys)) := by
  have key :
      (((((↑(List.length xs) : Int) != (↑(List.length ys) : Int)) = true) →
   (VLe (V.bool false) (V.bool (decide (xs = ys))))) ∧
   ((((↑(List.length xs) : Int) != (↑(List.length ys) : Int)) = false) →
   ((∃ x : Nat, ((SLe
   (AS.mk
   [(0, encL (encTEvent 1) 1 xs), (1, encL (encTEvent 1) 1 ys),
   (5, V.int IntKind.i64 (0 : Int))]
   [])
   (AS.mk
   [(0, encL (encTEvent 1) 1 xs), (1, encL (encTEvent 1) 1 ys),
   (5, V.int IntKind.i64 (↑x : Int))]
   [])) ∧
   ((x ≤ List.length xs) ∧
   ((List.length xs = List.length ys) ∧
   (∀ j : Nat,
   ((j < x) →
   (List.getD xs j default = List.getD ys j default))))))) ∧
   (∀ x : Nat,
   (((x ≤ List.length xs) ∧
   ((List.length xs = List.length ys) ∧
   (∀ j : Nat,
   ((j < x) →
   (List.getD xs j default = List.getD ys j default))))) →
   (((decide ((↑x : Int) < (↑(List.length xs) : Int)) = true) →
   ((((0 : Int) ≤ (↑x : Int)) ∧
   ((↑x : Int) < (↑(List.length xs) : Int))) ∧
   ((((0 : Int) ≤ (↑x : Int)) ∧
   ((↑x : Int) < (↑(List.length ys) : Int))) ∧
   (((VLe (encTEvent 1 (List.getD xs (Int.toNat (↑x : Int)) default))
   (encTEvent 1 (decTEvent (encTEvent 1 (List.getD xs (Int.toNat (↑x : Int)) default))))) ∧
   ((VLe (encTEvent 1 (List.getD ys (Int.toNat (↑x : Int)) default))
   (encTEvent 1 (decTEvent (encTEvent 1 (List.getD ys (Int.toNat (↑x : Int)) default))))) ∧
   (pr98 (decTEvent (encTEvent 1 (List.getD xs (Int.toNat (↑x : Int)) default)))
   (decTEvent (encTEvent 1 (List.getD ys (Int.toNat (↑x : Int)) default)))))) ∧
   ((((!decide
   (decTEvent (encTEvent 1 (List.getD xs (Int.toNat (↑x : Int)) default)) =
   decTEvent (encTEvent 1 (List.getD ys (Int.toNat (↑x : Int)) default)))) =
   true) →
   (VLe (V.bool false) (V.bool (decide (xs = ys))))) ∧
   (((!decide
   (decTEvent (encTEvent 1 (List.getD xs (Int.toNat (↑x : Int)) default)) =
   decTEvent (encTEvent 1 (List.getD ys (Int.toNat (↑x : Int)) default)))) =
   false) →
   ((inK IntKind.i64 ((↑x : Int) + (1 : Int))) ∧
   (∃ y : Nat, ((SLe
   (AS.mk
   [(0, encL (encTEvent 1) 1 xs), (1, encL (encTEvent 1) 1 ys),
   (5, V.int IntKind.i64 ((↑x : Int) + (1 : Int)))]
   [])
   (AS.mk
   [(0, encL (encTEvent 1) 1 xs), (1, encL (encTEvent 1) 1 ys),
   (5, V.int IntKind.i64 (↑y : Int))]
   [])) ∧
   (((y ≤ List.length xs) ∧
   ((List.length xs = List.length ys) ∧
   (∀ j : Nat,
   ((j < y) →
   (List.getD xs j default = List.getD ys j default))))) ∧
   (List.length xs - y < List.length xs - x))))))))))) ∧
   ((decide ((↑x : Int) < (↑(List.length xs) : Int)) = false) →
   (VLe (V.bool true) (V.bool (decide (xs = ys))))))))))) := by
    unfold pr61 maxLen at hpre
    obtain ⟨hpre, hel⟩ := hpre
    refine ⟨fun h => ?_, fun h => ?_⟩
    · refine vle_bool ?_
      have hne : xs ≠ ys := fun e => by subst e; simp at h
      simp [hne]
    · have hlen : xs.length = ys.length := by simp at h; omega
      refine ⟨⟨0, SLe.refl _, by omega, hlen, fun j hj => absurd hj (Nat.not_lt_zero j)⟩, ?_⟩
      rintro i ⟨hi, _, hj⟩
      refine ⟨fun h => ?_, fun h => ?_⟩
      · have hlt : i < xs.length := by simpa using h
        have hin : xs.getD i default ∈ xs := by simp [hlt]
        simp only [dec_encTEvent, Int.toNat_natCast]
        refine ⟨⟨by omega, by omega⟩, ⟨by omega, by omega⟩, ⟨VLe.refl _, VLe.refl _, hel _ hin _⟩, fun h2 => ?_, fun h2 => ⟨inK64 (by omega), i + 1, SLe.refl _, ⟨by omega, hlen, fun j h3 => ?_⟩, by omega⟩⟩
        · refine vle_bool ?_
          have hne : xs ≠ ys := fun e => by subst e; simp at h2
          simp [hne]
        · rcases Nat.lt_or_ge j i with h4 | h4
          · exact hj j h4
          · have : j = i := by omega
            subst this
            simpa using h2
      · refine vle_bool ?_
        have hge : i = xs.length := by simp at h; omega
        have heq : xs = ys := by
          refine List.ext_getElem hlen fun k h1 h2 => ?_
          have := hj k (by omega)
          simpa [h1, h2] using this
        simp [heq]
  exact Eq.mp (by kernel_rfl) key
theorem so61 : Sound Tryd.prog 61 sp61 := by
  refine sound_of_body hmix (pol := 0) Tryd.func61 rfl (by kernel_rfl) fun args bin ob r bout hDe hob => ?_
  unfold sp61 at hDe
  split at hDe
  · rename_i a0 a1
    cases hDe
    exact ⟨rfl, rfl, Nat.le_of_ble_eq_true (by kernel_rfl), cx61 ((decL decTEvent) a0) ((decL decTEvent) a1), Eq.mp (by kernel_rfl) htt, Eq.mp (by kernel_rfl) da61, Eq.mp (by kernel_rfl) (noM_sound (P := Tryd.prog)), by kernel_rfl, [encL (encTEvent 1) 1 (((decL decTEvent) a0)), encL (encTEvent 1) 1 (((decL decTEvent) a1))], args_of_vles (⟨hob.1, hob.2.1, trivial⟩), Eq.mp (by kernel_rfl) (bd61 ((decL decTEvent) a0) ((decL decTEvent) a1) (hob.2.2))⟩
  · cases hDe

/-! ### laws.eqWatchResult -/
def pr25 (a : WatchResult) (b : WatchResult) : Prop := a.watches.length ≤ maxLen ∧ a.events.length ≤ maxLen
noncomputable def rs25 (a : WatchResult) (b : WatchResult) : V := .bool (decide (a = b))
noncomputable def sp25 : FSpec := fun args bin => match args, bin with
  | [a0, a1], [] => some (VLe a0 (encWatchResult 1 ((decWatchResult a0))) ∧ VLe a1 (encWatchResult 1 ((decWatchResult a1))) ∧ pr25 (decWatchResult a0) (decWatchResult a1), rs25 (decWatchResult a0) (decWatchResult a1), [])
  | _, _ => none
noncomputable def D25 : Nat → Option (Bool × FSpec) := lk [(15, (false, sp15)), (61, (false, sp61))]
theorem da25 : SoundAll Tryd.prog D25 := soundAll_cons so15 (soundAll_cons so61 (soundAll_nil))
noncomputable def cx25 (a : WatchResult) (b : WatchResult) : Cx := ⟨tt, D25, Tryd.f25.ntmps, [0, 1, 2, 3, 4, 9, 15, 21], [], [], fun _ => none, [], noM, []⟩
theorem bd25 (a : WatchResult) (b : WatchResult) (hpre : pr25 a b) : bodyP (cx25 a b) Tryd.f25 0 [encWatchResult 1 (a), encWatchResult 1 (b)] (fun rr => VLe rr (rs25 a b)) := by
  have key :
      ((((WatchResult.code a != WatchResult.code b) = true) →
   (VLe (V.bool false) (V.bool (decide (a = b))))) ∧
   (((WatchResult.code a != WatchResult.code b) = false) →
   (((VLe (encL (encWatch 1) 1 (WatchResult.watches a))
   (encL (encWatch 1) 1 (decL decWatch (encL (encWatch 1) 1 (WatchResult.watches a))))) ∧
   ((VLe (encL (encWatch 1) 1 (WatchResult.watches b))
   (encL (encWatch 1) 1 (decL decWatch (encL (encWatch 1) 1 (WatchResult.watches b))))) ∧
   (pr15 (decL decWatch (encL (encWatch 1) 1 (WatchResult.watches a)))
   (decL decWatch (encL (encWatch 1) 1 (WatchResult.watches b)))))) ∧
   ((((!decide
   (decL decWatch (encL (encWatch 1) 1 (WatchResult.watches a)) =
   decL decWatch (encL (encWatch 1) 1 (WatchResult.watches b)))) =
   true) →
   (VLe (V.bool false) (V.bool (decide (a = b))))) ∧
   (((!decide
   (decL decWatch (encL (encWatch 1) 1 (WatchResult.watches a)) =
   decL decWatch (encL (encWatch 1) 1 (WatchResult.watches b)))) =
   false) →
   (((VLe (encL (encTEvent 1) 1 (WatchResult.events a))
   (encL (encTEvent 1) 1 (decL decTEvent (encL (encTEvent 1) 1 (WatchResult.events a))))) ∧
   ((VLe (encL (encTEvent 1) 1 (WatchResult.events b))
   (encL (encTEvent 1) 1 (decL decTEvent (encL (encTEvent 1) 1 (WatchResult.events b))))) ∧
   (pr61 (decL decTEvent (encL (encTEvent 1) 1 (WatchResult.events a)))
   (decL decTEvent (encL (encTEvent 1) 1 (WatchResult.events b)))))) ∧
   ((((!decide
   (decL decTEvent (encL (encTEvent 1) 1 (WatchResult.events a)) =
   decL decTEvent (encL (encTEvent 1) 1 (WatchResult.events b)))) =
   true) →
   (VLe (V.bool false) (V.bool (decide (a = b))))) ∧
   (((!decide
   (decL decTEvent (encL (encTEvent 1) 1 (WatchResult.events a)) =
   decL decTEvent (encL (encTEvent 1) 1 (WatchResult.events b)))) =
   false) →
   (VLe (V.bool true) (V.bool (decide (a = b)))))))))))) := by
    obtain ⟨p1, p2⟩ := hpre
    simp only [decL_Watch, decL_TEvent]
    refine ⟨fun h => vle_bool ?_, fun h => ⟨⟨VLe.refl _, VLe.refl _, p1, fun _ _ _ => trivial⟩, fun h2 => vle_bool ?_, fun h2 => ⟨⟨VLe.refl _, VLe.refl _, p2, fun _ _ _ => trivial⟩, fun h3 => vle_bool ?_, fun h3 => vle_bool ?_⟩⟩⟩
    · have : a ≠ b := fun e => by subst e; simp at h
      simp [this]
    · have : a ≠ b := fun e => by subst e; simp at h2
      simp [this]
    · have : a ≠ b := fun e => by subst e; simp at h3
      simp [this]
    · have h1 : a.code = b.code := by simpa using h
      have h4 : a.watches = b.watches := by simpa using h2
      have h5 : a.events = b.events := by simpa using h3
      simp [eq_WatchResult, h1, h4, h5]
  exact Eq.mp (by kernel_rfl) key
theorem so25 : Sound Tryd.prog 25 sp25 := by
  refine sound_of_body hmix (pol := 0) Tryd.func25 rfl (by kernel_rfl) fun args bin ob r bout hDe hob => ?_
  unfold sp25 at hDe
  split at hDe
  · rename_i a0 a1
    cases hDe
    exact ⟨rfl, rfl, Nat.le_of_ble_eq_true (by kernel_rfl), cx25 (decWatchResult a0) (decWatchResult a1), Eq.mp (by kernel_rfl) htt, Eq.mp (by kernel_rfl) da25, Eq.mp (by kernel_rfl) (noM_sound (P := Tryd.prog)), by kernel_rfl, [encWatchResult 1 ((decWatchResult a0)), encWatchResult 1 ((decWatchResult a1))], args_of_vles (⟨hob.1, hob.2.1, trivial⟩), Eq.mp (by kernel_rfl) (bd25 (decWatchResult a0) (decWatchResult a1) (hob.2.2))⟩
  · cases hDe

end Go.Av
