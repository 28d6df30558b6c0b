/- Marks with texts: functions that write numbers and their texts into watches and events. -/
import Derived.Test.YtgefdljcommhhaaGreatDoorW1
namespace Go.Av
open Go.Proofs
set_option maxRecDepth 100000
set_option maxHeartbeats 2000000
set_option linter.unusedVariables false
set_option linter.unusedSimpArgs false

theorem inU8' {n : Int} (h : 0 ≤ n ∧ n ≤ 255) : inK .u8 n := Go.IntWalk.u8_in _ h
/-- The text of a number, digit by digit. -/
def digM (n : Int) : ByteArray := bytesV 1 (rowg [.int .u8 (48 + n)])
theorem digM_size (n : Int) : (digM n).size = 1 := rfl
def mtA (k : Nat) (out : ByteArray) : ByteArray := if h : 0 < k then mtA (k / 10) (digM ((k : Int).tmod 10) ++ out) else out
termination_by k
decreasing_by omega
noncomputable def mtF (k : Int) : ByteArray := (⟨#[109]⟩ : ByteArray) ++ mtA k.toNat ⟨#[]⟩
noncomputable def markW (k : Int) (n : Nat) : List Watch := (List.range n).map fun i : Nat => ⟨k + 2 * i, mtF (k + 2 * i + 1)⟩
@[simp] theorem markW_len (k : Int) (n : Nat) : (markW k n).length = n := by simp [markW]
theorem markW_get (k : Int) (n i : Nat) (h : i < n) : (markW k n).getD i default = ⟨k + 2 * i, mtF (k + 2 * i + 1)⟩ := by simp [markW, h]
noncomputable def markE (k : Int) (n : Nat) : List TEvent := (List.range n).map fun i : Nat => ⟨k + 3 * i, mtF (k + 3 * i + 1), k + 3 * i + 2⟩
@[simp] theorem markE_len (k : Int) (n : Nat) : (markE k n).length = n := by simp [markE]
theorem markE_get (k : Int) (n i : Nat) (h : i < n) : (markE k n).getD i default = ⟨k + 3 * i, mtF (k + 3 * i + 1), k + 3 * i + 2⟩ := by simp [markE, h]
theorem SLe.refl' {s s' : AS} (h : s = s') : SLe s s' := h ▸ SLe.refl s
theorem eq_of_getD {α : Type} [Inhabited α] {xs ys : List α} (hl : xs.length = ys.length) (h : ∀ j, j < xs.length → xs.getD j default = ys.getD j default) : xs = ys := by
  refine List.ext_getElem hl fun k h1 h2 => ?_
  have := h k h1
  simpa [h1, h2] using this

theorem tdiv10 (n : Nat) : ((n : Int)).tdiv 10 = ((n / 10 : Nat) : Int) := rfl
theorem tmod10 (n : Nat) : ((n : Int)).tmod 10 = ((n % 10 : Nat) : Int) := rfl
theorem mtA_step {k : Nat} {out : ByteArray} (h : 0 < k) : mtA k out = mtA (k / 10) (digM ((k : Int).tmod 10) ++ out) := by
  rw [mtA, dif_pos h]
theorem mtA_zero {out : ByteArray} : mtA 0 out = out := by rw [mtA]; simp
/-- One element written anew, cell by cell. -/
theorem ble_setc {α : Type} [Inhabited α] {enc : α → V} {sz n i te : Nat} {xs : List α} {g : Nat → V} {x : α} (hi : i < xs.length) (h : ELe (g i) (enc x)) (ho : ∀ j, j ≠ i → g j = gL enc xs j) :
    BLe (.arr sz n g te) (.arr sz n (gL enc (xs.set i x)) te) := by
  refine ble_arr (fun k hk => ?_) (Or.inl rfl)
  by_cases e : k = i
  · subst e
    simp only [gL]
    rw [getD_set_eq _ _ _ _ hi]
    exact h
  · rw [ho k e]
    simp only [gL]
    rw [getD_set_ne _ _ _ _ e]
    exact ELe.refl _
theorem getD_set_if {α : Type} [Inhabited α] {xs : List α} {i j : Nat} {x : α} {f : Nat → α} (hi : i < xs.length) (hj : ∀ j, j < i → xs.getD j default = f j) (hx : x = f i) (h : j < i + 1) : (xs.set i x).getD j default = f j := by
  by_cases e : j = i
  · subst e; rw [getD_set_eq _ _ _ _ hi, hx]
  · rw [getD_set_ne _ _ _ _ e]; exact hj j (by omega)


/-- What is told of rows that are held against their marks. -/
noncomputable def heldW (xs : List Watch) (k : Int) : Int := if xs = markW k xs.length then k + 2 * xs.length else -1
noncomputable def heldE (xs : List TEvent) (k : Int) : Int := if xs = markE k xs.length then k + 3 * xs.length else -1
noncomputable def heldR (r : WatchResult) (k : Int) : Int := if r.watches = markW k r.watches.length ∧ r.events = markE (k + 2 * r.watches.length) r.events.length then k + 2 * r.watches.length + 3 * r.events.length else -1
theorem decL_markW (k : Int) (n t : Nat) : decL decWatch (.sl n (gL (encWatch 1) (markW k n)) t) = markW k n := by
  have h := decL_encL (dec_encWatch 1) t (markW k n)
  unfold encL at h
  rwa [markW_len] at h
theorem vle_markW (k : Int) (n t : Nat) : VLe (.sl n (gL (encWatch 1) (markW k n)) t) (encL (encWatch 1) t (markW k n)) := by
  unfold encL
  rw [markW_len]
  exact VLe.refl _
theorem decL_markE (k : Int) (n t : Nat) : decL decTEvent (.sl n (gL (encTEvent 1) (markE k n)) t) = markE k n := by
  have h := decL_encL (dec_encTEvent 1) t (markE k n)
  unfold encL at h
  rwa [markE_len] at h
theorem vle_markE (k : Int) (n t : Nat) : VLe (.sl n (gL (encTEvent 1) (markE k n)) t) (encL (encTEvent 1) t (markE k n)) := by
  unfold encL
  rw [markE_len]
  exact VLe.refl _
theorem dec_markR (c k k' : Int) (n m : Nat) : decWatchResult (.agg [.int .i64 c, .sl n (gL (encWatch 1) (markW k n)) 1, .sl m (gL (encTEvent 1) (markE k' m)) 1]) = ⟨c, markW k n, markE k' m⟩ := by
  show (⟨c, decL decWatch (.sl n (gL (encWatch 1) (markW k n)) 1), decL decTEvent (.sl m (gL (encTEvent 1) (markE k' m)) 1)⟩ : WatchResult) = _
  rw [decL_markW, decL_markE]
theorem vle_markR (c k k' : Int) (n m : Nat) : VLe (.agg [.int .i64 c, .sl n (gL (encWatch 1) (markW k n)) 1, .sl m (gL (encTEvent 1) (markE k' m)) 1]) (encWatchResult 1 ⟨c, markW k n, markE k' m⟩) := vle_agg ⟨VLe.refl _, vle_markW k n 1, vle_markE k' m 1, trivial⟩
theorem heldR_mark (c k : Int) (n m : Nat) : heldR ⟨c, markW k n, markE (k + 2 * n) m⟩ k = k + 2 * n + 3 * m := by simp [heldR]

end Go.Av
