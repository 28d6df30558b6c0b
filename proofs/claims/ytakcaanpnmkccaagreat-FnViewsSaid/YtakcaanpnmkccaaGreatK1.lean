/- Marks: functions that write numbers into what a call told, and into what it was handed. -/
import Derived.Test.YtakcaanpnmkccaaGreatE5
namespace Go.Av
open Go.Proofs
set_option maxRecDepth 100000
set_option linter.unusedVariables false
set_option linter.unusedSimpArgs false

/-- The numbers that a row of so many is marked with. -/
def markI (k : Int) (n : Nat) : List Int := (List.range n).map fun i : Nat => k + i
@[simp] theorem markI_len (k : Int) (n : Nat) : (markI k n).length = n := by simp [markI]
theorem markI_get (k : Int) (n i : Nat) (h : i < n) : (markI k n).getD i default = k + i := by simp [markI, h]
def markC (k : Int) (n : Nat) : List Cert := (List.range n).map fun i : Nat => ⟨k + 3 * i, k + 3 * i + 1, k + 3 * i + 2⟩
@[simp] theorem markC_len (k : Int) (n : Nat) : (markC k n).length = n := by simp [markC]
theorem markC_get (k : Int) (n i : Nat) (h : i < n) : (markC k n).getD i default = ⟨k + 3 * i, k + 3 * i + 1, k + 3 * i + 2⟩ := by simp [markC, h]
/-- How many numbers a message holds. -/
def cntM (m : Msg) : Int := 5 + 3 * m.certs.length + m.refs.length
def cntL (l : List Msg) (i : Nat) : Int := ((l.take i).map cntM).sum
theorem cntL_succ {l : List Msg} {i : Nat} (h : i < l.length) : cntL l (i + 1) = cntL l i + cntM (l.getD i default) := by
  unfold cntL
  rw [List.take_add_one, List.map_append, List.sum_append]
  simp [h]
theorem cntM_nonneg (m : Msg) : 0 ≤ cntM m := by unfold cntM; omega
theorem sum_nonneg' : ∀ (l : List Int), (∀ x ∈ l, 0 ≤ x) → 0 ≤ l.sum
  | [], _ => by simp
  | x :: r, h => by
    have h1 := h x (by simp)
    have h2 := sum_nonneg' r fun y hy => h y (List.mem_cons_of_mem _ hy)
    simp only [List.sum_cons]
    omega
theorem cntL_nonneg (l : List Msg) (i : Nat) : 0 ≤ cntL l i := sum_nonneg' _ fun x hx => by
  obtain ⟨m, _, rfl⟩ := List.mem_map.1 hx
  exact cntM_nonneg m
theorem cntL_mono (l : List Msg) (i : Nat) : cntL l i ≤ cntL l l.length := by
  unfold cntL
  have h1 : l.take l.length = l.take i ++ l.drop i := by rw [List.take_append_drop, List.take_length]
  rw [h1, List.map_append, List.sum_append]
  have := sum_nonneg' ((l.drop i).map cntM) fun x hx => by
    obtain ⟨m, _, rfl⟩ := List.mem_map.1 hx
    exact cntM_nonneg m
  omega

theorem SLe.refl' {s s' : AS} (h : s = s') : SLe s s' := h ▸ SLe.refl s
/-- One element written anew. -/
theorem ble_set {α : Type} [Inhabited α] {enc : α → V} {sz n i te : Nat} {xs : List α} {v : V} {x : α} (hi : i < xs.length) (h : ELe v (enc x)) :
    BLe (.arr sz n (setg (gL enc xs) i v) te) (.arr sz n (gL enc (xs.set i x)) te) := by
  refine ble_arr (fun k hk => ?_) (Or.inl rfl)
  simp only [setg, gL]
  by_cases e : k = i
  · subst e
    rw [if_pos rfl, getD_set_eq _ _ _ _ hi]
    exact h
  · rw [if_neg e, getD_set_ne _ _ _ _ e]
    exact ELe.refl _


/-- What is told of a row that is held against its marks. -/
def heldI (xs : List Int) (k : Int) : Int := if xs = markI k xs.length then k + xs.length else -1
noncomputable def heldC (xs : List Cert) (k : Int) : Int := if xs = markC k xs.length then k + 3 * xs.length else -1
theorem heldI_mark (k : Int) (n : Nat) : heldI (markI k n) k = k + n := by simp [heldI]
theorem heldC_mark (k : Int) (n : Nat) : heldC (markC k n) k = k + 3 * n := by simp [heldC]
theorem eq_of_getD {α : Type} [Inhabited α] {xs ys : List α} (hl : xs.length = ys.length) (h : ∀ j, j < xs.length → xs.getD j default = ys.getD j default) : xs = ys := by
  refine List.ext_getElem hl fun k h1 h2 => ?_
  have := h k h1
  simpa [h1, h2] using this

/-! ### Marked rows as values -/
theorem decL_markI (k : Int) (n t : Nat) : decL decI (.sl n (gL encI (markI k n)) t) = markI k n := by
  have h := decL_encL decI_encI t (markI k n)
  unfold encL at h
  rwa [markI_len] at h
theorem vle_markI (k : Int) (n t : Nat) : VLe (.sl n (gL encI (markI k n)) t) (encL encI t (markI k n)) := by
  unfold encL
  rw [markI_len]
  exact VLe.refl _
theorem decL_markC (k : Int) (n t : Nat) : decL decCert (.sl n (gL (encCert 1) (markC k n)) t) = markC k n := by
  have h := decL_encL (dec_encCert 1) t (markC k n)
  unfold encL at h
  rwa [markC_len] at h
theorem vle_markC (k : Int) (n t : Nat) : VLe (.sl n (gL (encCert 1) (markC k n)) t) (encL (encCert 1) t (markC k n)) := by
  unfold encL
  rw [markC_len]
  exact VLe.refl _
theorem dec_markInts (c k : Int) (n : Nat) : decIntsResult (.agg [.int .i64 c, .sl n (gL encI (markI k n)) 1]) = ⟨c, markI k n⟩ := by
  show (⟨c, decL decI (.sl n (gL encI (markI k n)) 1)⟩ : IntsResult) = _
  rw [decL_markI]
theorem vle_markInts (c k : Int) (n : Nat) : VLe (.agg [.int .i64 c, .sl n (gL encI (markI k n)) 1]) (encIntsResult 1 ⟨c, markI k n⟩) := vle_agg ⟨VLe.refl _, vle_markI k n 1, trivial⟩
theorem dec_markCerts (c k : Int) (n : Nat) : decCertsResult (.agg [.int .i64 c, .sl n (gL (encCert 1) (markC k n)) 1]) = ⟨c, markC k n⟩ := by
  show (⟨c, decL decCert (.sl n (gL (encCert 1) (markC k n)) 1)⟩ : CertsResult) = _
  rw [decL_markC]
theorem vle_markCerts (c k : Int) (n : Nat) : VLe (.agg [.int .i64 c, .sl n (gL (encCert 1) (markC k n)) 1]) (encCertsResult 1 ⟨c, markC k n⟩) := vle_agg ⟨VLe.refl _, vle_markC k n 1, trivial⟩
/-- What the bound on the arguments gives for marks. -/
theorem cntL_le {l : List Msg} {n : Nat} (hl : l.length ≤ n) (h : ∀ x ∈ l, x.certs.length ≤ n ∧ x.refs.length ≤ n) : cntL l l.length ≤ (l.length : Int) * (5 + 4 * n) := by
  unfold cntL
  rw [List.take_length]
  clear hl
  induction l with
  | nil => simp
  | cons x r ih =>
    have h1 := h x (by simp)
    have h2 := ih fun y hy => h y (List.mem_cons_of_mem _ hy)
    have h3 : cntM x ≤ 5 + 4 * (n : Int) := by unfold cntM; omega
    simp only [List.map_cons, List.sum_cons, List.length_cons]
    rw [Int.natCast_add, Int.add_mul]
    omega

theorem heldI_cases (xs : List Int) (k : Int) : heldI xs k = k + xs.length ∨ heldI xs k = -1 := by unfold heldI; split <;> simp
theorem heldC_cases (xs : List Cert) (k : Int) : heldC xs k = k + 3 * xs.length ∨ heldC xs k = -1 := by unfold heldC; split <;> simp

end Go.Av
