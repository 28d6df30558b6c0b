/- What a message, a ledger are: plain functions on typed data, without a program. -/
import Derived.Test.YtakcaanpnmkccaaGreatC2
namespace Go.Av

def okF (f : Int) : Prop := f = 1 ∨ f = 2
def inR (n lo hi : Int) : Prop := lo ≤ n ∧ n ≤ hi
instance (n lo hi : Int) : Decidable (inR n lo hi) := inferInstanceAs (Decidable (_ ∧ _))
instance (f : Int) : Decidable (okF f) := inferInstanceAs (Decidable (_ ∨ _))

def bare (m : Msg) : Prop := inR m.kind 1 5 ∧ (inR m.kind 1 3 ∨ (m.slot = 0 ∧ m.value = 0)) ∧ (m.kind = 4 ∨ m.certs.length = 0) ∧ (m.kind = 5 ∨ m.refs.length = 0)
def ranged (f : Int) (m : Msg) : Prop := inR m.view 0 20 ∧ inR m.sender 1 (3 * f + 1) ∧ (inR m.kind 1 3 → inR m.slot 1 30 ∧ inR m.value 0 12)
def few (f : Int) (m : Msg) : Prop := m.certs.length ≤ 30 ∧ (m.refs.length : Int) ≤ 3 * f + 1
def riseC (cs : List Cert) : Prop := ∀ i, 1 ≤ i → i < cs.length → (cs.getD (i - 1) default).slot < (cs.getD i default).slot
def riseR (rs : List Int) : Prop := ∀ i, 1 ≤ i → i < rs.length → rs.getD (i - 1) default < rs.getD i default
def goodC (m : Msg) (c : Cert) : Prop := inR c.slot 1 30 ∧ inR c.view 0 (m.view - 1) ∧ inR c.value 0 12
def goodR (r : Int) : Prop := inR r 0 239

noncomputable instance (m : Msg) : Decidable (bare m) := Classical.propDecidable _
noncomputable instance (f : Int) (m : Msg) : Decidable (ranged f m) := Classical.propDecidable _
noncomputable instance (f : Int) (m : Msg) : Decidable (few f m) := Classical.propDecidable _
noncomputable instance (l : List Cert) : Decidable (riseC l) := Classical.propDecidable _
noncomputable instance (l : List Int) : Decidable (riseR l) := Classical.propDecidable _
noncomputable instance (m : Msg) (c : Cert) : Decidable (goodC m c) := Classical.propDecidable _
noncomputable instance (r : Int) : Decidable (goodR r) := Classical.propDecidable _

noncomputable def listsFault (m : Msg) : Int :=
  if ¬ (riseC m.certs ∧ riseR m.refs) then 1
  else if ¬ ((∀ c ∈ m.certs, goodC m c) ∧ ∀ r ∈ m.refs, goodR r) then 3 else 0

noncomputable def msgFault (f : Int) (m : Msg) : Int :=
  if ¬ bare m then 1 else if ¬ ranged f m then 3 else if ¬ few f m then 2 else listsFault m

/-- The first place of which something is so; -1: there is none. -/
def idxF {α : Type} (q : α → Bool) (xs : List α) : Int := match xs.findIdx? q with
  | some i => i
  | none => -1

theorem idxF_none {α : Type} [Inhabited α] {q : α → Bool} {xs : List α} (h : ∀ j, j < xs.length → q (xs.getD j default) = false) : idxF q xs = -1 := by
  unfold idxF
  have : xs.findIdx? q = none := by
    rw [List.findIdx?_eq_none_iff]
    intro x hx
    obtain ⟨j, hj, rfl⟩ := List.getElem_of_mem hx
    have := h j hj
    simpa [hj] using this
  rw [this]

theorem idxF_some {α : Type} [Inhabited α] {q : α → Bool} {xs : List α} {i : Nat} (hi : i < xs.length) (h : ∀ j, j < i → q (xs.getD j default) = false) (hq : q (xs.getD i default) = true) : idxF q xs = i := by
  unfold idxF
  have : xs.findIdx? q = some i := by
    rw [List.findIdx?_eq_some_iff_getElem]
    refine ⟨hi, by simpa [hi] using hq, fun j hj => ?_⟩
    have := h j hj
    have hjl : j < xs.length := by omega
    simpa [hjl] using this
  rw [this]

theorem idxF_nonneg {α : Type} (q : α → Bool) (xs : List α) : decide (0 ≤ idxF q xs) = xs.any q := by
  unfold idxF
  cases h : xs.findIdx? q with
  | none =>
    rw [List.findIdx?_eq_none_iff] at h
    have : xs.any q = false := by rw [List.any_eq_false]; intro x hx; simp [h x hx]
    simp [this]
  | some i =>
    obtain ⟨hi, hp, _⟩ := List.findIdx?_eq_some_iff_getElem.1 h
    have : xs.any q = true := List.any_eq_true.2 ⟨xs[i], List.getElem_mem hi, hp⟩
    simp [this]

/-- The place of a message; -1 if it is not there. -/
noncomputable def msgAt (l : List Msg) (m : Msg) : Int := idxF (fun x => decide (x = m)) l

def refsBelow (m : Msg) (n : Int) : Prop := ∀ r ∈ m.refs, r < n
noncomputable instance (m : Msg) (n : Int) : Decidable (refsBelow m n) := Classical.propDecidable _

/-- The first fault from a place on. -/
def firstFault (e : Nat → Int) : Nat → Nat → Int
  | _, 0 => 0
  | i, n + 1 => if e i = 0 then firstFault e (i + 1) n else e i

noncomputable def entryFault (f : Int) (l : List Msg) (i : Nat) : Int :=
  if msgFault f (l.getD i default) ≠ 0 then msgFault f (l.getD i default)
  else if ¬ refsBelow (l.getD i default) i then 4
  else if (l.getD i default) ∈ l.take i then 6 else 0

noncomputable def ledgerFault (f : Int) (l : List Msg) : Int :=
  if ¬ okF f then 3 else if 240 < l.length then 2 else firstFault (entryFault f l) 0 l.length

theorem firstFault_zero {e : Nat → Int} : ∀ {n i : Nat}, firstFault e i n = 0 → ∀ j, i ≤ j → j < i + n → e j = 0
  | 0, i, _, j, h1, h2 => by omega
  | n + 1, i, h, j, h1, h2 => by
    simp only [firstFault] at h
    split at h
    · rename_i h0
      rcases Nat.eq_or_lt_of_le h1 with rfl | h3
      · exact h0
      · exact firstFault_zero h j h3 (by omega)
    · exact absurd h (by assumption)

/-- What a right ledger is. -/
structure Right (f : Int) (l : List Msg) : Prop where
  okf : okF f
  len : l.length ≤ 240
  entry : ∀ i, i < l.length → entryFault f l i = 0

theorem right_of {f : Int} {l : List Msg} (h : ledgerFault f l = 0) : Right f l := by
  unfold ledgerFault at h
  split at h
  · omega
  · rename_i h1
    split at h
    · omega
    · rename_i h2
      exact ⟨Classical.not_not.1 h1, by omega, fun i hi => firstFault_zero h i (by omega) (by omega)⟩

theorem entry_msg {f : Int} {l : List Msg} {i : Nat} (h : entryFault f l i = 0) : msgFault f (l.getD i default) = 0 ∧ refsBelow (l.getD i default) i ∧ (l.getD i default) ∉ l.take i := by
  unfold entryFault at h
  split at h
  · contradiction
  · rename_i h1
    split at h
    · omega
    · rename_i h2
      split at h
      · omega
      · rename_i h3
        exact ⟨Classical.not_not.1 h1, Classical.not_not.1 h2, h3⟩

theorem msgAt_nonneg {l : List Msg} {m : Msg} : 0 ≤ msgAt l m ↔ m ∈ l := by
  have := idxF_nonneg (fun x => decide (x = m)) l
  have h2 : decide (0 ≤ msgAt l m) = true ↔ m ∈ l := by
    unfold msgAt
    rw [this, List.any_eq_true]
    constructor
    · rintro ⟨x, hx, he⟩
      have : x = m := by simpa using he
      exact this ▸ hx
    · intro h
      exact ⟨m, h, by simp⟩
  rw [← h2]
  simp

end Go.Av
