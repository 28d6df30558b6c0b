/- Trees, plainly. -/
import Derived.Test.YtgefdljcommhhaaGreatDoorP1
namespace Go.Av
set_option linter.unusedVariables false
set_option linter.unusedSimpArgs false


/-- The first place of which something is so; -1: there is none. -/
def idxF {α : Type} (q : α → Bool) (xs : List α) : Int := match xs.findIdx? q with
  | some i => i
  | none => -1

theorem idxF_none {α : Type} [Inhabited α] {q : α → Bool} {xs : List α} (h : ∀ j, j < xs.length → q (xs.getD j default) = false) : idxF q xs = -1 := by
  unfold idxF
  have : xs.findIdx? q = none := by
    rw [List.findIdx?_eq_none_iff]
    intro x hx
    obtain ⟨j, hj, rfl⟩ := List.getElem_of_mem hx
    have := h j hj
    simpa [hj] using this
  rw [this]

theorem idxF_some {α : Type} [Inhabited α] {q : α → Bool} {xs : List α} {i : Nat} (hi : i < xs.length) (h : ∀ j, j < i → q (xs.getD j default) = false) (hq : q (xs.getD i default) = true) : idxF q xs = i := by
  unfold idxF
  have : xs.findIdx? q = some i := by
    rw [List.findIdx?_eq_some_iff_getElem]
    refine ⟨hi, by simpa [hi] using hq, fun j hj => ?_⟩
    have := h j hj
    have hjl : j < xs.length := by omega
    simpa [hjl] using this
  rw [this]

theorem idxF_nonneg {α : Type} (q : α → Bool) (xs : List α) : decide (0 ≤ idxF q xs) = xs.any q := by
  unfold idxF
  cases h : xs.findIdx? q with
  | none =>
    rw [List.findIdx?_eq_none_iff] at h
    have : xs.any q = false := by rw [List.any_eq_false]; intro x hx; simp [h x hx]
    simp [this]
  | some i =>
    obtain ⟨hi, hp, _⟩ := List.findIdx?_eq_some_iff_getElem.1 h
    have : xs.any q = true := List.any_eq_true.2 ⟨xs[i], List.getElem_mem hi, hp⟩
    simp [this]

theorem idxF_pre {α : Type} [Inhabited α] {q : α → Bool} {xs : List α} {i : Nat} (h : idxF q xs = (i : Int)) : i < xs.length ∧ q (xs.getD i default) = true ∧ ∀ j, j < i → q (xs.getD j default) = false := by
  unfold idxF at h
  cases hf : xs.findIdx? q with
  | none =>
    rw [hf] at h
    exact absurd (show (-1 : Int) = i from h) (by omega)
  | some k =>
    rw [hf] at h
    have hk : k = i := by
      have : (k : Int) = i := h
      omega
    subst hk
    obtain ⟨h1, h2, h3⟩ := List.findIdx?_eq_some_iff_getElem.1 hf
    refine ⟨h1, by simpa [h1] using h2, fun j hj => ?_⟩
    have hjl : j < xs.length := by omega
    have := h3 j hj
    simpa [hjl] using this
theorem idxF_ge {α : Type} (q : α → Bool) (xs : List α) : -1 ≤ idxF q xs := by
  unfold idxF
  split <;> omega
/-- The first that is not 0. -/
def scanE (e : Nat → Int) : Nat → Int
  | 0 => 0
  | n + 1 => if scanE e n ≠ 0 then scanE e n else e n
theorem scanE_stop {e : Nat → Int} {i : Nat} (h : scanE e i = 0) (hi : e i ≠ 0) : ∀ n, i < n → scanE e n = e i
  | 0, g => by omega
  | n + 1, g => by
    unfold scanE
    by_cases c : i = n
    · subst c; rw [if_neg (by simpa using h)]
    · have := scanE_stop h hi n (by omega)
      rw [this, if_pos hi]
theorem scanE_next {e : Nat → Int} {i : Nat} (h : scanE e i = 0) (hi : e i = 0) : scanE e (i + 1) = 0 := by
  unfold scanE; rw [if_neg (by simpa using h), hi]
theorem scanE_all {e : Nat → Int} : ∀ {n : Nat}, scanE e n = 0 → ∀ i, i < n → e i = 0
  | 0, _, i, h => by omega
  | n + 1, h, i, hi => by
    unfold scanE at h
    split at h
    · rename_i c; exact absurd h c
    · rename_i c
      by_cases e1 : i = n
      · subst e1; exact h
      · exact scanE_all (Classical.not_not.1 c) i (by omega)

/-- A size that is taken off what is left. -/
def szLen (n : Nat) (left : Int) : Int := if left - n < 0 then -1 else left - n
theorem szLen_le (n : Nat) (left : Int) : szLen n left ≤ left ∨ szLen n left < 0 := by unfold szLen; split <;> omega
theorem szLen_bd {n : Nat} {left : Int} (h : ¬ szLen n left < 0) : (n : Int) ≤ left := by unfold szLen at h; split at h <;> omega
def szA {α : Type} (f : α → Int → Int) : List α → Int → Int
  | [], v => v
  | x :: r, v => if f x v < 0 then -1 else szA f r (f x v)
def szS {α : Type} (f : α → Int → Int) (xs : List α) (left : Int) : Int := if left - xs.length < 0 then -1 else szA f xs (left - xs.length)
theorem szS_neg {α : Type} {f : α → Int → Int} {xs : List α} {left : Int} (h : left - xs.length < 0) : szS f xs left = -1 := if_pos h
theorem szS_pos {α : Type} {f : α → Int → Int} {xs : List α} {left : Int} (h : ¬ left - xs.length < 0) : szS f xs left = szA f (xs.drop 0) (left - xs.length) := if_neg h
theorem szA_drop {α : Type} [Inhabited α] (f : α → Int → Int) {xs : List α} {i : Nat} (h : i < xs.length) (v : Int) : szA f (xs.drop i) v = if f (xs.getD i default) v < 0 then -1 else szA f (xs.drop (i + 1)) (f (xs.getD i default) v) := by
  have e : xs.getD i default = xs[i] := by simp [h]
  rw [List.drop_eq_getElem_cons h, e]
  rfl
theorem szS_bd {α : Type} {f : α → Int → Int} {xs : List α} {left : Int} (h : ¬ szS f xs left < 0) : (xs.length : Int) ≤ left := by
  unfold szS at h
  split at h <;> omega

section
variable {α : Type} [Inhabited α]
/-- How many stand ahead of the first that the test refuses. -/
def posG (p : α → Bool) : List α → Nat
  | [] => 0
  | x :: r => if p x = true then posG p r + 1 else 0
theorem posG_eq {p : α → Bool} : ∀ {l : List α} {i : Nat}, i ≤ l.length → (∀ k, k < i → p (l.getD k default) = true) → (i < l.length → p (l.getD i default) = false) → posG p l = i
  | [], i, hi, _, _ => by simp at hi; simp [posG, hi]
  | x :: r, 0, _, _, h => by
    have := h (by simp)
    simp at this
    simp [posG, this]
  | x :: r, i + 1, hi, h1, h2 => by
    have h0 := h1 0 (by omega)
    simp at h0
    have := posG_eq (l := r) (i := i) (by simpa using hi) (fun k hk => by simpa using h1 (k + 1) (by omega)) (fun hk => by simpa using h2 (by simpa using hk))
    simp [posG, h0, this]
omit [Inhabited α] in
theorem posG_le {p : α → Bool} : ∀ {l : List α}, posG p l ≤ l.length
  | [] => by simp [posG]
  | x :: r => by unfold posG; split <;> simp [posG_le (l := r)]
theorem posG_lt {p : α → Bool} : ∀ {l : List α} {k : Nat}, k < posG p l → p (l.getD k default) = true
  | [], k, h => by simp [posG] at h
  | x :: r, 0, h => by
    unfold posG at h
    split at h
    · rename_i c; simpa using c
    · omega
  | x :: r, k + 1, h => by
    unfold posG at h
    split at h
    · simpa using posG_lt (l := r) (k := k) (by omega)
    · omega
theorem posG_at {p : α → Bool} : ∀ {l : List α}, posG p l < l.length → p (l.getD (posG p l) default) = false
  | [], h => by simp at h
  | x :: r, h => by
    unfold posG at h ⊢
    split
    · rename_i c
      rw [if_pos c] at h
      simpa using posG_at (l := r) (by simpa using h)
    · rename_i c
      simpa using c
end

noncomputable def nodeF (z : Znode) : Int :=
  if pathF z.path ≠ 0 then pathF z.path else if ¬ (inR z.data 0 9999 ∧ inR z.version 0 999 ∧ inR z.owner 0 9 ∧ inR z.next 0 100) then 3 else 0
abbrev atZ (l : List Znode) (i : Nat) : Znode := l.getD i default
noncomputable def treeE (l : List Znode) (i : Nat) : Int :=
  if nodeF (atZ l i) ≠ 0 then nodeF (atZ l i) else if 0 < i ∧ ¬ lt (atZ l (i - 1)).path (atZ l i).path then 1 else 0
noncomputable def isPath (t : ByteArray) (z : Znode) : Bool := decide (z.path = t)
noncomputable def atN (l : List Znode) (t : ByteArray) : Int := idxF (isPath t) l
def noUp (l : List Znode) : Prop := ∃ z ∈ l, atN l (upF z.path) < 0
def badUp (l : List Znode) : Prop := ∃ z ∈ l, (atZ l (atN l (upF z.path)).toNat).owner ≠ 0
noncomputable instance (l : List Znode) : Decidable (noUp l) := Classical.propDecidable _
noncomputable instance (l : List Znode) : Decidable (badUp l) := Classical.propDecidable _
noncomputable def treeF (l : List Znode) : Int :=
  if 20 < l.length then 2 else if scanE (treeE l) l.length ≠ 0 then scanE (treeE l) l.length
  else if atN l top < 0 then 4 else if noUp l then 4 else if badUp l then 1 else 0

def rising (l : List Znode) : Prop := ∀ i j, i < j → j < l.length → lt (atZ l i).path (atZ l j).path
theorem rising_of {l : List Znode} (h : ∀ i, 0 < i → i < l.length → lt (atZ l (i - 1)).path (atZ l i).path) : rising l := by
  intro i j hij hj
  induction j with
  | zero => omega
  | succ j ih =>
    have h1 := h (j + 1) (by omega) hj
    simp only [Nat.add_sub_cancel] at h1
    by_cases e : i = j
    · subst e; exact h1
    · exact lt_trans (ih (by omega) (by omega)) h1
theorem rising_scan {l : List Znode} (h : scanE (treeE l) l.length = 0) : rising l := rising_of fun i h0 hi => by
  have := scanE_all h i hi
  unfold treeE at this
  split at this
  · rename_i c; exact absurd this c
  · split at this
    · cases this
    · rename_i c
      exact Classical.byContradiction fun g => c ⟨h0, g⟩
theorem node_scan {l : List Znode} (h : scanE (treeE l) l.length = 0) {i : Nat} (hi : i < l.length) : nodeF (atZ l i) = 0 := by
  have := scanE_all h i hi
  unfold treeE at this
  split at this
  · rename_i c; exact absurd this c
  · rename_i c; exact Classical.not_not.1 c
theorem node_path {z : Znode} (h : nodeF z = 0) : pathF z.path = 0 := by
  unfold nodeF at h
  split at h
  · rename_i c; exact absurd h c
  · rename_i c; exact Classical.not_not.1 c
theorem node_range {z : Znode} (h : nodeF z = 0) : inR z.data 0 9999 ∧ inR z.version 0 999 ∧ inR z.owner 0 9 ∧ inR z.next 0 100 := by
  unfold nodeF at h
  split at h
  · rename_i c; exact absurd h c
  · split at h
    · cases h
    · rename_i c; exact Classical.not_not.1 c

noncomputable def belowZ (t : ByteArray) (z : Znode) : Bool := decide (lt z.path t)
/-- The place that the search by halves finds. -/
noncomputable def posZ (l : List Znode) (t : ByteArray) : Nat := posG (belowZ t) l
noncomputable def isZ (l : List Znode) (t : ByteArray) : Bool := decide (posZ l t < l.length ∧ (atZ l (posZ l t)).path = t)
theorem posZ_eq {l : List Znode} {t : ByteArray} {i : Nat} (hi : i ≤ l.length) (h1 : ∀ k, k < i → lt (atZ l k).path t) (h2 : i < l.length → ¬ lt (atZ l i).path t) : posZ l t = i :=
  posG_eq hi (fun k hk => decide_eq_true (h1 k hk)) (fun hk => decide_eq_false (h2 hk))
theorem atN_is {l : List Znode} (hr : rising l) (t : ByteArray) : atN l t = if isZ l t = true then (posZ l t : Int) else -1 := by
  unfold atN
  split
  · rename_i h
    obtain ⟨h1, h2⟩ := of_decide_eq_true h
    refine idxF_some h1 (fun j hj => ?_) (decide_eq_true h2)
    refine decide_eq_false fun e => ?_
    have := of_decide_eq_true (posG_lt (p := belowZ t) (l := l) (k := j) hj)
    rw [e] at this
    exact lt_irrefl _ this
  · rename_i h
    refine idxF_none fun j hj => decide_eq_false fun e => ?_
    have hp : posZ l t = j := posZ_eq (Nat.le_of_lt hj) (fun k hk => by have := hr k j hk hj; rw [e] at this; exact this) (fun _ => by rw [e]; exact lt_irrefl _)
    exact h (decide_eq_true ⟨by rw [hp]; exact hj, by rw [hp]; exact e⟩)
theorem atN_lt0 {l : List Znode} (hr : rising l) (t : ByteArray) : atN l t < 0 ↔ isZ l t = false := by
  rw [atN_is hr]
  cases isZ l t <;> simp <;> omega
theorem atN_pos {l : List Znode} (hr : rising l) {t : ByteArray} (h : isZ l t = true) : (atN l t).toNat = posZ l t ∧ posZ l t < l.length ∧ (atZ l (posZ l t)).path = t := by
  rw [atN_is hr, if_pos h]
  exact ⟨by simp, of_decide_eq_true h⟩
/-- The first node of a right row that holds the top is the top. -/
theorem first_top {l : List Znode} (h : scanE (treeE l) l.length = 0) (ht : isZ l top = true) : (atZ l 0).path = top ∧ 0 < l.length := by
  have hr := rising_scan h
  obtain ⟨_, h1, h2⟩ := atN_pos hr ht
  refine ⟨?_, by omega⟩
  by_cases e : posZ l top = 0
  · rw [e] at h2; exact h2
  · have := hr 0 (posZ l top) (by omega) h1
    rw [h2] at this
    exact absurd this (top_le (path_headed (node_path (node_scan h (by omega)))))
theorem up_top : upF top = top := by
  unfold upF lastF
  have : lastTo top top.size = 0 := by
    show lastTo top 1 = 0
    unfold lastTo
    split
    · rfl
    · rfl
  rw [if_pos this]

theorem tail_getD (l : List Znode) (j : Nat) : l.tail.getD j default = atZ l (j + 1) := by
  unfold atZ
  rw [List.getD_eq_getElem?_getD, List.getD_eq_getElem?_getD, List.getElem?_tail]
theorem atZ_mem {l : List Znode} {i : Nat} (h : i < l.length) : atZ l i ∈ l := by
  unfold atZ
  rw [List.getD_eq_getElem?_getD, List.getElem?_eq_getElem h]
  exact List.getElem_mem h
theorem mem_atZ {l : List Znode} {z : Znode} (h : z ∈ l) : ∃ i, i < l.length ∧ z = atZ l i := by
  obtain ⟨i, hi, rfl⟩ := List.getElem_of_mem h
  exact ⟨i, hi, by simp [atZ, hi]⟩
theorem noUp_iff {l : List Znode} (hz : scanE (treeE l) l.length = 0) (ht : isZ l top = true) : noUp l ↔ ∃ j, j < l.tail.length ∧ isZ l (upF (l.tail.getD j default).path) = false := by
  have hr := rising_scan hz
  obtain ⟨f1, f2⟩ := first_top hz ht
  constructor
  · rintro ⟨z, hz1, h⟩
    obtain ⟨i, hi, rfl⟩ := mem_atZ hz1
    have h' := (atN_lt0 hr _).1 h
    cases i with
    | zero =>
      rw [f1, up_top, ht] at h'
      cases h'
    | succ i => exact ⟨i, by rw [List.length_tail]; omega, by rw [tail_getD]; exact h'⟩
  · rintro ⟨j, hj, h⟩
    have hj' : j + 1 < l.length := by rw [List.length_tail] at hj; omega
    exact ⟨atZ l (j + 1), atZ_mem hj', (atN_lt0 hr _).2 (by rw [← tail_getD]; exact h)⟩
/-- Is one of the first so many parents owned? -/
noncomputable def ownTo (l : List Znode) : Nat → Bool
  | 0 => (atZ l 0).owner != 0
  | i + 1 => bif ownTo l i then true else (atZ l (posZ l (upF (l.tail.getD i default).path))).owner != 0
theorem ownTo_iff (l : List Znode) : ∀ n, ownTo l n = true ↔ (atZ l 0).owner ≠ 0 ∨ ∃ j, j < n ∧ (atZ l (posZ l (upF (l.tail.getD j default).path))).owner ≠ 0
  | 0 => by
    unfold ownTo
    rw [bne_iff_ne]
    exact ⟨Or.inl, fun h => h.elim id fun ⟨j, hj, _⟩ => absurd hj (Nat.not_lt_zero j)⟩
  | n + 1 => by
    have ih := ownTo_iff l n
    have e : ownTo l (n + 1) = bif ownTo l n then true else (atZ l (posZ l (upF (l.tail.getD n default).path))).owner != 0 := rfl
    rw [e]
    cases h : ownTo l n with
    | true =>
      refine ⟨fun _ => ?_, fun _ => rfl⟩
      rcases ih.1 h with g | ⟨j, hj, g⟩
      · exact Or.inl g
      · exact Or.inr ⟨j, by omega, g⟩
    | false =>
      have hn : ¬ ((atZ l 0).owner ≠ 0 ∨ ∃ j, j < n ∧ (atZ l (posZ l (upF (l.tail.getD j default).path))).owner ≠ 0) := fun g => by
        rw [ih.2 g] at h; cases h
      simp only [cond_false]
      rw [bne_iff_ne]
      constructor
      · exact fun g => Or.inr ⟨n, by omega, g⟩
      · rintro (g | ⟨j, hj, g⟩)
        · exact absurd (Or.inl g) hn
        · by_cases ej : j = n
          · rw [← ej]; exact g
          · exact absurd (Or.inr ⟨j, by omega, g⟩) hn
theorem badUp_iff {l : List Znode} (hz : scanE (treeE l) l.length = 0) (ht : isZ l top = true) (hn : ∀ j, j < l.tail.length → isZ l (upF (l.tail.getD j default).path) = true) :
    badUp l ↔ ownTo l l.tail.length = true := by
  have hr := rising_scan hz
  obtain ⟨f1, f2⟩ := first_top hz ht
  obtain ⟨t1, t2, t3⟩ := atN_pos hr ht
  have p0 : posZ l top = 0 := by
    apply Classical.byContradiction
    intro h
    have := hr 0 (posZ l top) (by omega) t2
    rw [f1, t3] at this
    exact lt_irrefl _ this
  rw [ownTo_iff]
  constructor
  · rintro ⟨z, hz1, h⟩
    obtain ⟨i, hi, rfl⟩ := mem_atZ hz1
    cases i with
    | zero =>
      rw [f1, up_top, t1, p0] at h
      exact Or.inl h
    | succ i =>
      have hi' : i < l.tail.length := by rw [List.length_tail]; omega
      have h2 := hn i hi'
      have h3 := (atN_pos hr h2).1
      rw [← tail_getD, h3] at h
      exact Or.inr ⟨i, hi', h⟩
  · rintro (h | ⟨j, hj, h⟩)
    · refine ⟨atZ l 0, atZ_mem f2, ?_⟩
      rw [f1, up_top, t1, p0]
      exact h
    · have hj' : j + 1 < l.length := by rw [List.length_tail] at hj; omega
      refine ⟨atZ l (j + 1), atZ_mem hj', ?_⟩
      rw [← tail_getD, (atN_pos hr (hn j hj)).1]
      exact h
theorem idxF_lt {α : Type} (q : α → Bool) (xs : List α) : idxF q xs < xs.length ∨ idxF q xs = -1 := by
  unfold idxF
  cases h : xs.findIdx? q with
  | none => exact Or.inr rfl
  | some i =>
    obtain ⟨hi, _⟩ := List.findIdx?_eq_some_iff_getElem.1 h
    left
    simp only
    omega
theorem tree_ok {l : List Znode} (h : treeF l = 0) : l.length ≤ 20 ∧ scanE (treeE l) l.length = 0 ∧ isZ l top = true := by
  unfold treeF at h
  split at h
  · cases h
  · rename_i h1
    split at h
    · rename_i h2; exact absurd h h2
    · rename_i h2
      have hz := Classical.not_not.1 h2
      split at h
      · cases h
      · rename_i h3
        refine ⟨by omega, hz, ?_⟩
        cases hc : isZ l top with
        | true => rfl
        | false => exact absurd ((atN_lt0 (rising_scan hz) _).2 hc) h3
theorem tree_rising {l : List Znode} (h : treeF l = 0) : rising l := rising_scan (tree_ok h).2.1

end Go.Av
