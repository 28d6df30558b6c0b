/- A watch behind the others; the law. -/
import Derived.Test.YtgefdljcommhhaaGreatDoorM1
namespace Go.Av
open Go.Proofs
set_option maxRecDepth 100000
set_option maxHeartbeats 2000000
set_option linter.unusedVariables false
set_option linter.unusedSimpArgs false

theorem szS_top' {α : Type} {f : α → Int → Int} (hf : ∀ x v, f x v ≤ v ∨ f x v < 0) (xs : List α) (v : Int) : szS f xs v ≤ v ∨ szS f xs v < 0 := by
  have key : ∀ (l : List α) (v : Int), szA f l v ≤ v ∨ szA f l v < 0 := by
    intro l
    induction l with
    | nil => intro v; exact Or.inl (Int.le_refl _)
    | cons x r ih =>
      intro v
      unfold szA
      split
      · exact Or.inr (by decide)
      · have := ih (f x v)
        have := hf x v
        omega
  unfold szS
  split
  · exact Or.inr (by decide)
  · have := key xs (v - xs.length)
    omega
noncomputable def addF (l : List Watch) (w : Watch) : WatchResult :=
  if watchesF l ≠ 0 then ⟨watchesF l, [], []⟩ else if watchF w ≠ 0 then ⟨watchF w, [], []⟩ else if w ∈ l then ⟨0, l, []⟩ else if l.length = 20 then ⟨2, [], []⟩ else ⟨0, l ++ [w], []⟩
theorem watches_len {l : List Watch} (h : watchesF l = 0) : l.length ≤ 20 := by
  unfold watchesF at h
  split at h
  · cases h
  · omega
theorem addF_len (l : List Watch) (w : Watch) : (addF l w).watches.length ≤ 21 ∧ (addF l w).events.length = 0 := by
  unfold addF
  split
  · simp
  rename_i h
  have := watches_len (Classical.not_not.1 h)
  split
  · simp
  split
  · exact ⟨by simp only; omega, rfl⟩
  split
  · simp
  · exact ⟨by simp only [List.length_append, List.length_singleton]; omega, rfl⟩
theorem atW_in (l : List Watch) (w : Watch) : (decide (0 ≤ atW l w)) = decide (w ∈ l) := by
  have := idxF_nonneg (isW w) l
  show decide (0 ≤ idxF (isW w) l) = _
  rw [this, Bool.eq_iff_iff, decide_eq_true_eq, List.any_eq_true]
  unfold isW
  constructor
  · rintro ⟨x, hx, h⟩
    rw [← of_decide_eq_true h]
    exact hx
  · intro h
    exact ⟨w, h, decide_eq_true rfl⟩
theorem appg0 {g h : Nat → V} : appg 0 g h = h := by funext i; simp [appg]

theorem add_e1 {l : List Watch} {w : Watch} (h : watchesF l ≠ 0) : addF l w = ⟨watchesF l, [], []⟩ := if_pos h
theorem add_e2 {l : List Watch} {w : Watch} (h : watchesF l = 0) (h2 : watchF w ≠ 0) : addF l w = ⟨watchF w, [], []⟩ := by
  unfold addF
  rw [if_neg (not_not_intro h), if_pos h2]
theorem add_e3 {l : List Watch} {w : Watch} (h : watchesF l = 0) (h2 : watchF w = 0) (h3 : w ∈ l) : addF l w = ⟨0, l, []⟩ := by
  unfold addF
  rw [if_neg (not_not_intro h), if_neg (not_not_intro h2), if_pos h3]
theorem add_e4 {l : List Watch} {w : Watch} (h : watchesF l = 0) (h2 : watchF w = 0) (h3 : ¬ w ∈ l) (h4 : l.length = 20) : addF l w = ⟨2, [], []⟩ := by
  unfold addF
  rw [if_neg (not_not_intro h), if_neg (not_not_intro h2), if_neg h3, if_pos h4]
theorem add_e5 {l : List Watch} {w : Watch} (h : watchesF l = 0) (h2 : watchF w = 0) (h3 : ¬ w ∈ l) (h4 : ¬ l.length = 20) : addF l w = ⟨0, l ++ [w], []⟩ := by
  unfold addF
  rw [if_neg (not_not_intro h), if_neg (not_not_intro h2), if_neg h3, if_neg h4]
theorem nz {c : Int} (h : (c != 0) = true) : c ≠ 0 := by simpa using h
theorem ez {c : Int} (h : (c != 0) = false) : c = 0 := by simpa using h

end Go.Av
