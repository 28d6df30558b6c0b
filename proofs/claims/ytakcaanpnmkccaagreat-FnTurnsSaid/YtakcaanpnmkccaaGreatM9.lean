/- Votes: what the program lists is what the reference lists, in a right ledger. -/
import Derived.Test.YtakcaanpnmkccaaGreatE7
namespace Go.Av
set_option linter.unusedVariables false
set_option linter.unusedSimpArgs false

theorem compact_sorted {d : Array Int} (hs : ∀ i j, i ≤ j → j < d.size → d[i]! ≤ d[j]!) : ∀ m, m ≤ d.size →
    (Lib.compactUpTo d m).Pairwise (· < ·) ∧ (∀ x ∈ Lib.compactUpTo d m, ∃ j, j < m ∧ x = d[j]!) ∧ ∀ j, j < m → d[j]! ∈ Lib.compactUpTo d m
  | 0, _ => ⟨by simp [Lib.compactUpTo], by simp [Lib.compactUpTo], fun j hj => absurd hj (Nat.not_lt_zero j)⟩
  | m + 1, hm => by
    obtain ⟨h1, h2, h3⟩ := compact_sorted hs m (by omega)
    rw [Lib.compactUpTo_succ]
    by_cases hk : Lib.keeps d m = true
    · rw [if_pos hk]
      refine ⟨?_, ?_, ?_⟩
      · rw [List.pairwise_append]
        refine ⟨h1, by simp, fun x hx y hy => ?_⟩
        have hy' : y = d[m]! := by simpa using hy
        obtain ⟨j, hj, rfl⟩ := h2 x hx
        subst hy'
        have hm0 : m ≠ 0 := by omega
        have hne : d[m]! ≠ d[m - 1]! := by
          unfold Lib.keeps at hk
          simp [hm0] at hk
          exact hk
        have a1 := hs j (m - 1) (by omega) (by omega)
        have a2 := hs (m - 1) m (by omega) (by omega)
        omega
      · intro x hx
        rcases List.mem_append.1 hx with hx | hx
        · obtain ⟨j, hj, e⟩ := h2 x hx
          exact ⟨j, by omega, e⟩
        · exact ⟨m, by omega, by simpa using hx⟩
      · intro j hj
        rcases Nat.lt_or_ge j m with h | h
        · exact List.mem_append_left _ (h3 j h)
        · have : j = m := by omega
          subst this
          exact List.mem_append_right _ (by simp)
    · rw [if_neg hk, List.append_nil]
      refine ⟨h1, fun x hx => ?_, fun j hj => ?_⟩
      · obtain ⟨j, hj, e⟩ := h2 x hx
        exact ⟨j, by omega, e⟩
      · rcases Nat.lt_or_ge j m with h | h
        · exact h3 j h
        · have hjm : j = m := by omega
          subst hjm
          have hm0 : j ≠ 0 := fun e => hk (by subst e; exact Lib.keeps_lt_one d 0 (by omega))
          have he : d[j]! = d[j - 1]! := by
            unfold Lib.keeps at hk
            simp [hm0] at hk
            exact hk
          rw [he]
          exact h3 (j - 1) (by omega)

theorem eq_of_lt_mem : ∀ {a b : List Int}, a.Pairwise (· < ·) → b.Pairwise (· < ·) → (∀ x, x ∈ a ↔ x ∈ b) → a = b
  | [], [], _, _, _ => rfl
  | [], y :: b, _, _, h => by have := (h y).2 (by simp); simp at this
  | x :: a, [], _, _, h => by have := (h x).1 (by simp); simp at this
  | x :: a, y :: b, ha, hb, h => by
    rw [List.pairwise_cons] at ha hb
    have hxy : x = y := by
      rcases List.mem_cons.1 ((h x).1 (by simp)) with e | hx
      · exact e
      · rcases List.mem_cons.1 ((h y).2 (by simp)) with e | hy
        · exact e.symm
        · have := hb.1 x hx
          have := ha.1 y hy
          omega
    subst hxy
    congr 1
    refine eq_of_lt_mem ha.2 hb.2 fun z => ?_
    have := h z
    constructor
    · intro hz
      rcases List.mem_cons.1 (this.1 (List.mem_cons_of_mem _ hz)) with e | hz'
      · have := ha.1 z hz; omega
      · exact hz'
    · intro hz
      rcases List.mem_cons.1 (this.2 (List.mem_cons_of_mem _ hz)) with e | hz'
      · have := hb.1 z hz; omega
      · exact hz'

theorem sortI_mem (xs : List Int) (x : Int) : x ∈ sortI xs ↔ x ∈ xs := (List.mergeSort_perm xs _).mem_iff
theorem sortI_sorted (xs : List Int) : (sortI xs).Pairwise (· ≤ ·) := by
  have := List.pairwise_mergeSort (le := fun x y : Int => decide (x ≤ y)) (fun a b c h1 h2 => by simp at *; omega) (fun a b => by simp; omega) xs
  exact this.imp fun h => by simpa using h

theorem comp_facts (xs : List Int) : (Lib.compact (sortI xs)).Pairwise (· < ·) ∧ ∀ x, x ∈ Lib.compact (sortI xs) ↔ x ∈ xs := by
  have gj : ∀ (ys : List Int) (j : Nat) (hj : j < ys.length), ys.toArray[j]! = ys[j] := fun ys j hj => by
    rw [getElem!_pos _ _ (by simpa using hj)]
    exact List.getElem_toArray _
  have hs : ∀ i j, i ≤ j → j < (sortI xs).toArray.size → (sortI xs).toArray[i]! ≤ (sortI xs).toArray[j]! := by
    intro i j hij hj
    have hj' : j < (sortI xs).length := by rw [List.size_toArray] at hj; exact hj
    rcases Nat.eq_or_lt_of_le hij with rfl | h
    · exact Int.le_refl _
    · have := List.pairwise_iff_getElem.1 (sortI_sorted xs) i j (by omega) hj' h
      rw [gj _ i (by omega), gj _ j hj']
      exact this
  obtain ⟨h1, h2, h3⟩ := compact_sorted hs (sortI xs).length (by simp)
  refine ⟨h1, fun x => ⟨fun hx => ?_, fun hx => ?_⟩⟩
  · obtain ⟨j, hj, rfl⟩ := h2 x hx
    rw [← sortI_mem, gj _ j hj]
    exact List.getElem_mem hj
  · rw [← sortI_mem] at hx
    obtain ⟨j, hj, rfl⟩ := List.getElem_of_mem hx
    have := h3 j hj
    rw [gj _ j hj] at this
    exact this

theorem votes_lt (l : List Msg) (kind : Int) (c : Cert) (n : Nat) : (votesTo l kind c n).Pairwise (· < ·) := by
  unfold votesTo
  refine List.Pairwise.filter _ ?_
  rw [List.pairwise_map]
  exact List.pairwise_lt_range.imp fun h => by omega

theorem votes_eq {f : Int} {l : List Msg} (hr : Right f l) {kind : Int} (hk : kind = 2 ∨ kind = 3) (c : Cert) : votersF l kind c.view c.slot c.value = votesF f l kind c := by
  obtain ⟨h1, h2⟩ := comp_facts (senders l kind c.view c.slot c.value)
  refine eq_of_lt_mem h1 (votes_lt _ _ _ _) fun x => ?_
  have hv : x ∈ votersF l kind c.view c.slot c.value ↔ x ∈ senders l kind c.view c.slot c.value := h2 x
  rw [hv]
  have hmsg : ∀ m ∈ l, msgFault f m = 0 := fun m hm => by
    obtain ⟨i, hi, rfl⟩ := List.getElem_of_mem hm
    have := (entry_msg (hr.entry i hi)).1
    simpa [hi] using this
  have hof := hr.okf
  unfold okF at hof
  have key : ∀ m ∈ l, m.kind = kind → bare m ∧ ranged f m := fun m hm _ => by
    have h0 := hmsg m hm
    unfold msgFault at h0
    split at h0
    · omega
    · rename_i hb
      split at h0
      · omega
      · rename_i hra
        exact ⟨Classical.not_not.1 hb, Classical.not_not.1 hra⟩
  unfold senders votesF votesTo
  simp only [List.mem_map, List.mem_filter, decide_eq_true_eq, List.mem_range]
  constructor
  · rintro ⟨m, ⟨hm, e1, e2, e3, e4⟩, rfl⟩
    obtain ⟨hb, hra⟩ := key m hm e1
    obtain ⟨_, _, b3, b4⟩ := hb
    obtain ⟨_, ⟨r1, r2⟩, _⟩ := hra
    refine ⟨⟨(m.sender - 1).toNat, by omega, by omega⟩, ?_⟩
    have : bareMsg kind c m.sender = m := by
      rw [eq_Msg]
      have c1 : m.certs = [] := List.length_eq_zero_iff.1 (by rcases b3 with h | h <;> omega)
      have c2 : m.refs = [] := List.length_eq_zero_iff.1 (by rcases b4 with h | h <;> omega)
      simp [bareMsg, e1, e2, e3, e4, c1, c2]
    rw [this]
    exact hm
  · rintro ⟨⟨k, hk', rfl⟩, hm⟩
    exact ⟨_, ⟨hm, rfl, rfl, rfl, rfl⟩, rfl⟩

end Go.Av
