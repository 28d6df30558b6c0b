/- What a source draws of replicas; what a change of view tells: plain functions. -/
import Derived.Test.YtakcaanpnmkccaaGreatP31
namespace Go.Av
set_option linter.unusedVariables false
set_option linter.unusedSimpArgs false

noncomputable def repS (xs : List Int) (a : Int) (l : List Msg) (view : Int) : Int × Int :=
  if 0 < view then (if nextF xs a 4 = 0 then (-1, a + 1) else placeD xs (a + 1) l 5) else (-1, a)
theorem repS_bd (xs : List Int) (a : Int) (l : List Msg) (view : Int) : a ≤ (repS xs a l view).2 ∧ (repS xs a l view).2 ≤ a + 3 := by
  have h := placeD_bd xs (a + 1) l 5
  unfold repS
  split
  · split
    · exact ⟨by simp only; omega, by simp only; omega⟩
    · exact ⟨by omega, by omega⟩
  · exact ⟨by simp only; omega, by simp only; omega⟩
noncomputable def repB (xs : List Int) (a : Int) (r : Replica) : Replica × Int :=
  if nextF xs a 14 = 0 then (⟨pickF xs (a + 1) [0, 8, 2], r.view, r.start, r.done⟩, a + 2)
  else if nextF xs a 14 = 1 then (⟨r.id, pickF xs (a + 1) [-1, 21, 2], r.start, r.done⟩, a + 2)
  else if nextF xs a 14 = 2 then (⟨r.id, r.view, pickF xs (a + 1) [0, 3], r.done⟩, a + 2)
  else (r, a + 1)
noncomputable def repD (xs : List Int) (a : Int) (l : List Msg) : Replica × Int :=
  repB xs (repS xs (a + 3) l (nextF xs (a + 1) 2)).2 ⟨1 + nextF xs a 4, nextF xs (a + 1) 2, (repS xs (a + 3) l (nextF xs (a + 1) 2)).1, pickF xs (a + 2) [0, 0, 0, 1, 30]⟩
/-! ### Certificates of a replica's commitments -/
theorem newest_ge {l : List Msg} {id slot view : Int} : ∀ i, i ≤ l.length → ∀ j, j < i → (l.getD j default).kind = 3 → (l.getD j default).sender = id → (l.getD j default).slot = slot → (l.getD j default).view < view → (l.getD j default).view ≤ (newest l id slot view i).1
  | 0, _, j, hj, _, _, _, _ => by omega
  | i + 1, hi, j, hj, h1, h2, h3, h4 => by
    rw [newest_succ (by omega)]
    have mono : (newest l id slot view i).1 ≤ (newer id slot view (newest l id slot view i) (l.getD i default)).1 := by
      unfold newer
      split
      · rename_i h; simp only; omega
      · omega
    rcases Nat.lt_or_ge j i with g | g
    · have := newest_ge i (by omega) j g h1 h2 h3 h4
      omega
    · have : j = i := by omega
      subst this
      unfold newer
      split
      · simp only; omega
      · rename_i h
        have : ¬ (newest l id slot view j).1 < (l.getD j default).view := fun g2 => h ⟨h1, h2, h3, h4, g2⟩
        omega
theorem newest_lt {l : List Msg} {id slot view : Int} (hv : 0 ≤ view) : ∀ i, i ≤ l.length → (newest l id slot view i).1 < view
  | 0, _ => by simp [newest]; omega
  | i + 1, hi => by
    rw [newest_succ (by omega)]
    have := newest_lt (l := l) (id := id) (slot := slot) hv i (by omega)
    unfold newer
    split
    · rename_i h; simp only; omega
    · omega
theorem newest_val {f : Int} {l : List Msg} (hr : Right f l) {id slot view : Int} : ∀ i, i ≤ l.length → 0 ≤ (newest l id slot view i).2 ∧ (newest l id slot view i).2 ≤ 12
  | 0, _ => by simp [newest]
  | i + 1, hi => by
    rw [newest_succ (by omega)]
    have ih := newest_val hr (id := id) (slot := slot) (view := view) i (by omega)
    unfold newer
    split
    · rename_i h
      have := (hr.good (i := i) (by omega)).ranged.2.2 ⟨by omega, by omega⟩
      exact this.2
    · exact ih
/-- What stands among the certificates of the first so many slots. -/
theorem certsTo_mem (l : List Msg) (id view : Int) : ∀ n, ∀ c ∈ certsTo l id view n, ∃ s : Nat, s < n ∧ c = ⟨s + 1, (newest l id (s + 1) view l.length).1, (newest l id (s + 1) view l.length).2⟩ ∧ 0 ≤ (newest l id (s + 1) view l.length).1
  | 0, c, hc => by simp [certsTo] at hc
  | n + 1, c, hc => by
    unfold certsTo at hc
    rcases List.mem_append.1 hc with hc | hc
    · obtain ⟨s, h1, h2, h3⟩ := certsTo_mem l id view n c hc
      exact ⟨s, by omega, h2, h3⟩
    · split at hc
      · rename_i h
        exact ⟨n, by omega, List.mem_singleton.1 hc, h⟩
      · simp at hc
theorem certsTo_has (l : List Msg) (id view : Int) : ∀ (n s : Nat), s < n → 0 ≤ (newest l id (s + 1) view l.length).1 → (⟨s + 1, (newest l id (s + 1) view l.length).1, (newest l id (s + 1) view l.length).2⟩ : Cert) ∈ certsTo l id view n
  | 0, s, h, _ => by omega
  | n + 1, s, h, h2 => by
    unfold certsTo
    rcases Nat.lt_or_ge s n with g | g
    · exact List.mem_append.2 (.inl (certsTo_has l id view n s g h2))
    · have : s = n := by omega
      subst this
      refine List.mem_append.2 (.inr ?_)
      rw [if_pos h2]
      exact List.mem_singleton.2 rfl
theorem certsTo_rise (l : List Msg) (id view : Int) : ∀ n, riseC (certsTo l id view n)
  | 0 => fun i h1 h2 => by simp [certsTo] at h2
  | n + 1 => fun i h1 h2 => by
    have ih := certsTo_rise l id view n
    unfold certsTo at h2 ⊢
    split at h2
    · rename_i h
      rw [if_pos h]
      rw [List.length_append, List.length_singleton] at h2
      rcases Nat.lt_or_ge i (certsTo l id view n).length with g | g
      · have := ih i h1 g
        have e1 : ∀ j, j < (certsTo l id view n).length → (certsTo l id view n ++ [(⟨(n : Int) + 1, (newest l id (n + 1) view l.length).1, (newest l id (n + 1) view l.length).2⟩ : Cert)]).getD j default = (certsTo l id view n).getD j default := fun j hj => by simp [List.getElem?_append, hj]
        rw [e1 _ (by omega), e1 _ g]
        exact this
      · have hi : i = (certsTo l id view n).length := by omega
        have hlt : i - 1 < (certsTo l id view n).length := by omega
        have hm : (certsTo l id view n).getD (i - 1) default ∈ certsTo l id view n := by simp [hlt]
        obtain ⟨s, hs, e, _⟩ := certsTo_mem l id view n _ hm
        have e1 : (certsTo l id view n ++ [(⟨(n : Int) + 1, (newest l id (n + 1) view l.length).1, (newest l id (n + 1) view l.length).2⟩ : Cert)]).getD (i - 1) default = (certsTo l id view n).getD (i - 1) default := by simp [List.getElem?_append, hlt]
        have e2 : (certsTo l id view n ++ [(⟨(n : Int) + 1, (newest l id (n + 1) view l.length).1, (newest l id (n + 1) view l.length).2⟩ : Cert)]).getD i default = ⟨(n : Int) + 1, (newest l id (n + 1) view l.length).1, (newest l id (n + 1) view l.length).2⟩ := by subst hi; simp
        rw [e1, e2, e]
        simp only
        omega
    · rename_i h
      rw [if_neg h]
      rw [List.append_nil] at h2 ⊢
      exact ih i h1 h2

end Go.Av
