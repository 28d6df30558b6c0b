/- What is decided: plain functions on typed data. -/
import Derived.Test.YtakcaanpnmkccaaGreatP10
namespace Go.Av
set_option linter.unusedVariables false
set_option linter.unusedSimpArgs false

/-- Enough committed the value in one view. -/
def decidedV (f : Int) (l : List Msg) (slot v : Int) : Prop := ∃ m ∈ l, m.kind = 3 ∧ m.slot = slot ∧ m.value = v ∧ enough f l 3 ⟨slot, m.view, v⟩
noncomputable instance (f : Int) (l : List Msg) (s v : Int) : Decidable (decidedV f l s v) := Classical.propDecidable _
/-- The values below so many that were decided. -/
noncomputable def decBelow (f : Int) (l : List Msg) (slot : Int) (n : Nat) : List Int := ((List.range n).map fun k : Nat => (k : Int)).filter fun v => decide (decidedV f l slot v)
noncomputable def decidedL (f : Int) (l : List Msg) (slot : Int) : List Int := decBelow f l slot 13
theorem decBelow_len (f : Int) (l : List Msg) (slot : Int) (n : Nat) : (decBelow f l slot n).length ≤ n := by
  unfold decBelow
  exact Nat.le_trans (List.length_filter_le _ _) (by simp)
theorem decBelow_succ (f : Int) (l : List Msg) (slot : Int) (n : Nat) : decBelow f l slot (n + 1) = decBelow f l slot n ++ if decidedV f l slot n then [(n : Int)] else [] := by
  unfold decBelow
  rw [List.range_succ, List.map_append, List.filter_append]
  congr 1
  by_cases h : decidedV f l slot n <;> simp [h]
theorem decBelow_lt (f : Int) (l : List Msg) (slot : Int) (n : Nat) : (decBelow f l slot n).Pairwise (· < ·) := by
  unfold decBelow
  refine List.Pairwise.filter _ ?_
  rw [List.pairwise_map]
  exact List.pairwise_lt_range.imp fun h => by omega

/-- The values that the program gathers, message by message. -/
def takesV (f : Int) (l : List Msg) (slot : Int) (out : List Int) (m : Msg) : Prop := m.kind = 3 ∧ m.slot = slot ∧ m.value ∉ out ∧ enough f l 3 ⟨slot, m.view, m.value⟩
noncomputable instance (f : Int) (l : List Msg) (s : Int) (o : List Int) (m : Msg) : Decidable (takesV f l s o m) := Classical.propDecidable _
noncomputable def decStep (f : Int) (l : List Msg) (slot : Int) (out : List Int) (m : Msg) : List Int := if takesV f l slot out m then out ++ [m.value] else out
noncomputable def decTo (f : Int) (l : List Msg) (slot : Int) (i : Nat) : List Int := (l.take i).foldl (decStep f l slot) []
theorem decTo_succ {f : Int} {l : List Msg} {slot : Int} {i : Nat} (h : i < l.length) : decTo f l slot (i + 1) = decStep f l slot (decTo f l slot i) (l.getD i default) := by
  unfold decTo
  have h1 : l.take (i + 1) = l.take i ++ [l.getD i default] := by
    rw [List.take_add_one]
    simp [h]
  rw [h1, List.foldl_append]
  rfl
theorem decTo_facts {f : Int} {l : List Msg} {slot : Int} : ∀ (i : Nat), i ≤ l.length → (decTo f l slot i).Nodup ∧ (decTo f l slot i).length ≤ i ∧
    ∀ v, v ∈ decTo f l slot i ↔ ∃ j, j < i ∧ (l.getD j default).kind = 3 ∧ (l.getD j default).slot = slot ∧ (l.getD j default).value = v ∧ enough f l 3 ⟨slot, (l.getD j default).view, v⟩
  | 0, _ => ⟨by simp [decTo], by simp [decTo], fun v => by simp [decTo]⟩
  | i + 1, hi => by
    obtain ⟨h1, h2, h3⟩ := decTo_facts (f := f) (l := l) (slot := slot) i (by omega)
    rw [decTo_succ (by omega)]
    unfold decStep
    by_cases ht : takesV f l slot (decTo f l slot i) (l.getD i default)
    · rw [if_pos ht]
      obtain ⟨t1, t2, t3, t4⟩ := ht
      refine ⟨?_, by rw [List.length_append, List.length_singleton]; omega, fun v => ?_⟩
      · rw [List.nodup_append]
        refine ⟨h1, by simp, fun a ha b hb => ?_⟩
        have : b = (l.getD i default).value := by simpa using hb
        subst this
        exact fun e => t3 (e ▸ ha)
      · rw [List.mem_append, h3]
        constructor
        · rintro (⟨j, hj, h⟩ | hv)
          · exact ⟨j, by omega, h⟩
          · have : v = (l.getD i default).value := by simpa using hv
            subst this
            exact ⟨i, by omega, t1, t2, rfl, t4⟩
        · rintro ⟨j, hj, h⟩
          rcases Nat.lt_or_ge j i with hji | hji
          · exact .inl ⟨j, hji, h⟩
          · have : j = i := by omega
            subst this
            right
            simpa using h.2.2.1.symm
    · rw [if_neg ht]
      refine ⟨h1, Nat.le_succ_of_le h2, fun v => ?_⟩
      rw [h3]
      constructor
      · rintro ⟨j, hj, h⟩
        exact ⟨j, by omega, h⟩
      · rintro ⟨j, hj, h⟩
        rcases Nat.lt_or_ge j i with hji | hji
        · exact ⟨j, hji, h⟩
        · have : j = i := by omega
          subst this
          obtain ⟨a1, a2, a3, a4⟩ := h
          subst a3
          have hm : (l.getD j default).value ∈ decTo f l slot j := by
            by_cases hin : (l.getD j default).value ∈ decTo f l slot j
            · exact hin
            · exact absurd ⟨a1, a2, hin, a4⟩ ht
          exact (h3 _).1 hm

theorem sortI_lt {xs : List Int} (h : xs.Nodup) : (sortI xs).Pairwise (· < ·) := by
  have h1 := sortI_sorted xs
  have h2 : (sortI xs).Nodup := ((List.mergeSort_perm xs _).nodup_iff).2 h
  unfold List.Nodup at h2
  exact (h1.and h2).imp fun h => by omega

theorem decided_eq {f : Int} {l : List Msg} (hr : Right f l) (slot : Int) : sortI (decTo f l slot l.length) = decidedL f l slot := by
  obtain ⟨h1, _, h3⟩ := decTo_facts (f := f) (l := l) (slot := slot) l.length (Nat.le_refl _)
  refine eq_of_lt_mem (sortI_lt h1) (decBelow_lt f l slot 13) fun v => ?_
  rw [sortI_mem, h3]
  unfold decidedL decBelow
  simp only [List.mem_filter, List.mem_map, List.mem_range, decide_eq_true_eq]
  constructor
  · rintro ⟨j, hj, a1, a2, a3, a4⟩
    have hm : l.getD j default ∈ l := by simp [hj]
    have hrg := (hr.good hj).ranged.2.2 (by unfold inR; omega)
    have hv := hrg.2
    unfold inR at hv
    refine ⟨⟨v.toNat, by omega, by omega⟩, ?_⟩
    exact ⟨_, hm, a1, a2, a3, a4⟩
  · rintro ⟨_, m, hm, a1, a2, a3, a4⟩
    obtain ⟨j, hj, rfl⟩ := List.getElem_of_mem hm
    exact ⟨j, hj, by simpa [hj] using a1, by simpa [hj] using a2, by simpa [hj] using a3, by simpa [hj] using a4⟩

/-- The values of the first slots, as long as there are some. -/
noncomputable def logFrom (f : Int) (l : List Msg) : Nat → Nat → List Int
  | _, 0 => []
  | s, n + 1 => match decidedL f l s with
    | [] => []
    | v :: _ => v :: logFrom f l (s + 1) n
noncomputable def logL (f : Int) (l : List Msg) : List Int := logFrom f l 1 30
theorem logFrom_len (f : Int) (l : List Msg) : ∀ (n s : Nat), (logFrom f l s n).length ≤ n
  | 0, _ => by simp [logFrom]
  | n + 1, s => by
    unfold logFrom
    split
    · simp
    · have := logFrom_len f l n (s + 1)
      simp
      omega

end Go.Av
