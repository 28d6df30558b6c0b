/- What a source draws: worlds with changes of view, places, replicas; plain functions. -/
import Derived.Test.YtakcaanpnmkccaaGreatP30
import Derived.Test.YtakcaanpnmkccaaGreatP21
namespace Go.Av
set_option linter.unusedVariables false
set_option linter.unusedSimpArgs false

/-! ### A world with changes of view -/
noncomputable def wIdD (xs : List Int) (slot value : Int) : Nat → Int → Int → List Msg → List Msg × Int
  | 0, _, a, l => (l, a)
  | f + 1, id, a, l => wIdD xs slot value f (id + 1) (a + 2) ((l ++ if nextF xs a 8 = 0 then [] else [⟨2, 0, id, slot, value, [], []⟩]) ++ if nextF xs (a + 1) 2 = 0 then [⟨3, 0, id, slot, value, [], []⟩] else [])
noncomputable def wSlotD (xs : List Int) : Nat → Int → Int → List Msg → List Msg × Int
  | 0, _, a, l => (l, a)
  | f + 1, slot, a, l => wSlotD xs f (slot + 1) (wIdD xs slot (1 + nextF xs a 2) 4 1 (a + 1) l).2 (wIdD xs slot (1 + nextF xs a 2) 4 1 (a + 1) l).1
noncomputable def wChD (xs : List Int) : Nat → Int → Int → List Msg → List Msg × Int
  | 0, _, a, l => (l, a)
  | f + 1, id, a, l => if nextF xs a 6 = 0 then wChD xs f (id + 1) (a + 1) l
    else if nextF xs (a + 1) 8 = 0 then wChD xs f (id + 1) (a + 2) (l ++ [⟨4, 1, id, 0, 0, certsL l id 1 ++ [⟨9, 0, 1⟩], []⟩])
    else wChD xs f (id + 1) (a + 2) (l ++ [⟨4, 1, id, 0, 0, certsL l id 1, []⟩])
def refsUp (first : Nat) (n : Nat) : List Int := (List.range n).map fun i : Nat => ((first + i : Nat) : Int)
theorem refsUp_len (first n : Nat) : (refsUp first n).length = n := by simp [refsUp]
theorem refsUp_succ (first n : Nat) : refsUp first (n + 1) = refsUp first n ++ [((first + n : Nat) : Int)] := by
  unfold refsUp
  rw [List.range_succ, List.map_append]
  rfl
noncomputable def wPrD (xs : List Int) : Nat → Int → Int → List Msg → List Msg × Int
  | 0, _, a, l => (l, a)
  | f + 1, slot, a, l => wPrD xs f (slot + 1) (a + 3) (l ++ [⟨1, pickF xs a [1, 1, 0], pickF xs (a + 1) [2, 2, 1], slot, nextF xs (a + 2) 3, [], []⟩])
theorem wIdD_bd (xs : List Int) (slot value : Int) : ∀ (f : Nat) (id a : Int) (l : List Msg), shortM 100 l →
    shortM 100 (wIdD xs slot value f id a l).1 ∧ (wIdD xs slot value f id a l).1.length ≤ l.length + 2 * f ∧ (wIdD xs slot value f id a l).2 = a + 2 * f
  | 0, id, a, l, hs => ⟨hs, Nat.le_refl _, by simp [wIdD]⟩
  | f + 1, id, a, l, hs => by
    have key : ∀ l', shortM 100 l' → l'.length ≤ l.length + 2 → shortM 100 (wIdD xs slot value f (id + 1) (a + 2) l').1 ∧ (wIdD xs slot value f (id + 1) (a + 2) l').1.length ≤ l.length + 2 * (f + 1) ∧ (wIdD xs slot value f (id + 1) (a + 2) l').2 = a + 2 * (f + 1 : Nat) := fun l' h1 h2 => by
      have := wIdD_bd xs slot value f (id + 1) (a + 2) l' h1
      exact ⟨this.1, by omega, by omega⟩
    unfold wIdD
    refine key _ ?_ ?_
    · split
      · split
        · simp only [List.append_nil]; exact hs.app (Nat.zero_le _) (Nat.zero_le _)
        · simp only [List.append_nil]; exact hs
      · split
        · exact (hs.app (Nat.zero_le _) (Nat.zero_le _)).app (Nat.zero_le _) (Nat.zero_le _)
        · simp only [List.append_nil]; exact hs.app (Nat.zero_le _) (Nat.zero_le _)
    · simp only [List.length_append]
      split <;> split <;> simp
theorem wSlotD_bd (xs : List Int) : ∀ (f : Nat) (slot a : Int) (l : List Msg), shortM 100 l →
    shortM 100 (wSlotD xs f slot a l).1 ∧ (wSlotD xs f slot a l).1.length ≤ l.length + 8 * f ∧ (wSlotD xs f slot a l).2 = a + 9 * f
  | 0, slot, a, l, hs => ⟨hs, Nat.le_refl _, by simp [wSlotD]⟩
  | f + 1, slot, a, l, hs => by
    unfold wSlotD
    have h1 := wIdD_bd xs slot (1 + nextF xs a 2) 4 1 (a + 1) l hs
    have := wSlotD_bd xs f (slot + 1) (wIdD xs slot (1 + nextF xs a 2) 4 1 (a + 1) l).2 (wIdD xs slot (1 + nextF xs a 2) 4 1 (a + 1) l).1 h1.1
    exact ⟨this.1, by omega, by omega⟩
theorem wChD_bd (xs : List Int) : ∀ (f : Nat) (id a : Int) (l : List Msg), shortM 100 l →
    shortM 100 (wChD xs f id a l).1 ∧ l.length ≤ (wChD xs f id a l).1.length ∧ (wChD xs f id a l).1.length ≤ l.length + f ∧ a ≤ (wChD xs f id a l).2 ∧ (wChD xs f id a l).2 ≤ a + 2 * f
  | 0, id, a, l, hs => ⟨hs, Nat.le_refl _, Nat.le_refl _, Int.le_refl _, by simp [wChD]⟩
  | f + 1, id, a, l, hs => by
    have hc := certsTo_len l id 1 30
    unfold wChD
    split
    · have := wChD_bd xs f (id + 1) (a + 1) l hs
      exact ⟨this.1, by omega, by omega, by omega, by omega⟩
    · split
      · have := wChD_bd xs f (id + 1) (a + 2) (l ++ [⟨4, 1, id, 0, 0, certsL l id 1 ++ [⟨9, 0, 1⟩], []⟩]) (hs.app (by unfold certsL; rw [List.length_append, List.length_singleton]; omega) (Nat.zero_le _))
        rw [List.length_append, List.length_singleton] at this
        exact ⟨this.1, by omega, by omega, by omega, by omega⟩
      · have := wChD_bd xs f (id + 1) (a + 2) (l ++ [⟨4, 1, id, 0, 0, certsL l id 1, []⟩]) (hs.app (by unfold certsL; simp only; omega) (Nat.zero_le _))
        rw [List.length_append, List.length_singleton] at this
        exact ⟨this.1, by omega, by omega, by omega, by omega⟩
theorem wPrD_bd (xs : List Int) : ∀ (f : Nat) (slot a : Int) (l : List Msg), shortM 100 l →
    shortM 100 (wPrD xs f slot a l).1 ∧ (wPrD xs f slot a l).1.length = l.length + f ∧ (wPrD xs f slot a l).2 = a + 3 * f
  | 0, slot, a, l, hs => ⟨hs, rfl, by simp [wPrD]⟩
  | f + 1, slot, a, l, hs => by
    unfold wPrD
    have := wPrD_bd xs f (slot + 1) (a + 3) (l ++ [⟨1, pickF xs a [1, 1, 0], pickF xs (a + 1) [2, 2, 1], slot, nextF xs (a + 2) 3, [], []⟩]) (hs.app (Nat.zero_le _) (Nat.zero_le _))
    rw [List.length_append, List.length_singleton] at this
    exact ⟨this.1, by omega, by omega⟩
noncomputable def chS (xs : List Int) (a : Int) : List Msg × Int := wChD xs 4 1 (wSlotD xs 2 1 a []).2 (wSlotD xs 2 1 a []).1
noncomputable def newS (xs : List Int) (a : Int) : Msg := ⟨5, 1, pickF xs (chS xs a).2 [2, 2, 2, 1], 0, 0, [], refsUp (wSlotD xs 2 1 a []).1.length ((chS xs a).1.length - (wSlotD xs 2 1 a []).1.length)⟩
noncomputable def world10 (xs : List Int) (a : Int) : List Msg × Int := wPrD xs 3 1 ((chS xs a).2 + 1) ((chS xs a).1 ++ [newS xs a])
theorem chS_bd (xs : List Int) (a : Int) : shortM 100 (chS xs a).1 ∧ (wSlotD xs 2 1 a []).1.length ≤ (chS xs a).1.length ∧ (chS xs a).1.length ≤ (wSlotD xs 2 1 a []).1.length + 4 ∧ (chS xs a).1.length ≤ 20 ∧ a + 18 ≤ (chS xs a).2 ∧ (chS xs a).2 ≤ a + 26 := by
  have s := wSlotD_bd xs 2 1 a [] (shortM_nil _)
  simp only [List.length_nil] at s
  have c := wChD_bd xs 4 1 (wSlotD xs 2 1 a []).2 (wSlotD xs 2 1 a []).1 s.1
  unfold chS
  exact ⟨c.1, c.2.1, c.2.2.1, by omega, by omega, by omega⟩
theorem world10_bd (xs : List Int) (a : Int) : shortM 100 (world10 xs a).1 ∧ (world10 xs a).1.length ≤ 24 ∧ a ≤ (world10 xs a).2 ∧ (world10 xs a).2 ≤ a + 40 := by
  have c := chS_bd xs a
  have hn : shortM 100 ((chS xs a).1 ++ [newS xs a]) := c.1.app (Nat.zero_le _) (by unfold newS; simp only [refsUp_len]; omega)
  have p := wPrD_bd xs 3 1 ((chS xs a).2 + 1) ((chS xs a).1 ++ [newS xs a]) hn
  rw [List.length_append, List.length_singleton] at p
  unfold world10
  exact ⟨p.1, by omega, by omega, by omega⟩
noncomputable def wrong10 (xs : List Int) (a : Int) : List Msg × Int := if nextF xs a 10 = 0 then wrongD xs (a + 1) else world10 xs (a + 1)
theorem wrong10_bd {xs : List Int} {a : Int} (h : okX xs a) (ha : a ≤ 900000) : shortM 100 (wrong10 xs a).1 ∧ (wrong10 xs a).1.length ≤ 241 ∧ a ≤ (wrong10 xs a).2 ∧ (wrong10 xs a).2 ≤ a + 3000 := by
  have h0 := h.2.2.1
  have r := wrongD_bd (h.to (b := a + 1) (by omega) (by omega))
  have w := world10_bd xs (a + 1)
  unfold wrong10
  split
  · exact ⟨r.1, r.2.1, by omega, by omega⟩
  · exact ⟨w.1, by omega, by omega, by omega⟩
/-! ### A place of a kind -/
noncomputable def plcTo (l : List Msg) (kind : Int) : Nat → List Int
  | 0 => []
  | i + 1 => plcTo l kind i ++ if (l.getD i default).kind = kind then [(i : Int)] else []
theorem plcTo_len (l : List Msg) (kind : Int) : ∀ i, (plcTo l kind i).length ≤ i
  | 0 => Nat.le_refl _
  | i + 1 => by
    have := plcTo_len l kind i
    unfold plcTo
    rw [List.length_append]
    split <;> simp <;> omega
noncomputable def placeD (xs : List Int) (a : Int) (l : List Msg) (kind : Int) : Int × Int :=
  if (plcTo l kind l.length).length = 0 then (nextF xs a 30 - 1, a + 1)
  else if nextF xs a 8 = 0 then (nextF xs (a + 1) 30 - 1, a + 2)
  else ((plcTo l kind l.length).getD (nextF xs (a + 1) (plcTo l kind l.length).length).toNat default, a + 2)
theorem placeD_bd (xs : List Int) (a : Int) (l : List Msg) (kind : Int) : a + 1 ≤ (placeD xs a l kind).2 ∧ (placeD xs a l kind).2 ≤ a + 2 := by
  unfold placeD
  split
  · exact ⟨by simp only; omega, by simp only; omega⟩
  · split
    · exact ⟨by simp only; omega, by simp only; omega⟩
    · exact ⟨by simp only; omega, by simp only; omega⟩

end Go.Av
