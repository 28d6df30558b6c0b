/- What a source draws: plain functions of its bytes and of the place. -/
import Derived.Test.YtgefdljcommhhaaGreatDoorC2
namespace Go.Av
set_option linter.unusedVariables false
set_option linter.unusedSimpArgs false

def okX (xs : List Int) (a : Int) : Prop := xs.length ≤ 1048576 ∧ (∀ x ∈ xs, 0 ≤ x ∧ x ≤ 255) ∧ 0 ≤ a ∧ a ≤ 1000000
theorem okX.to {xs : List Int} {a b : Int} (h : okX xs a) (h1 : 0 ≤ b) (h2 : b ≤ 1000000) : okX xs b := ⟨h.1, h.2.1, h1, h2⟩
def byteF (xs : List Int) (a : Int) : Int := xs.getD (a.tmod xs.length).toNat default
def nextF (xs : List Int) (a n : Int) : Int :=
  if n < 1 then 0 else if (xs.length : Int) = 0 then (a * 7).tmod n
  else if 200 < n then ((byteF xs a + a.tdiv xs.length * 37) * 251 + byteF xs (a + 1) * 13 + a).tmod n else (byteF xs a + a.tdiv xs.length * 37).tmod n
theorem byteF_bd {xs : List Int} {a : Int} (h : okX xs a) (b : Int) : 0 ≤ byteF xs b ∧ byteF xs b ≤ 255 := by
  unfold byteF
  rcases Nat.lt_or_ge (b.tmod xs.length).toNat xs.length with hl | hl
  · have hm : xs.getD (b.tmod xs.length).toNat default ∈ xs := by simp [hl]
    exact h.2.1 _ hm
  · have : xs.getD (b.tmod xs.length).toNat default = default := by simp [hl]
    rw [this]
    exact ⟨by decide, by decide⟩
theorem tdiv_bd {a : Int} (h : 0 ≤ a) (n : Nat) : 0 ≤ a.tdiv n ∧ a.tdiv n ≤ a := by
  obtain ⟨m, rfl⟩ := Int.eq_ofNat_of_zero_le h
  have e : ((m : Int)).tdiv (n : Int) = ((m / n : Nat) : Int) := rfl
  rw [e]
  have h1 := Nat.div_le_self m n
  exact ⟨Int.natCast_nonneg _, Int.ofNat_le.2 h1⟩
theorem tmod_bd {a : Int} (h : 0 ≤ a) {n : Int} (hn : 0 < n) : 0 ≤ a.tmod n ∧ a.tmod n < n := ⟨Int.tmod_nonneg _ h, Int.tmod_lt_of_pos _ hn⟩
theorem nextF_bd {xs : List Int} {a : Int} (h : okX xs a) (n : Int) : 0 ≤ nextF xs a n ∧ (1 ≤ n → nextF xs a n < n) ∧ (n < 1 → nextF xs a n = 0) := by
  have b1 := byteF_bd h a
  have b2 := byteF_bd h (a + 1)
  have b3 := tdiv_bd h.2.2.1 xs.length
  have h3 := h.2.2.1
  unfold nextF
  by_cases h1 : n < 1
  · rw [if_pos h1]
    exact ⟨by omega, fun g => by omega, fun _ => rfl⟩
  · rw [if_neg h1]
    have hn : 0 < n := by omega
    split
    · exact ⟨(tmod_bd (by omega) hn).1, fun _ => (tmod_bd (by omega) hn).2, fun g => absurd g h1⟩
    · split
      · exact ⟨(tmod_bd (by omega) hn).1, fun _ => (tmod_bd (by omega) hn).2, fun g => absurd g h1⟩
      · exact ⟨(tmod_bd (by omega) hn).1, fun _ => (tmod_bd (by omega) hn).2, fun g => absurd g h1⟩
def pickF (xs : List Int) (a : Int) (l : List Int) : Int := l.getD (nextF xs a l.length).toNat default

end Go.Av
