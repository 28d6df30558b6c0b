/- What a source draws: plain functions of its bytes and of the place. -/
import Derived.Test.YtakcaanpnmkccaaGreatP8
namespace Go.Av
set_option linter.unusedVariables false
set_option linter.unusedSimpArgs false

def okX (xs : List Int) (a : Int) : Prop := xs.length ≤ 1048576 ∧ (∀ x ∈ xs, 0 ≤ x ∧ x ≤ 255) ∧ 0 ≤ a ∧ a ≤ 1000000
theorem okX.to {xs : List Int} {a b : Int} (h : okX xs a) (h1 : 0 ≤ b) (h2 : b ≤ 1000000) : okX xs b := ⟨h.1, h.2.1, h1, h2⟩
def byteF (xs : List Int) (a : Int) : Int := xs.getD (a.tmod xs.length).toNat default
def nextF (xs : List Int) (a n : Int) : Int :=
  if n < 1 then 0 else if (xs.length : Int) = 0 then (a * 7).tmod n
  else if 200 < n then ((byteF xs a + a.tdiv xs.length * 37) * 251 + byteF xs (a + 1) * 13 + a).tmod n else (byteF xs a + a.tdiv xs.length * 37).tmod n
theorem byteF_bd {xs : List Int} {a : Int} (h : okX xs a) (b : Int) : 0 ≤ byteF xs b ∧ byteF xs b ≤ 255 := by
  unfold byteF
  rcases Nat.lt_or_ge (b.tmod xs.length).toNat xs.length with hl | hl
  · have hm : xs.getD (b.tmod xs.length).toNat default ∈ xs := by simp [hl]
    exact h.2.1 _ hm
  · have : xs.getD (b.tmod xs.length).toNat default = default := by simp [hl]
    rw [this]
    exact ⟨by decide, by decide⟩
theorem tdiv_bd {a : Int} (h : 0 ≤ a) (n : Nat) : 0 ≤ a.tdiv n ∧ a.tdiv n ≤ a := by
  obtain ⟨m, rfl⟩ := Int.eq_ofNat_of_zero_le h
  have e : ((m : Int)).tdiv (n : Int) = ((m / n : Nat) : Int) := rfl
  rw [e]
  have h1 := Nat.div_le_self m n
  exact ⟨Int.natCast_nonneg _, Int.ofNat_le.2 h1⟩
theorem tmod_bd {a : Int} (h : 0 ≤ a) {n : Int} (hn : 0 < n) : 0 ≤ a.tmod n ∧ a.tmod n < n := ⟨Int.tmod_nonneg _ h, Int.tmod_lt_of_pos _ hn⟩
theorem nextF_bd {xs : List Int} {a : Int} (h : okX xs a) (n : Int) : 0 ≤ nextF xs a n ∧ (1 ≤ n → nextF xs a n < n) ∧ (n < 1 → nextF xs a n = 0) := by
  have b1 := byteF_bd h a
  have b2 := byteF_bd h (a + 1)
  have b3 := tdiv_bd h.2.2.1 xs.length
  have h3 := h.2.2.1
  unfold nextF
  by_cases h1 : n < 1
  · rw [if_pos h1]
    exact ⟨by omega, fun g => by omega, fun _ => rfl⟩
  · rw [if_neg h1]
    have hn : 0 < n := by omega
    split
    · exact ⟨(tmod_bd (by omega) hn).1, fun _ => (tmod_bd (by omega) hn).2, fun g => absurd g h1⟩
    · split
      · exact ⟨(tmod_bd (by omega) hn).1, fun _ => (tmod_bd (by omega) hn).2, fun g => absurd g h1⟩
      · exact ⟨(tmod_bd (by omega) hn).1, fun _ => (tmod_bd (by omega) hn).2, fun g => absurd g h1⟩
def pickF (xs : List Int) (a : Int) (l : List Int) : Int := l.getD (nextF xs a l.length).toNat default

/-! ### A message -/
def certsD (xs : List Int) (view : Int) : Nat → Int → Int → List Cert → List Cert × Int
  | 0, _, a, l => (l, a)
  | f + 1, k, a, l => if k < 4 ∧ 0 < view then (if nextF xs a 3 = 0 then certsD xs view f (k + 1) (a + 3) (l ++ [⟨k, nextF xs (a + 1) view, nextF xs (a + 2) 3⟩]) else certsD xs view f (k + 1) (a + 1) l) else (l, a)
def refsD (xs : List Int) (n : Int) : Nat → Int → Int → List Int → List Int × Int
  | 0, _, a, l => (l, a)
  | f + 1, k, a, l => if k < n ∧ l.length < 4 then (if nextF xs a 3 = 0 then refsD xs n f (k + 1) (a + 1) (l ++ [k]) else refsD xs n f (k + 1) (a + 1) l) else (l, a)
theorem certsD_bd (xs : List Int) (view : Int) : ∀ (f : Nat) (k a : Int) (l : List Cert), (certsD xs view f k a l).1.length ≤ l.length + f ∧ a ≤ (certsD xs view f k a l).2 ∧ (certsD xs view f k a l).2 ≤ a + 3 * f
  | 0, k, a, l => ⟨Nat.le_refl _, Int.le_refl _, by simp [certsD]⟩
  | f + 1, k, a, l => by
    unfold certsD
    split
    · split
      · have := certsD_bd xs view f (k + 1) (a + 3) (l ++ [⟨k, nextF xs (a + 1) view, nextF xs (a + 2) 3⟩])
        rw [List.length_append, List.length_singleton] at this
        omega
      · have := certsD_bd xs view f (k + 1) (a + 1) l
        omega
    · simp only
      omega
theorem refsD_bd (xs : List Int) (n : Int) : ∀ (f : Nat) (k a : Int) (l : List Int), (refsD xs n f k a l).1.length ≤ l.length + f ∧ a ≤ (refsD xs n f k a l).2 ∧ (refsD xs n f k a l).2 ≤ a + f
  | 0, k, a, l => ⟨Nat.le_refl _, Int.le_refl _, by simp [refsD]⟩
  | f + 1, k, a, l => by
    unfold refsD
    split
    · split
      · have := refsD_bd xs n f (k + 1) (a + 1) (l ++ [k])
        rw [List.length_append, List.length_singleton] at this
        omega
      · have := refsD_bd xs n f (k + 1) (a + 1) l
        omega
    · simp only
      omega
def drawK (xs : List Int) (a : Int) : Int := pickF xs a [1, 2, 2, 3, 3, 4, 5]
def drawV (xs : List Int) (a : Int) : Int := nextF xs (a + 1) 3
def drawS (xs : List Int) (a : Int) : Int := 1 + nextF xs (a + 2) 4
noncomputable def drawM (xs : List Int) (a n : Int) : Msg × Int :=
  if drawK xs a = 4 then (⟨drawK xs a, drawV xs a, drawS xs a, 0, 0, (certsD xs (drawV xs a) 3 1 (a + 3) []).1, []⟩, (certsD xs (drawV xs a) 3 1 (a + 3) []).2)
  else if drawK xs a = 5 then (⟨drawK xs a, drawV xs a, drawS xs a, 0, 0, [], (refsD xs n n.toNat 0 (a + 3) []).1⟩, (refsD xs n n.toNat 0 (a + 3) []).2)
  else (⟨drawK xs a, drawV xs a, drawS xs a, 1 + nextF xs (a + 3) 2, nextF xs (a + 4) 3, [], []⟩, a + 5)
theorem drawM_bd (xs : List Int) (a n : Int) : (drawM xs a n).1.certs.length ≤ 3 ∧ (drawM xs a n).1.refs.length ≤ n.toNat ∧ a ≤ (drawM xs a n).2 ∧ (drawM xs a n).2 ≤ a + 12 + n.toNat := by
  have h1 := certsD_bd xs (drawV xs a) 3 1 (a + 3) []
  have h2 := refsD_bd xs n n.toNat 0 (a + 3) []
  simp only [List.length_nil] at h1 h2
  unfold drawM
  split
  · exact ⟨by simp only; omega, Nat.zero_le _, by simp only; omega, by simp only; omega⟩
  · split
    · exact ⟨Nat.zero_le _, by simp only; omega, by simp only; omega, by simp only; omega⟩
    · exact ⟨Nat.zero_le _, Nat.zero_le _, by simp only; omega, by simp only; omega⟩
noncomputable def bentM (xs : List Int) (a : Int) : Msg × Int :=
  let d := drawM xs a 6
  let j := nextF xs d.2 12
  if j = 0 then (⟨pickF xs (d.2 + 1) [0, 1, 4, 6], d.1.view, d.1.sender, d.1.slot, d.1.value, d.1.certs, d.1.refs⟩, d.2 + 2)
  else if j = 1 then (⟨d.1.kind, pickF xs (d.2 + 1) [-1, 20, 21], d.1.sender, d.1.slot, d.1.value, d.1.certs, d.1.refs⟩, d.2 + 2)
  else if j = 2 then (⟨d.1.kind, d.1.view, pickF xs (d.2 + 1) [0, 4, 7, 8], d.1.slot, d.1.value, d.1.certs, d.1.refs⟩, d.2 + 2)
  else if j = 3 then (⟨d.1.kind, d.1.view, d.1.sender, pickF xs (d.2 + 1) [0, 30, 31], d.1.value, d.1.certs, d.1.refs⟩, d.2 + 2)
  else if j = 4 then (⟨d.1.kind, d.1.view, d.1.sender, d.1.slot, pickF xs (d.2 + 1) [-1, 12, 13], d.1.certs, d.1.refs⟩, d.2 + 2)
  else if j = 5 then (⟨d.1.kind, d.1.view, d.1.sender, d.1.slot, d.1.value, d.1.certs ++ [⟨1, 0, 1⟩], d.1.refs⟩, d.2 + 1)
  else (d.1, d.2 + 1)
theorem bentM_bd (xs : List Int) (a : Int) : (bentM xs a).1.certs.length ≤ 4 ∧ (bentM xs a).1.refs.length ≤ 6 ∧ a ≤ (bentM xs a).2 ∧ (bentM xs a).2 ≤ a + 20 := by
  have h := drawM_bd xs a 6
  have e : (6 : Int).toNat = 6 := rfl
  rw [e] at h
  unfold bentM
  simp only
  repeat' split
  all_goals (try simp only [List.length_append, List.length_singleton]) <;> omega
/-! ### Many messages -/
noncomputable def manyD (xs : List Int) : Nat → Int → List Msg → List Msg × Int
  | 0, a, l => (l, a)
  | f + 1, a, l => manyD xs f (drawM xs a l.length).2 (if (drawM xs a l.length).1 ∈ l then l else l ++ [(drawM xs a l.length).1])
/-- Messages of some length. -/
def shortM (n : Nat) (l : List Msg) : Prop := ∀ m ∈ l, m.certs.length ≤ n ∧ m.refs.length ≤ n
theorem shortM.app {n : Nat} {l : List Msg} {m : Msg} (h : shortM n l) (h1 : m.certs.length ≤ n) (h2 : m.refs.length ≤ n) : shortM n (l ++ [m]) := by
  intro x hx
  rcases List.mem_append.1 hx with hx | hx
  · exact h x hx
  · have : x = m := by simpa using hx
    subst this
    exact ⟨h1, h2⟩
theorem manyD_bd (xs : List Int) : ∀ (f : Nat) (a : Int) (l : List Msg), l.length + f ≤ 100 → shortM 100 l → shortM 100 (manyD xs f a l).1 ∧ (manyD xs f a l).1.length ≤ l.length + f ∧ a ≤ (manyD xs f a l).2 ∧ (manyD xs f a l).2 ≤ a + 112 * f
  | 0, a, l, hl, hs => ⟨hs, Nat.le_refl _, Int.le_refl _, by simp [manyD]⟩
  | f + 1, a, l, hl, hs => by
    have h := drawM_bd xs a l.length
    rw [Int.toNat_natCast] at h
    unfold manyD
    by_cases hm : (drawM xs a l.length).1 ∈ l
    · rw [if_pos hm]
      have := manyD_bd xs f (drawM xs a l.length).2 l (by omega) hs
      exact ⟨this.1, by omega, by omega, by omega⟩
    · rw [if_neg hm]
      have := manyD_bd xs f (drawM xs a l.length).2 (l ++ [(drawM xs a l.length).1]) (by rw [List.length_append, List.length_singleton]; omega) (hs.app (by omega) (by omega))
      rw [List.length_append, List.length_singleton] at this
      exact ⟨this.1, by omega, by omega, by omega⟩
noncomputable def wrongD (xs : List Int) (a : Int) : List Msg × Int :=
  let d := manyD xs (nextF xs a 16).toNat (a + 1) []
  if nextF xs d.2 12 = 0 then (d.1 ++ [(bentM xs (d.2 + 1)).1], (bentM xs (d.2 + 1)).2)
  else if nextF xs d.2 12 = 1 then (List.replicate 241 default, d.2 + 1)
  else (d.1, d.2 + 1)
theorem shortM_nil (n : Nat) : shortM n [] := fun x hx => by cases hx
theorem wrongD_bd {xs : List Int} {a : Int} (h : okX xs a) : shortM 100 (wrongD xs a).1 ∧ (wrongD xs a).1.length ≤ 241 ∧ a ≤ (wrongD xs a).2 ∧ (wrongD xs a).2 ≤ a + 2000 := by
  have n1 := nextF_bd h 16
  have hf : (nextF xs a 16).toNat ≤ 15 := by omega
  have d := manyD_bd xs (nextF xs a 16).toNat (a + 1) [] (by simp; omega) (shortM_nil _)
  simp only [List.length_nil] at d
  have b := bentM_bd xs ((manyD xs (nextF xs a 16).toNat (a + 1) []).2 + 1)
  unfold wrongD
  simp only
  split
  · refine ⟨d.1.app (by omega) (by omega), ?_, ?_, ?_⟩
    · simp only [List.length_append, List.length_singleton]; omega
    · simp only; omega
    · simp only; omega
  · split
    · refine ⟨fun x hx => ?_, by rw [List.length_replicate]; omega, by simp only; omega, by simp only; omega⟩
      rw [(List.mem_replicate.1 hx).2]
      exact ⟨Nat.zero_le _, Nat.zero_le _⟩
    · exact ⟨d.1, by simp only; omega, by simp only; omega, by simp only; omega⟩
/-! ### A world -/
noncomputable def idD (xs : List Int) (kind slot view value : Int) : Nat → Int → Int → List Msg → List Msg × Int
  | 0, _, a, l => (l, a)
  | f + 1, id, a, l => idD xs kind slot view value f (id + 1) (a + 1) (if nextF xs a 5 = 0 then l else l ++ [⟨kind, view, id, slot, value, [], []⟩])
noncomputable def kindD (xs : List Int) (slot view value : Int) : Nat → Int → Int → List Msg → List Msg × Int
  | 0, _, a, l => (l, a)
  | f + 1, kind, a, l => kindD xs slot view value f (kind + 1) (idD xs kind slot view value 4 1 a l).2 (idD xs kind slot view value 4 1 a l).1
noncomputable def slotD (xs : List Int) : Nat → Int → Int → List Msg → List Msg × Int
  | 0, _, a, l => (l, a)
  | f + 1, slot, a, l => slotD xs f (slot + 1) (kindD xs slot (nextF xs a 2) (nextF xs (a + 1) 3) 2 2 (a + 2) l).2 (kindD xs slot (nextF xs a 2) (nextF xs (a + 1) 3) 2 2 (a + 2) l).1
theorem idD_bd (xs : List Int) (kind slot view value : Int) : ∀ (f : Nat) (id a : Int) (l : List Msg), shortM 100 l →
    shortM 100 (idD xs kind slot view value f id a l).1 ∧ (idD xs kind slot view value f id a l).1.length ≤ l.length + f ∧ (idD xs kind slot view value f id a l).2 = a + f
  | 0, id, a, l, hs => ⟨hs, Nat.le_refl _, by simp [idD]⟩
  | f + 1, id, a, l, hs => by
    unfold idD
    split
    · have := idD_bd xs kind slot view value f (id + 1) (a + 1) l hs
      exact ⟨this.1, by omega, by omega⟩
    · have := idD_bd xs kind slot view value f (id + 1) (a + 1) (l ++ [⟨kind, view, id, slot, value, [], []⟩]) (hs.app (Nat.zero_le _) (Nat.zero_le _))
      rw [List.length_append, List.length_singleton] at this
      exact ⟨this.1, by omega, by omega⟩
theorem kindD_bd (xs : List Int) (slot view value : Int) : ∀ (f : Nat) (kind a : Int) (l : List Msg), shortM 100 l →
    shortM 100 (kindD xs slot view value f kind a l).1 ∧ (kindD xs slot view value f kind a l).1.length ≤ l.length + 4 * f ∧ (kindD xs slot view value f kind a l).2 = a + 4 * f
  | 0, kind, a, l, hs => ⟨hs, Nat.le_refl _, by simp [kindD]⟩
  | f + 1, kind, a, l, hs => by
    unfold kindD
    have h1 := idD_bd xs kind slot view value 4 1 a l hs
    have := kindD_bd xs slot view value f (kind + 1) (idD xs kind slot view value 4 1 a l).2 (idD xs kind slot view value 4 1 a l).1 h1.1
    exact ⟨this.1, by omega, by omega⟩
theorem slotD_bd (xs : List Int) : ∀ (f : Nat) (slot a : Int) (l : List Msg), shortM 100 l →
    shortM 100 (slotD xs f slot a l).1 ∧ (slotD xs f slot a l).1.length ≤ l.length + 8 * f ∧ (slotD xs f slot a l).2 = a + 10 * f
  | 0, slot, a, l, hs => ⟨hs, Nat.le_refl _, by simp [slotD]⟩
  | f + 1, slot, a, l, hs => by
    unfold slotD
    have h1 := kindD_bd xs slot (nextF xs a 2) (nextF xs (a + 1) 3) 2 2 (a + 2) l hs
    have := slotD_bd xs f (slot + 1) (kindD xs slot (nextF xs a 2) (nextF xs (a + 1) 3) 2 2 (a + 2) l).2 (kindD xs slot (nextF xs a 2) (nextF xs (a + 1) 3) 2 2 (a + 2) l).1 h1.1
    exact ⟨this.1, by omega, by omega⟩
noncomputable def worldL (xs : List Int) (a : Int) : List Msg × Int := manyD xs (nextF xs (slotD xs 2 1 a []).2 4).toNat ((slotD xs 2 1 a []).2 + 1) (slotD xs 2 1 a []).1
noncomputable def worldD (xs : List Int) (a : Int) : List Msg × Int :=
  if nextF xs (worldL xs a).2 14 = 0 then wrongD xs ((worldL xs a).2 + 1) else ((worldL xs a).1, (worldL xs a).2 + 1)
theorem worldL_bd {xs : List Int} {a : Int} (h : okX xs a) (ha : a ≤ 900000) : shortM 100 (worldL xs a).1 ∧ (worldL xs a).1.length ≤ 19 ∧ a ≤ (worldL xs a).2 ∧ (worldL xs a).2 ≤ a + 400 := by
  have s := slotD_bd xs 2 1 a [] (shortM_nil _)
  simp only [List.length_nil] at s
  have h0 := h.2.2.1
  have n1 := nextF_bd (h.to (b := (slotD xs 2 1 a []).2) (by omega) (by omega)) 4
  have hf : (nextF xs (slotD xs 2 1 a []).2 4).toNat ≤ 3 := by omega
  have d := manyD_bd xs (nextF xs (slotD xs 2 1 a []).2 4).toNat ((slotD xs 2 1 a []).2 + 1) (slotD xs 2 1 a []).1 (by omega) s.1
  unfold worldL
  exact ⟨d.1, by omega, by omega, by omega⟩
theorem worldD_bd {xs : List Int} {a : Int} (h : okX xs a) (ha : a ≤ 900000) : shortM 100 (worldD xs a).1 ∧ (worldD xs a).1.length ≤ 241 ∧ a ≤ (worldD xs a).2 ∧ (worldD xs a).2 ≤ a + 3000 := by
  have w := worldL_bd h ha
  have h0 := h.2.2.1
  have r := wrongD_bd (h.to (b := (worldL xs a).2 + 1) (by omega) (by omega))
  unfold worldD
  split
  · exact ⟨r.1, r.2.1, by omega, by omega⟩
  · exact ⟨w.1, by simp only; omega, by simp only; omega, by simp only; omega⟩

end Go.Av
