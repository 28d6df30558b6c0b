/- What a new view has to take over: plain functions on typed data. -/
import Derived.Test.YtakcaanpnmkccaaGreatP10
namespace Go.Av
set_option linter.unusedVariables false
set_option linter.unusedSimpArgs false

/-- The newest certificate of a slot among certificates: its view and value; -1 where there is none. -/
def newerC (slot : Int) (best : Int × Int) (c : Cert) : Int × Int := if c.slot = slot ∧ best.1 < c.view then (c.view, c.value) else best
def bestOf (cs : List Cert) (slot : Int) : Int × Int := cs.foldl (newerC slot) (-1, 0)
theorem bestOf_snoc (cs : List Cert) (c : Cert) (slot : Int) : bestOf (cs ++ [c]) slot = newerC slot (bestOf cs slot) c := by
  unfold bestOf
  rw [List.foldl_append]
  rfl
/-- The greatest slot. -/
def topOf (cs : List Cert) : Int := cs.foldl (fun m c => max m c.slot) 0
theorem topOf_snoc (cs : List Cert) (c : Cert) : topOf (cs ++ [c]) = max (topOf cs) c.slot := by
  unfold topOf
  rw [List.foldl_append]
  rfl
def certsUpTo (l : List Msg) (refs : List Int) (i : Nat) : List Cert := (refs.take i).flatMap fun r => (atM l r).certs
theorem certsUpTo_succ {l : List Msg} {refs : List Int} {i : Nat} (h : i < refs.length) : certsUpTo l refs (i + 1) = certsUpTo l refs i ++ (atM l (refs.getD i default)).certs := by
  unfold certsUpTo
  have h1 : refs.take (i + 1) = refs.take i ++ [refs.getD i default] := by
    rw [List.take_add_one]
    simp [h]
  rw [h1, List.flatMap_append]
  simp
def certsAll (l : List Msg) (refs : List Int) : List Cert := certsUpTo l refs refs.length
/-- What was seen: all of the first messages, and the first of the next one's. -/
def certsSeen (l : List Msg) (refs : List Int) (i k : Nat) : List Cert := certsUpTo l refs i ++ (atM l (refs.getD i default)).certs.take k
theorem certsSeen_succ {l : List Msg} {refs : List Int} {i k : Nat} (h : k < (atM l (refs.getD i default)).certs.length) : certsSeen l refs i (k + 1) = certsSeen l refs i k ++ [(atM l (refs.getD i default)).certs.getD k default] := by
  unfold certsSeen
  generalize (atM l (refs.getD i default)).certs = cs at *
  rw [List.take_add_one, List.append_assoc]
  simp [h]
theorem certsSeen_all {l : List Msg} {refs : List Int} {i : Nat} (h : i < refs.length) : certsSeen l refs i (atM l (refs.getD i default)).certs.length = certsUpTo l refs (i + 1) := by
  unfold certsSeen
  rw [certsUpTo_succ h, List.take_length]
theorem certsSeen_zero (l : List Msg) (refs : List Int) (i : Nat) : certsSeen l refs i 0 = certsUpTo l refs i := by simp [certsSeen]
def pickL (l : List Msg) (refs : List Int) : List Int := (List.range (topOf (certsAll l refs)).toNat).map fun s : Nat => (bestOf (certsAll l refs) (s + 1)).2
/-- All the places are those of changes. -/
def pickOk (l : List Msg) (refs : List Int) : Prop := ∀ r ∈ refs, isAt l r 4
theorem topOf_range {cs : List Cert} (h : ∀ c ∈ cs, 1 ≤ c.slot ∧ c.slot ≤ 30) : 0 ≤ topOf cs ∧ topOf cs ≤ 30 := by
  have key : ∀ (cs : List Cert) (m : Int), 0 ≤ m → m ≤ 30 → (∀ c ∈ cs, 1 ≤ c.slot ∧ c.slot ≤ 30) → 0 ≤ cs.foldl (fun m c => max m c.slot) m ∧ cs.foldl (fun m c => max m c.slot) m ≤ 30 := by
    intro cs
    induction cs with
    | nil => intro m h1 h2 _; exact ⟨h1, h2⟩
    | cons c r ih =>
      intro m h1 h2 h3
      have := h3 c (List.mem_cons_self ..)
      exact ih (max m c.slot) (by omega) (by omega) fun x hx => h3 x (List.mem_cons_of_mem _ hx)
  exact key cs 0 (by omega) (by omega) h
theorem seen_mem {l : List Msg} {refs : List Int} {i k : Nat} (hi : i < refs.length) {c : Cert} (h : c ∈ certsSeen l refs i k) : ∃ r ∈ refs, c ∈ (atM l r).certs := by
  unfold certsSeen certsUpTo at h
  rcases List.mem_append.1 h with h | h
  · obtain ⟨r, hr, hc⟩ := List.mem_flatMap.1 h
    exact ⟨r, List.mem_of_mem_take hr, hc⟩
  · exact ⟨refs.getD i default, by simp [hi], List.mem_of_mem_take h⟩
theorem upTo_mem {l : List Msg} {refs : List Int} {i : Nat} {c : Cert} (h : c ∈ certsUpTo l refs i) : ∃ r ∈ refs, c ∈ (atM l r).certs := by
  obtain ⟨r, hr, hc⟩ := List.mem_flatMap.1 h
  exact ⟨r, List.mem_of_mem_take hr, hc⟩

/-- Has a slot a certificate? -/
def hasK (cs : List Cert) (slot : Int) : Bool := decide (0 ≤ (bestOf cs slot).1)
theorem bestOf_ge (slot : Int) : ∀ (cs : List Cert) (b : Int × Int), b.1 ≤ (cs.foldl (newerC slot) b).1
  | [], b => by simp
  | c :: r, b => by
    have := bestOf_ge slot r (newerC slot b c)
    simp only [List.foldl_cons]
    have h : b.1 ≤ (newerC slot b c).1 := by
      unfold newerC
      split
      · rename_i h; simp only; omega
      · omega
    omega
theorem has_iff {cs : List Cert} (hv : ∀ c ∈ cs, 0 ≤ c.view) (slot : Int) : hasK cs slot = true ↔ ∃ c ∈ cs, c.slot = slot := by
  unfold hasK
  rw [decide_eq_true_eq]
  have key : ∀ (cs : List Cert) (b : Int × Int), (∀ c ∈ cs, 0 ≤ c.view) → (0 ≤ (cs.foldl (newerC slot) b).1 ↔ 0 ≤ b.1 ∨ ∃ c ∈ cs, c.slot = slot) := by
    intro cs
    induction cs with
    | nil => intro b _; simp
    | cons c r ih =>
      intro b hc
      have h0 := hc c (List.mem_cons_self ..)
      rw [List.foldl_cons, ih _ fun x hx => hc x (List.mem_cons_of_mem _ hx)]
      have hn : 0 ≤ (newerC slot b c).1 ↔ 0 ≤ b.1 ∨ c.slot = slot := by
        unfold newerC
        split
        · rename_i h
          exact ⟨fun _ => Or.inr h.1, fun _ => h0⟩
        · rename_i h
          constructor
          · exact Or.inl
          · rintro (g | g)
            · exact g
            · have : ¬ b.1 < c.view := fun e => h ⟨g, e⟩
              omega
      rw [hn]
      constructor
      · rintro ((g | g) | ⟨x, hx, g⟩)
        · exact Or.inl g
        · exact Or.inr ⟨c, List.mem_cons_self .., g⟩
        · exact Or.inr ⟨x, List.mem_cons_of_mem _ hx, g⟩
      · rintro (g | ⟨x, hx, g⟩)
        · exact Or.inl (Or.inl g)
        · rcases List.mem_cons.1 hx with rfl | hx
          · exact Or.inl (Or.inr g)
          · exact Or.inr ⟨x, hx, g⟩
  have := key cs (-1, 0) hv
  unfold bestOf
  rw [this]
  simp
theorem topOf_ge {cs : List Cert} : (∀ c ∈ cs, c.slot ≤ topOf cs) ∧ 0 ≤ topOf cs ∧ (topOf cs = 0 ∨ ∃ c ∈ cs, c.slot = topOf cs) := by
  have key : ∀ (cs : List Cert) (m : Int), m ≤ cs.foldl (fun m c => max m c.slot) m ∧ (∀ c ∈ cs, c.slot ≤ cs.foldl (fun m c => max m c.slot) m) ∧
      (cs.foldl (fun m c => max m c.slot) m = m ∨ ∃ c ∈ cs, c.slot = cs.foldl (fun m c => max m c.slot) m) := by
    intro cs
    induction cs with
    | nil => intro m; simp
    | cons c r ih =>
      intro m
      obtain ⟨h1, h2, h3⟩ := ih (max m c.slot)
      simp only [List.foldl_cons]
      refine ⟨by omega, fun x hx => ?_, ?_⟩
      · rcases List.mem_cons.1 hx with rfl | hx
        · omega
        · exact h2 x hx
      · rcases h3 with h3 | ⟨x, hx, h3⟩
        · rcases Int.le_total m c.slot with g | g
          · exact Or.inr ⟨c, List.mem_cons_self .., by omega⟩
          · exact Or.inl (by omega)
        · exact Or.inr ⟨x, List.mem_cons_of_mem _ hx, h3⟩
  obtain ⟨h1, h2, h3⟩ := key cs 0
  exact ⟨h2, h1, h3⟩
/-- The last slot up to one that has a certificate. -/
def lastTop (cs : List Cert) : Nat → Int
  | 0 => 0
  | s + 1 => if hasK cs (s + 1) = true then s + 1 else lastTop cs s
theorem lastTop_eq {cs : List Cert} (hv : ∀ c ∈ cs, 0 ≤ c.view) (hs : ∀ c ∈ cs, 1 ≤ c.slot) : ∀ n : Nat, (0 ≤ lastTop cs n ∧ lastTop cs n ≤ n) ∧ (lastTop cs n = 0 ∨ ∃ c ∈ cs, c.slot = lastTop cs n) ∧ ∀ c ∈ cs, c.slot ≤ n → c.slot ≤ lastTop cs n
  | 0 => ⟨by simp [lastTop], Or.inl rfl, fun c hc h => by have := hs c hc; omega⟩
  | n + 1 => by
    obtain ⟨h1, h2, h3⟩ := lastTop_eq hv hs n
    unfold lastTop
    split
    · rename_i h
      obtain ⟨c, hc, e⟩ := (has_iff hv _).1 h
      exact ⟨by omega, Or.inr ⟨c, hc, e⟩, fun x hx g => by omega⟩
    · rename_i h
      refine ⟨by omega, h2, fun x hx g => ?_⟩
      rcases Int.lt_or_le (n : Int) x.slot with g2 | g2
      · exact absurd ((has_iff hv _).2 ⟨x, hx, by omega⟩) h
      · exact h3 x hx g2
theorem lastTop_top {cs : List Cert} (hv : ∀ c ∈ cs, 0 ≤ c.view) (hs : ∀ c ∈ cs, 1 ≤ c.slot ∧ c.slot ≤ 30) : lastTop cs 30 = topOf cs := by
  obtain ⟨h1, h2, h3⟩ := lastTop_eq hv (fun c hc => (hs c hc).1) 30
  obtain ⟨g1, g2, g3⟩ := topOf_ge (cs := cs)
  have a : topOf cs ≤ lastTop cs 30 := by
    rcases g3 with g3 | ⟨c, hc, g3⟩
    · omega
    · have := h3 c hc (hs c hc).2
      omega
  have b : lastTop cs 30 ≤ topOf cs := by
    rcases h2 with h2 | ⟨c, hc, h2⟩
    · omega
    · have := g1 c hc
      omega
  omega

end Go.Av
