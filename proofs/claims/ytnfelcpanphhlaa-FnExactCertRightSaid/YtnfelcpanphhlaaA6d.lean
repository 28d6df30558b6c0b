/- A region whose order is drawn: whatever the order, what the text's order tells. -/
import Derived.Orders
import Derived.Test.YtnfelcpanphhlaaA6c
namespace Go.Av

/-- States that answer every look alike. -/
def Same (s s' : AS) : Prop := (∀ t, lk s.T t = lk s'.T t) ∧ ∀ id, lk s.S id = lk s'.S id

theorem Same.rfl' {s : AS} : Same s s := ⟨fun _ => rfl, fun _ => rfl⟩
theorem Same.trans {s s' s'' : AS} (h : Same s s') (h' : Same s' s'') : Same s s'' := ⟨fun t => (h.1 t).trans (h'.1 t), fun t => (h.2 t).trans (h'.2 t)⟩
theorem Same.symm {s s' : AS} (h : Same s s') : Same s' s := ⟨fun t => (h.1 t).symm, fun t => (h.2 t).symm⟩

theorem lk_applyUpd_congr {upd : List (Nat × Option Blk)} : ∀ {S S' : List (Nat × Blk)} {id : Nat}, lk S id = lk S' id → lk (applyUpd S upd) id = lk (applyUpd S' upd) id := by
  induction upd with
  | nil => intro S S' id h; exact h
  | cons p r ih =>
    intro S S' id h
    obtain ⟨k, b⟩ := p
    cases b with
    | none => exact ih (by rw [lk_del, lk_del, h])
    | some b => exact ih (by rw [lk_put, lk_put, h])

theorem lk_applyUpd_in {upd : List (Nat × Option Blk)} : ∀ {S S' : List (Nat × Blk)} {id : Nat}, (∃ p ∈ upd, p.1 = id) → lk (applyUpd S upd) id = lk (applyUpd S' upd) id := by
  induction upd with
  | nil => rintro S S' id ⟨p, hp, _⟩; simp at hp
  | cons q r ih =>
    intro S S' id h
    obtain ⟨k, b⟩ := q
    by_cases hk : id = k
    · cases b with
      | none => exact lk_applyUpd_congr (S := del S k) (S' := del S' k) (by rw [lk_del, lk_del]; simp [hk])
      | some b => exact lk_applyUpd_congr (S := put S k b) (S' := put S' k b) (by rw [lk_put, lk_put]; simp [hk])
    · have hr : ∃ p ∈ r, p.1 = id := by
        obtain ⟨p, hp, he⟩ := h
        rcases List.mem_cons.1 hp with rfl | hp
        · exact absurd he.symm hk
        · exact ⟨p, hp, he⟩
      cases b with
      | none => exact ih hr
      | some b => exact ih hr

theorem Same.app {s s' : AS} (h : Same s s') (dst : Option Tmp) (e : Ef) : Same (s.app dst e) (s'.app dst e) := by
  refine ⟨fun t => ?_, fun id => lk_applyUpd_congr (h.2 id)⟩
  cases dst with
  | none => exact h.1 t
  | some d =>
    show lk (put s.T d e.v) t = lk (put s'.T d e.v) t
    rw [lk_put, lk_put, h.1 t]

/-- Two effects that do not touch. -/
structure Apart (o : Oper) (e : Ef) (o' : Oper) (e' : Ef) : Prop where
  dst : ∀ d, o.dst = some d → o'.dst ≠ some d
  upd : ∀ p ∈ e.upd, ∀ q ∈ e'.upd, p.1 ≠ q.1

theorem app_comm {s : AS} {o o' : Oper} {e e' : Ef} (h : Apart o e o' e') : Same ((s.app o.dst e).app o'.dst e') ((s.app o'.dst e').app o.dst e) := by
  constructor
  · intro t
    cases h1 : o.dst with
    | none => rfl
    | some d =>
      cases h2 : o'.dst with
      | none => rfl
      | some d' =>
        have hne : d ≠ d' := fun he => h.dst d h1 (by rw [h2, he])
        show lk (put (put s.T d e.v) d' e'.v) t = lk (put (put s.T d' e'.v) d e.v) t
        simp only [lk_put]
        by_cases a : t = d' <;> by_cases b : t = d <;> simp [a, b]
        · exact absurd (b.symm.trans a) hne
        · intro hh; exact absurd hh.symm hne
        · intro hh; exact absurd hh hne
  · intro id
    show lk (applyUpd (applyUpd s.S e.upd) e'.upd) id = lk (applyUpd (applyUpd s.S e'.upd) e.upd) id
    by_cases h1 : ∃ p ∈ e.upd, p.1 = id
    · obtain ⟨p, hp, he⟩ := h1
      rw [lk_applyUpd_not (S := applyUpd s.S e.upd) (upd := e'.upd) fun q hq hqe => h.upd p hp q hq (he.trans hqe.symm)]
      exact lk_applyUpd_in ⟨p, hp, he⟩
    · rw [lk_applyUpd_not (upd := e.upd) fun p hp he => h1 ⟨p, hp, he⟩]
      exact lk_applyUpd_congr (lk_applyUpd_not fun p hp he => h1 ⟨p, hp, he⟩)

/-- The effects of those operations that are done, in the text's order. -/
def foldD (D : Nat → Bool) : List (Oper × Ef) → Nat → AS → AS
  | [], _, s => s
  | p :: r, i, s => foldD D r (i + 1) (if D i then s.app p.1.dst p.2 else s)

theorem foldD_congr {D D' : Nat → Bool} : ∀ {L : List (Oper × Ef)} {k : Nat} {s : AS}, (∀ j, k ≤ j → j < k + L.length → D j = D' j) → foldD D L k s = foldD D' L k s
  | [], _, _, _ => rfl
  | p :: r, k, s, h => by
    simp only [foldD]
    rw [h k (Nat.le_refl _) (by simp), foldD_congr fun j h1 h2 => h j (by omega) (by simp only [List.length_cons]; omega)]

theorem foldD_same {D : Nat → Bool} : ∀ {L : List (Oper × Ef)} {k : Nat} {s s' : AS}, Same s s' → Same (foldD D L k s) (foldD D L k s')
  | [], _, _, _, h => h
  | p :: r, k, s, s', h => by
    simp only [foldD]
    refine foldD_same ?_
    split
    · exact h.app _ _
    · exact h

theorem foldD_none {D : Nat → Bool} : ∀ {L : List (Oper × Ef)} {k : Nat} {s : AS}, (∀ j, k ≤ j → D j = false) → foldD D L k s = s
  | [], _, _, _ => rfl
  | p :: r, k, s, h => by
    simp only [foldD, h k (Nat.le_refl _)]
    exact foldD_none fun j hj => h j (by omega)

theorem foldD_shift {D : Nat → Bool} : ∀ {L : List (Oper × Ef)} {k : Nat} {s : AS}, foldD D L (k + 1) s = foldD (fun j => D (j + 1)) L k s
  | [], _, _ => rfl
  | p :: r, k, s => by simp only [foldD]; exact foldD_shift

/-- One effect ahead of all that is done behind it may as well stand last. -/
theorem foldD_late {D : Nat → Bool} {o : Oper} {e : Ef} : ∀ {L : List (Oper × Ef)} {k : Nat} {s : AS}, (∀ j p, L[j]? = some p → D (k + j) = true → Apart o e p.1 p.2) →
    Same (foldD D L k (s.app o.dst e)) ((foldD D L k s).app o.dst e)
  | [], _, _, _ => Same.rfl'
  | p :: r, k, s, h => by
    have ih := fun s => foldD_late (D := D) (o := o) (e := e) (L := r) (k := k + 1) (s := s) fun j q hj hd => h (j + 1) q (by simpa using hj) (by rw [← hd]; congr 1; omega)
    simp only [foldD]
    cases hd : D k with
    | true =>
      have := app_comm (s := s) (h 0 p (by simp) (by simpa using hd))
      exact (foldD_same this).trans (ih _)
    | false => exact ih _

theorem foldD_set {D : Nat → Bool} {o : Oper} {e : Ef} {i : Nat} : ∀ {L : List (Oper × Ef)} {k j : Nat} {s : AS}, i = k + j → L[j]? = some (o, e) → D i = false →
    (∀ j' p, L[j']? = some p → i < k + j' → D (k + j') = true → Apart o e p.1 p.2) → Same (foldD (fun x => D x || Nat.beq x i) L k s) ((foldD D L k s).app o.dst e)
  | [], _, _, _, _, h, _, _ => by simp at h
  | p :: r, k, 0, s, hi, hp, hD, ha => by
    have hp' : p = (o, e) := by simpa using hp
    subst hp'
    have hik : i = k := by omega
    subst hik
    simp only [foldD, hD, natBeq.2 rfl, Bool.false_or, if_true, Bool.false_eq_true, if_false]
    rw [foldD_congr (D' := D) fun j h1 _ => by rw [natBeqF.2 (by omega : j ≠ i)]; simp]
    exact foldD_late fun j q hq hd => ha (j + 1) q (by simpa using hq) (by omega) (by rw [← hd]; congr 1; omega)
  | p :: r, k, j + 1, s, hi, hp, hD, ha => by
    have hk : Nat.beq k i = false := natBeqF.2 (by omega)
    simp only [foldD, hk, Bool.or_false]
    exact foldD_set (j := j) (by omega) (by simpa using hp) hD fun j' q hq hlt hd => ha (j' + 1) q (by simpa using hq) (by omega) (by rw [← hd]; congr 1; omega)

theorem foldD_T {D D' : Nat → Bool} {t : Nat} : ∀ {L : List (Oper × Ef)} {k : Nat} {s s' : AS}, lk s.T t = lk s'.T t → (∀ j p, L[j]? = some p → D (k + j) ≠ D' (k + j) → p.1.dst ≠ some t) →
    lk (foldD D L k s).T t = lk (foldD D' L k s').T t
  | [], _, _, _, h, _ => h
  | p :: r, k, s, s', h, ha => by
    simp only [foldD]
    refine foldD_T ?_ fun j q hq hne => ha (j + 1) q (by simpa using hq) (by rw [show k + (j + 1) = k + 1 + j by omega]; exact hne)
    have hone : ∀ s : AS, p.1.dst ≠ some t → lk (s.app p.1.dst p.2).T t = lk s.T t := by
      intro s hne
      cases hd : p.1.dst with
      | none => rfl
      | some d =>
        show lk (put s.T d p.2.v) t = lk s.T t
        rw [lk_put]
        have : t ≠ d := fun e => hne (by rw [hd, e])
        simp [this]
    have hboth : lk (s.app p.1.dst p.2).T t = lk (s'.app p.1.dst p.2).T t := by
      cases hd : p.1.dst with
      | none => exact h
      | some d =>
        show lk (put s.T d p.2.v) t = lk (put s'.T d p.2.v) t
        rw [lk_put, lk_put, h]
    have hk := ha 0 p (by simp)
    rw [Nat.add_zero] at hk
    cases h1 : D k <;> cases h2 : D' k <;> simp only [if_true, Bool.false_eq_true, if_false]
    · exact h
    · rw [hone s' (hk (by rw [h1, h2]; simp))]; exact h
    · rw [hone s (hk (by rw [h1, h2]; simp))]; exact h
    · exact hboth

theorem foldD_S {D D' : Nat → Bool} {id : Nat} : ∀ {L : List (Oper × Ef)} {k : Nat} {s s' : AS}, lk s.S id = lk s'.S id → (∀ j p, L[j]? = some p → D (k + j) ≠ D' (k + j) → ∀ q ∈ p.2.upd, q.1 ≠ id) →
    lk (foldD D L k s).S id = lk (foldD D' L k s').S id
  | [], _, _, _, h, _ => h
  | p :: r, k, s, s', h, ha => by
    simp only [foldD]
    refine foldD_S ?_ fun j q hq hne => ha (j + 1) q (by simpa using hq) (by rw [show k + (j + 1) = k + 1 + j by omega]; exact hne)
    have hone : ∀ s : AS, (∀ q ∈ p.2.upd, q.1 ≠ id) → lk (s.app p.1.dst p.2).S id = lk s.S id := fun s hne => lk_applyUpd_not hne
    have hboth : lk (s.app p.1.dst p.2).S id = lk (s'.app p.1.dst p.2).S id := lk_applyUpd_congr h
    have hk := ha 0 p (by simp)
    rw [Nat.add_zero] at hk
    cases h1 : D k <;> cases h2 : D' k <;> simp only [if_true, Bool.false_eq_true, if_false]
    · exact h
    · rw [hone s' (hk (by rw [h1, h2]; simp))]; exact h
    · rw [hone s (hk (by rw [h1, h2]; simp))]; exact h
    · exact hboth

theorem foldD_fresh {D : Nat → Bool} {id : Nat} : ∀ {L : List (Oper × Ef)} {k : Nat} {s : AS}, FreshId s id → (∀ j p, L[j]? = some p → D (k + j) = true → id ∉ p.2.names) → FreshId (foldD D L k s) id
  | [], _, _, h, _ => h
  | p :: r, k, s, h, ha => by
    simp only [foldD]
    refine foldD_fresh ?_ fun j q hq hd => ha (j + 1) q (by simpa using hq) (by rw [← hd]; congr 1; omega)
    split
    · rename_i hd; exact h.app (ha 0 p (by simp) (by simpa using hd))
    · exact h

theorem runOps_facts {cx : Cx} {ops : List Oper} {K : AS → List Ef → Prop} : ∀ {r : List Oper} {s : AS} {es : List Ef}, runOps cx ops r s es K →
    ∃ L : List (Oper × Ef), L.map (·.1) = r ∧ (∀ i p, L[i]? = some p → operE cx ops (foldD (fun j => decide (j < i)) L 0 s) p.1 = some p.2 ∧ (∀ q ∈ p.2.ob, q) ∧ offSites cx.nt (r.drop (i + 1)) p.2 = true) ∧
      K (foldD (fun _ => true) L 0 s) ((L.map (·.2)).reverse ++ es)
  | [], s, es, h => ⟨[], rfl, fun i p hp => by simp at hp, h⟩
  | o :: r, s, es, h => by
    simp only [runOps] at h
    split at h
    · rename_i e he
      split at h
      · rename_i hoff
        obtain ⟨hob, h⟩ := obs_all h
        replace h := nameB_at h
        obtain ⟨L, hL, hf, hK⟩ := runOps_facts h
        refine ⟨(o, e) :: L, by simp [hL], fun i p hp => ?_, ?_⟩
        · cases i with
          | zero =>
            have hp' : (o, e) = p := by simpa using hp
            subst hp'
            rw [foldD_none fun j _ => by simp]
            exact ⟨he, hob, by simpa using hoff⟩
          | succ i =>
            have := hf i p (by simpa using hp)
            refine ⟨?_, this.2.1, by simpa using this.2.2⟩
            simp only [foldD]
            rw [foldD_shift]
            simp only [Nat.zero_lt_succ, decide_true, if_true, Nat.add_lt_add_iff_right]
            exact this.1
        · simp only [foldD, if_true]
          rw [foldD_shift]
          simpa using hK
      · exact h.elim
    · exact h.elim

end Go.Av
