/- The first changes to a view, one of each; what a replica committed below a view: plain functions on typed data. -/
import Derived.Test.YtakcaanpnmkccaaGreatP10
namespace Go.Av
set_option linter.unusedVariables false
set_option linter.unusedSimpArgs false

/-- Is the i-th message one of the first changes to a view? out: those that were taken ahead of it. -/
def takesCh (f : Int) (l : List Msg) (view : Int) (out : List Int) (i : Nat) : Prop :=
  (out.length : Int) < 2 * f + 1 ∧ (l.getD i default).view = view ∧ ¬ standsIn l out (l.getD i default).sender ∧ changeOk f l i
noncomputable instance (f : Int) (l : List Msg) (v : Int) (o : List Int) (i : Nat) : Decidable (takesCh f l v o i) := Classical.propDecidable _
noncomputable def chStep (f : Int) (l : List Msg) (view : Int) (out : List Int) (i : Nat) : List Int := if takesCh f l view out i then out ++ [(i : Int)] else out
noncomputable def chTo (f : Int) (l : List Msg) (view : Int) : Nat → List Int
  | 0 => []
  | i + 1 => chStep f l view (chTo f l view i) i
noncomputable def chL (f : Int) (l : List Msg) (view : Int) : List Int := chTo f l view l.length
theorem chTo_len (f : Int) (l : List Msg) (view : Int) : ∀ i, (chTo f l view i).length ≤ i
  | 0 => by simp [chTo]
  | i + 1 => by
    have := chTo_len f l view i
    unfold chTo chStep
    split
    · rw [List.length_append, List.length_singleton]; omega
    · omega
theorem chTo_in (f : Int) (l : List Msg) (view : Int) : ∀ i, i ≤ l.length → ∀ p ∈ chTo f l view i, inL l p
  | 0, _, p, hp => by simp [chTo] at hp
  | i + 1, hi, p, hp => by
    unfold chTo chStep at hp
    split at hp
    · rcases List.mem_append.1 hp with h | h
      · exact chTo_in f l view i (by omega) p h
      · have : p = i := by simpa using h
        subst this
        unfold inL inR
        omega
    · exact chTo_in f l view i (by omega) p hp
/-- Once there are enough, none is taken any more. -/
theorem chTo_full {f : Int} {l : List Msg} {view : Int} {i : Nat} (h : ¬ ((chTo f l view i).length : Int) < 2 * f + 1) : ∀ n, chTo f l view (i + n) = chTo f l view i
  | 0 => rfl
  | n + 1 => by
    have ih := chTo_full h n
    show chStep f l view (chTo f l view (i + n)) (i + n) = _
    rw [ih]
    unfold chStep
    rw [if_neg fun g => h g.1]
/-- Who sent those places. -/
def sendersOf (l : List Msg) (ps : List Int) : List Int := ps.map fun p => (atM l p).sender
theorem sendersOf_mem (l : List Msg) (ps : List Int) (w : Int) : w ∈ sendersOf l ps ↔ standsIn l ps w := List.mem_map

/-- The newest of a replica's commitments of a slot below a view, among the first so many messages. -/
def newer (id slot view : Int) (best : Int × Int) (m : Msg) : Int × Int := if m.kind = 3 ∧ m.sender = id ∧ m.slot = slot ∧ m.view < view ∧ best.1 < m.view then (m.view, m.value) else best
def newest (l : List Msg) (id slot view : Int) (i : Nat) : Int × Int := (l.take i).foldl (newer id slot view) (-1, 0)
theorem newest_succ {l : List Msg} {id slot view : Int} {i : Nat} (h : i < l.length) : newest l id slot view (i + 1) = newer id slot view (newest l id slot view i) (l.getD i default) := by
  unfold newest
  have h1 : l.take (i + 1) = l.take i ++ [l.getD i default] := by
    rw [List.take_add_one]
    simp [h]
  rw [h1, List.foldl_append]
  rfl
/-- The certificates of the first so many slots. -/
def certsTo (l : List Msg) (id view : Int) : Nat → List Cert
  | 0 => []
  | s + 1 => certsTo l id view s ++ if 0 ≤ (newest l id (s + 1) view l.length).1 then [⟨s + 1, (newest l id (s + 1) view l.length).1, (newest l id (s + 1) view l.length).2⟩] else []
def certsL (l : List Msg) (id view : Int) : List Cert := certsTo l id view 30
theorem certsTo_len (l : List Msg) (id view : Int) : ∀ s, (certsTo l id view s).length ≤ s
  | 0 => by simp [certsTo]
  | s + 1 => by
    have := certsTo_len l id view s
    unfold certsTo
    rw [List.length_append]
    split <;> simp <;> omega
/-- A newest view is -1 where there is none, and else one of a right message. -/
theorem newest_range {f : Int} {l : List Msg} (hr : Right f l) {id slot view : Int} : ∀ i, i ≤ l.length → -1 ≤ (newest l id slot view i).1 ∧ (newest l id slot view i).1 ≤ 20 ∧ ((newest l id slot view i).1 = -1 → (newest l id slot view i).2 = 0)
  | 0, _ => by simp [newest]
  | i + 1, hi => by
    have ih := newest_range hr (id := id) (slot := slot) (view := view) i (by omega)
    rw [newest_succ (by omega)]
    unfold newer
    split
    · rename_i h
      have := (hr.good (i := i) (by omega)).ranged.1
      unfold inR at this
      exact ⟨by simp only; omega, by simp only; omega, fun h2 => by simp only at h2; omega⟩
    · exact ih

end Go.Av
