/- The places of a replica's messages. -/
import Derived.Test.YtakcaanpnmkccaaGreatK2
namespace Go.Av
open Go.Proofs
set_option maxRecDepth 100000
set_option linter.unusedVariables false
set_option linter.unusedSimpArgs false

/-- The places among the first so many of which something is so. -/
def placesTo (l : List Msg) (q : Msg → Bool) (i : Nat) : List Int := ((List.range i).filter fun j => q (l.getD j default)).map fun j : Nat => (j : Int)
theorem placesTo_len (l : List Msg) (q : Msg → Bool) (i : Nat) : (placesTo l q i).length ≤ i := by
  unfold placesTo
  rw [List.length_map]
  exact Nat.le_trans (List.length_filter_le _ _) (by simp)
theorem placesTo_succ (l : List Msg) (q : Msg → Bool) (i : Nat) : placesTo l q (i + 1) = placesTo l q i ++ if q (l.getD i default) = true then [(i : Int)] else [] := by
  unfold placesTo
  rw [List.range_succ, List.filter_append, List.map_append]
  congr 1
  by_cases h : q (l.getD i default) = true
  · rw [if_pos h]; simp only [List.filter_cons, h, if_true, List.filter_nil, List.map_cons, List.map_nil]
  · rw [if_neg h]; simp only [List.filter_cons, h, List.filter_nil]; rfl
def fromQ (who : Int) : Msg → Bool := fun m => decide (m.sender = who)
noncomputable def sentF (f : Int) (l : List Msg) (who : Int) : IntsResult :=
  if ledgerFault f l ≠ 0 then ⟨ledgerFault f l, []⟩ else if ¬ inR who 1 (3 * f + 1) then ⟨3, []⟩ else ⟨0, placesTo l (fromQ who) l.length⟩


end Go.Av
