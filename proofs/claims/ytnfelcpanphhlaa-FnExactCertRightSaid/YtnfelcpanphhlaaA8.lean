/- The seat's types, as a table made from the program. -/
import Derived.Test.YtnfelcpanphhlaaA7d
namespace Go.Av

def zeroV : Value → V
  | .agg cs => .agg (cs.toList.map ofCell)
  | v => ofCell v

def isAggV' : Value → Bool
  | .agg _ => true
  | _ => false

def flatC : V → Bool
  | .agg cs => cs.all flatA
  | v => flatA v

def cmpOk (P : Program) (t : Nat) (d : TypeDesc) : Bool :=
  !(P.stoodInHeld t) && !(P.eqGuardType P.depth t) && (match d with
    | .struct fs => fs.toList.all fun f => !(f.name == "_")
    | _ => true)

def tiOf (P : Program) (t : Nat) : Option TI :=
  match P.underlying t, P.info? t with
  | some d, some i => match i.zero with
    | some z => match Nat.beq (zeroV z).cells.length i.size && Nat.beq z.cells.size i.size && (isAggD d == isAggV' z) with
      | true => some ⟨d, i.size, i.bytes, zeroV z, flatC (zeroV z), cmpOk P t d⟩
      | false => none
    | none => none
  | _, _ => none

def tabOf (P : Program) : List Nat → TT
  | [] => []
  | t :: r => match tiOf P t with
    | some ti => (t, ti) :: tabOf P r
    | none => tabOf P r

theorem lk_tabOf {P : Program} : ∀ {ids : List Nat} {t : Nat} {ti : TI}, lk (tabOf P ids) t = some ti → tiOf P t = some ti
  | [], _, _, h => by simp [tabOf, lk] at h
  | k :: r, t, ti, h => by
    simp only [tabOf] at h
    split at h
    · rename_i u hu
      simp only [lk] at h
      split at h
      · rename_i hk
        rw [← natBeq.1 hk, hu]; exact h
      · exact lk_tabOf h
    · exact lk_tabOf h

theorem ofCell_prep (w : World) (v : Value) : PRep w (fun _ => False) (ofCell v) v := by
  unfold ofCell
  split
  · exact .int _ _
  · exact .bool _
  · exact .str _
  · exact .nil _
  · exact .undef _

theorem zeroV_prep (w : World) (z : Value) : PRep w (fun _ => False) (zeroV z) z := by
  unfold zeroV
  split
  · rename_i cs
    refine .agg cs (by simp) fun j hj => ?_
    have hj' : j < cs.size := by simpa using hj
    have e1 : (cs.toList.map ofCell).getD j .undef = ofCell cs[j] := by simp [List.getD, hj']
    have e2 : cs.getD j Go.undef = cs[j] := by simp [hj']
    rw [e1, e2]
    exact ofCell_prep w _
  · exact ofCell_prep w _

theorem tabOk_of (P : Program) (ids : List Nat) : TabOk P (tabOf P ids) := by
  have key : ∀ t ti, lk (tabOf P ids) t = some ti → ∃ d i z, P.underlying t = some d ∧ P.info? t = some i ∧ i.zero = some z ∧ (zeroV z).cells.length = i.size ∧ z.cells.size = i.size ∧ isAggD d = isAggV' z ∧
      ti = ⟨d, i.size, i.bytes, zeroV z, flatC (zeroV z), cmpOk P t d⟩ := by
    intro t ti h
    have h := lk_tabOf h
    unfold tiOf at h
    split at h
    · rename_i d i hd hi
      split at h
      · rename_i z hz
        split at h
        · rename_i hb
          simp only [Bool.and_eq_true] at hb
          exact ⟨d, i, z, hd, hi, hz, natBeq.1 hb.1.1, natBeq.1 hb.1.2, by simpa using hb.2, (Option.some.inj h).symm⟩
        · simp at h
      · simp at h
    · simp at h
  constructor
  · intro t ti h
    obtain ⟨d, i, z, hd, _, _, _, _, _, rfl⟩ := key t ti h
    exact hd
  · intro t ti h hc
    obtain ⟨d, i, z, hd, _, _, _, _, _, rfl⟩ := key t ti h
    simp only [cmpOk, Bool.and_eq_true, Bool.not_eq_true'] at hc
    refine ⟨hc.1.1, hc.1.2, fun fs hfs f hf => ?_⟩
    have h3 := hc.2
    simp only [] at hfs
    rw [hfs] at h3
    have := List.all_eq_true.1 h3 f hf
    simpa using this
  · intro t ti h
    obtain ⟨d, i, z, hd, hi, hz, h1, h2, h3, rfl⟩ := key t ti h
    refine ⟨i, hi, rfl, rfl, z, hz, fun w => zeroV_prep w z, h1, h2, ?_⟩
    rw [h3]
    cases z with
    | agg cs => simp [isAggV', zeroV]
    | _ => simp only [isAggV', zeroV, ofCell] <;> (try split) <;> simp

end Go.Av
