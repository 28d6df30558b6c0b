/- From what is told of the law's function to the call that the row asks for. -/
import Derived.Test.YtnfelcpanphhlaaB2
import Derived.Below
namespace Go.Av

/-- An argument as the law's opening reads it. -/
def argD {H : Type} (P : Program) (n t : Nat) (d : DataW H) : V := elemV (aggT P t) (cellsD P n t d)

/-- At the entry of the law's function all memory may be read. -/
def allFr (w : World) : Nat → Nat → Prop := fun t b => t < 2 ∧ b < w.heap.size

theorem calls_of_sound {P : Program} {f : Nat} {D : FSpec} (h : Sound P f D) {args : List V} {ob : Prop} {b : Bool} (hD : D args [] = some (ob, .bool b, [])) (hob : ob) {vals : Array Value} {W : World}
    (hsize : vals.size = args.length) (hv : ∀ j, j < args.length → TRep W (allFr W) (fun _ => none) (args.getD j .undef) (vals.getD j Go.undef)) :
    Calls P f vals W fun e W' => e = .returned (.bool b) ∧ Go.RowKit.Below W.heap.size W W' := by
  have hE : Ent W (fun _ => False) (fun _ => False) [] (fun _ => none) (allFr W) :=
    { own := fun id blk b sz m hl => by simp at hl
      nob := fun id blk hl => by simp at hl
      inj := fun id id' blk blk' r r' hl => by simp at hl
      fr := fun t b hb => ⟨hb.2, fun h => h, fun id blk r hl => by simp at hl⟩
      frS := fun b hb => absurd hb.1 (by decide)
      fr0 := fun t b hb => ⟨by decide, hb.2⟩
      fr2 := fun t b h2 hb => by have := hb.1; omega
      x0 := fun b hb => hb.elim
      io0 := fun b hb => hb.elim
      few := by decide }
  refine (h.does args [] ob (.bool b) [] hD hob vals W (fun _ => False) (fun _ => False) (fun _ => none) (allFr W) hE hsize hv).mono fun e W' he => ?_
  obtain ⟨v, ι', Fr', rfl, hr, hx⟩ := he
  have hvb := inv_bool hr
  subst hvb
  exact ⟨rfl, hx.os, hx.tape, hx.output, hx.hsize, fun k hk => hx.frame k hk fun h => h⟩

theorem cellsD_shape {H : Type} (P : Program) : ∀ (n t : Nat) (d : DataW H), ∀ c ∈ cellsD P n t d, isP c = true ∧ (tagOfA c = none ∨ tagOfA c = some 1)
  | 0, _, _, c, hc => by simp [cellsD] at hc
  | n + 1, t, d, c, hc => by
    simp only [cellsD] at hc
    split at hc
    · simp at hc; subst hc; simp [isP, tagOfA]
    · simp at hc; subst hc; simp [isP, tagOfA]
    · simp at hc; subst hc; simp [isP, tagOfA]
    · simp at hc; subst hc; simp [isP, tagOfA]
    · simp at hc; subst hc; simp [isP, tagOfA]
    · obtain ⟨p, _, hp⟩ := List.mem_flatMap.1 hc
      exact cellsD_shape P n _ _ c hp
    · simp at hc; subst hc; simp [isP, tagOfA]

/-- An argument's cells as the law reads them, as one value. -/
theorem arg_rep {H : Type} {enc : TypeId × Value → H} {P : Program} {w : World} {base : Nat} {sp : Nat → Bool} {held : Bool} {n t : Nat} (hp : plainT P n t = true) {v : Value} {d : DataW H} {ps : List MemPlace}
    (h : DataW.Trod enc P w base sp held t v d ps) (hform : aggT P t = true → ∃ cs, v = .agg cs) (hform' : aggT P t = false → ∀ cs, v ≠ .agg cs) : TRep w (allFr w) (fun _ => none) (argD P n t d) v := by
  obtain ⟨fuel, h⟩ := h
  obtain ⟨hr, hl⟩ := reads_of_trod n t hp fuel _ d ps h
  have cell : ∀ c ∈ cellsD P n t d, ∀ x, PRep w (fun b => b < w.heap.size) c x → TRep w (allFr w) (fun _ => none) c x := fun c hc x hx =>
    trep_of_prep (A := fun b => b < w.heap.size) (c := 1) (fun b hb => ⟨by decide, hb⟩) (cellsD_shape P n t d c hc).1 (cellsD_shape P n t d c hc).2 hx
  unfold argD
  cases ha : aggT P t with
  | true =>
    obtain ⟨cs, rfl⟩ := hform ha
    have hlen : (cellsD P n t d).length = cs.size := by rw [hr.1]; simp [Value.cells]
    refine .agg cs hlen.symm fun j hj => ?_
    have hmem : (cellsD P n t d).getD j .undef ∈ cellsD P n t d := by
      simp only [List.getD, List.getElem?_eq_getElem hj, Option.getD_some]
      exact List.getElem_mem hj
    have := hr.2 j (by rw [← hr.1]; exact hj)
    have e2 : (Value.agg cs).cells.toList.getD j Go.undef = cs.getD j Go.undef := by simp [Value.cells, List.getD, Array.getD_eq_getD_getElem?]
    rw [e2] at this
    exact cell _ hmem _ this
  | false =>
    obtain ⟨c, hc, _⟩ := cellsD_single hp ha h
    have hv : v.cells = #[v] := by
      cases v with
      | agg cs => exact absurd rfl (hform' ha cs)
      | _ => rfl
    rw [hc, hv] at hr
    have := hr.2 0 (by simp)
    rw [hc]
    exact cell c (by rw [hc]; simp) v (by simpa using this)

end Go.Av
