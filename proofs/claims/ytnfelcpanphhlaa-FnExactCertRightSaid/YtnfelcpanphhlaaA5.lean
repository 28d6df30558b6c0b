/- What a callee owes, and that a call by it is what the abstract effect says. -/
import Derived.Test.YtnfelcpanphhlaaA4g
namespace Go.Av
set_option linter.unusedVariables false
set_option linter.unusedSimpArgs false

/-- What a call finds: the arguments' blocks, and what may be read. -/
structure Ent (w : World) (X0 io : Nat → Prop) (bin : List Blk) (ι : Iota) (Fr : Nat → Nat → Prop) : Prop where
  own : ∀ id blk b sz m, bin[id]? = some blk → ι id = some (b, sz, m) → OwnB w Fr ι b sz m blk ∧ io b
  nob : ∀ id blk, bin[id]? = some blk → ι id = none → ∃ sz h te, blk = .arr sz 0 h te
  inj : ∀ id id' blk blk' r r', bin[id]? = some blk → bin[id']? = some blk' → ι id = some r → ι id' = some r' → r.1 = r'.1 → id = id'
  fr : ∀ t b, Fr t b → b < w.heap.size ∧ ¬ X0 b ∧ ∀ id blk r, bin[id]? = some blk → ι id = some r → r.1 ≠ b
  frS : ∀ b, ¬ Fr tagS b
  fr0 : ∀ t b, Fr t b → Fr 0 b
  fr2 : ∀ t b, 2 ≤ t → ¬ Fr t b
  x0 : ∀ b, X0 b → b < w.heap.size ∧ ¬ io b
  io0 : ∀ b, io b → b < w.heap.size
  few : bin.length < 64

/-- What a call leaves. -/
structure Ext (w w' : World) (X0 io : Nat → Prop) (ι : Iota) (m : Nat) (bout : List Blk) (ι' : Iota) (Fr : Nat → Nat → Prop) : Prop where
  own : ∀ id blk b sz k, bout[id]? = some blk → ι' id = some (b, sz, k) → OwnB w' Fr ι' b sz k blk ∧ (w.heap.size ≤ b ∨ (io b ∧ id < m))
  nob : ∀ id blk, bout[id]? = some blk → ι' id = none → ∃ sz h te, blk = .arr sz 0 h te
  inj : ∀ id id' blk blk' r r', bout[id]? = some blk → bout[id']? = some blk' → ι' id = some r → ι' id' = some r' → r.1 = r'.1 → id = id'
  fr : ∀ t b, Fr t b → b < w'.heap.size ∧ ¬ X0 b ∧ ∀ id blk r, bout[id]? = some blk → ι' id = some r → r.1 ≠ b
  frS : ∀ b, ¬ Fr tagS b
  fr0 : ∀ t b, Fr t b → Fr 0 b
  fr2 : ∀ t b, 2 ≤ t → Fr t b → w.heap.size ≤ b
  same : ∀ id, id < m → ι' id = ι id
  os : w'.os = w.os
  tape : w'.tape = w.tape
  output : w'.output = w.output
  hsize : w.heap.size ≤ w'.heap.size
  frame : ∀ b, b < w.heap.size → ¬ io b → w'.heap[b]? = w.heap[b]?
  shape : ∀ b e, w.shape? b = some e → w'.shape? b = some e

/-- A function does what is told of it. -/
structure Sound (P : Program) (f : Nat) (D : FSpec) : Prop where
  enters : ∀ vals w, (callFunc f vals).run P w = .ok (.enter f vals) w
  does : ∀ args bin ob r bout, D args bin = some (ob, r, bout) → ob → ∀ (vals : Array Value) (w : World) (X0 io : Nat → Prop) (ι : Iota) (Fr : Nat → Nat → Prop),
    Ent w X0 io bin ι Fr → vals.size = args.length → (∀ j, j < args.length → TRep w Fr ι (args.getD j .undef) (vals.getD j Go.undef)) →
    Calls P f vals w fun e w' => ∃ v ι' Fr', e = .returned v ∧ TRep w' Fr' ι' r v ∧ Ext w w' X0 io ι bin.length bout ι' Fr'

def SoundAll (P : Program) (D : Nat → Option (Bool × FSpec)) : Prop := ∀ f b S, D f = some (b, S) → Sound P f S

/-! ### Renamed and tagged anew -/
theorem renL_getD (f : Nat → Nat) : ∀ (cs : List V) (j : Nat), j < cs.length → (V.renL f cs).getD j .undef = V.ren f (cs.getD j .undef)
  | [], _, h => by simp at h
  | _ :: _, 0, _ => by simp [V.renL]
  | _ :: cs, j + 1, h => by simpa [V.renL] using renL_getD f cs j (by simpa using h)

theorem renL_length (f : Nat → Nat) : ∀ cs : List V, (V.renL f cs).length = cs.length
  | [] => rfl
  | _ :: cs => by simp [V.renL, renL_length f cs]

theorem idsL_getD : ∀ {cs : List V} {j : Nat}, j < cs.length → ∀ id ∈ (cs.getD j .undef).ids, id ∈ V.idsL cs
  | [], _, h, _, _ => by simp at h
  | c :: cs, 0, _, id, hid => by simp only [V.idsL, List.mem_append]; left; simpa using hid
  | c :: cs, j + 1, h, id, hid => by simp only [V.idsL, List.mem_append]; right; exact idsL_getD (cs := cs) (j := j) (by simpa using h) id (by simpa using hid)

theorem TRep.renTag {w w' : World} {Fr Fr' : Nat → Nat → Prop} {ι ι' : Iota} {f h : Nat → Nat} {v : V} {x : Value} (hr : TRep w Fr ι v x)
    (hι : ∀ id ∈ v.ids, ι' (f id) = ι id) (hF : ∀ t b, Fr t b → Fr' (h t) b ∧ w'.heap[b]? = w.heap[b]?) (hS : ∀ b, ¬ Fr tagS b) (hsh : ∀ b e, w.shape? b = some e → w'.shape? b = some e) :
    TRep w' Fr' ι' ((v.ren f).tag h) x := by
  induction hr with
  | atom hv hp =>
    rename_i v x
    cases hp with
    | int => exact .atom rfl (.int _ _)
    | bool => exact .atom rfl (.bool _)
    | str => exact .atom rfl (.str _)
    | nil => exact .atom rfl (.nil _)
    | sl0 => exact .atom rfl (.sl0 _ _ _ _)
    | sl cv hA hcap hsz hc hr =>
      exact .atom rfl ((PRep.sl cv hA hcap hsz hc hr).mono fun b hb => hF _ b hb)
    | ptr cv hA hc hr => exact .atom rfl ((PRep.ptr cv hA hc hr).mono fun b hb => hF _ b hb)
    | agg => simp [isP] at hv
    | tup => simp [isP] at hv
    | fn => simp [isP] at hv
    | undef => exact .atom rfl (.undef _)
  | osl hi hn hc hs hcs =>
    exact .osl (by rw [hι _ (by simp [V.ids])]; exact hi) hn hc (hsh _ _ hs) hcs
  | osl0 a hi => exact .osl0 a (by rw [hι _ (by simp [V.ids])]; exact hi)
  | oref hi him => exact .oref (by rw [hι _ (by simp [V.ids])]; exact hi) him
  | agg arr hs _ ih =>
    refine .agg arr (by rw [tagL_length, renL_length]; exact hs) fun j hj => ?_
    rw [tagL_length, renL_length] at hj
    rw [tagL_getD _ _ _ (by rw [renL_length]; exact hj), renL_getD _ _ _ hj]
    exact ih j hj fun id hid => hι id (idsL_getD hj id hid)
  | tup arr hs _ ih =>
    refine .tup arr (by rw [tagL_length, renL_length]; exact hs) fun j hj => ?_
    rw [tagL_length, renL_length] at hj
    rw [tagL_getD _ _ _ (by rw [renL_length]; exact hj), renL_getD _ _ _ hj]
    exact ih j hj fun id hid => hι id (idsL_getD hj id hid)
  | fn arr hs _ ih =>
    refine .fn arr (by rw [tagL_length, renL_length]; exact hs) fun j hj => ?_
    rw [tagL_length, renL_length] at hj
    rw [tagL_getD _ _ _ (by rw [renL_length]; exact hj), renL_getD _ _ _ hj]
    exact ih j hj fun id hid => hι id (idsL_getD hj id hid)
  | cnd _ hf ih => exact .cnd (fun hc => ih hc hι) hf

/-! ### Lent values -/
theorem lendA_rep {g : G} {s : AS} {a : Act} {w : World} {ι : Iota} {Fr : Nat → Nat → Prop} (h : Rel g s a w ι Fr) {A : Nat → Prop} (hA : ∀ t b, Fr t b → A b)
    (hO : ∀ id blk r, lk s.S id = some blk → ι id = some r → A r.1) {c : V} {x : Value} (hc : TRep w Fr ι c x) : PRep w A (lendA s.S c) x := by
  cases hc with
  | atom hv hp =>
    cases hp with
    | int => exact .int _ _
    | bool => exact .bool _
    | str => exact .str _
    | nil => exact .nil _
    | sl0 => exact .sl0 _ _ _ _
    | sl cv hA' hcap hsz hc hr => exact (PRep.sl cv hA' hcap hsz hc hr).weaken (hA _)
    | ptr cv hA' hc hr => exact (PRep.ptr cv hA' hc hr).weaken (hA _)
    | agg => simp [isP] at hv
    | tup => simp [isP] at hv
    | fn => simp [isP] at hv
    | undef => exact .undef _
  | osl hi hn hc hs hcs =>
    rename_i id n b sz m cap cz e
    simp only [lendA]
    split
    · rename_i sz' m' f te hl
      obtain ⟨rfl, rfl, cells, e', hh, hsz, hlen, hr⟩ := (h.own id _ b sz m hl hi).1
      refine .sl (sz := sz') (off := 0) (fun i j => cells.getD (i * sz' + j) Go.undef) (hO id _ _ hl hi) hc (fun i hin => hlen i (by omega)) (fun i j hin hj => ?_) (fun i j hin hj => (hr i j (by omega) hj).weaken (hA _))
      have e1 : i * sz' + sz' = (i + 1) * sz' := by rw [Nat.add_mul, Nat.one_mul]
      have e2 : (i + 1) * sz' ≤ m' * sz' := Nat.mul_le_mul_right _ (by omega)
      rw [Nat.zero_add]; exact cell_of hh (by omega)
    · exact .undef _
  | osl0 a0 hi =>
    simp only [lendA]
    split
    · exact .sl0 _ _ _ _
    · exact .undef _
  | oref hi hin =>
    rename_i id i off b sz m
    simp only [lendA]
    split
    · rename_i sz' m' f te hl
      obtain ⟨rfl, rfl, cells, e', hh, hsz, hlen, hr⟩ := (h.own id _ b sz m hl hi).1
      refine .ptr (base := i * sz') (fun j => cells.getD (i * sz' + j) Go.undef) (hO id _ _ hl hi) (fun j hj => ?_) (fun j hj => (hr i j hin (by rw [← hlen i hin]; exact hj)).weaken (hA _))
      have e1 : i * sz' + sz' = (i + 1) * sz' := by rw [Nat.add_mul, Nat.one_mul]
      have e2 : (i + 1) * sz' ≤ m' * sz' := Nat.mul_le_mul_right _ (by omega)
      rw [hlen i hin] at hj
      exact cell_of hh (by omega)
    · exact .undef _
  | agg => exact .undef _
  | tup => exact .undef _
  | fn => exact .undef _
  | cnd => exact .undef _

end Go.Av
