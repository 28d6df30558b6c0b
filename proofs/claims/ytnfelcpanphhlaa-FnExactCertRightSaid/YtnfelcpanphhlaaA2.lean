/- What an abstract value says of a value and of memory, and that it stays so while memory that it does not reach is written. -/
import Derived.Test.YtnfelcpanphhlaaA1b
import Derived.Below
namespace Go.Av
set_option linter.unusedVariables false
set_option linter.unusedSimpArgs false

/-- A value without blocks of one's own; all that it reaches lies in blocks of A. -/
inductive PRep (w : World) (A : Nat → Prop) : V → Value → Prop where
  | int (k : IntKind) (n : Int) : PRep w A (.int k n) (.int k n)
  | bool (b : Bool) : PRep w A (.bool b) (.bool b)
  | str (s : ByteArray) : PRep w A (.str s) (.string s)
  | nil (a : Option Addr) : PRep w A .nil (.slice a 0 0)
  | sl0 (a : Option Addr) (cap : Nat) (g : Nat → V) (t : Nat) : PRep w A (.sl 0 g t) (.slice a 0 cap)
  | sl {n : Nat} {g : Nat → V} {t b off cap sz : Nat} (cv : Nat → Nat → Value) (hA : A b) (hcap : n ≤ cap)
      (hsz : ∀ i, i < n → (g i).cells.length = sz)
      (hc : ∀ i j, i < n → j < sz → w.cell? ⟨b, off + i * sz + j, none⟩ = some (cv i j))
      (hr : ∀ i j, i < n → j < sz → PRep w A ((g i).cells.getD j .undef) (cv i j)) :
      PRep w A (.sl n g t) (.slice (some ⟨b, off, none⟩) n cap)
  | ptr {cs : List V} {off t b base : Nat} (cv : Nat → Value) (hA : A b)
      (hc : ∀ j, j < cs.length → w.cell? ⟨b, base + j, none⟩ = some (cv j))
      (hr : ∀ j, j < cs.length → PRep w A (cs.getD j .undef) (cv j)) :
      PRep w A (.ptr cs off t) (.pointer (some ⟨b, base + off, none⟩))
  | agg {cs : List V} (arr : Array Value) (hs : arr.size = cs.length)
      (hr : ∀ j, j < cs.length → PRep w A (cs.getD j .undef) (arr.getD j Go.undef)) : PRep w A (.agg cs) (.agg arr)
  | tup {cs : List V} (arr : Array Value) (hs : arr.size = cs.length)
      (hr : ∀ j, j < cs.length → PRep w A (cs.getD j .undef) (arr.getD j Go.undef)) : PRep w A (.tup cs) (.tuple arr)
  | fn {f : FuncId} {cs : List V} (arr : Array Value) (hs : arr.size = cs.length)
      (hr : ∀ j, j < cs.length → PRep w A (cs.getD j .undef) (arr.getD j Go.undef)) : PRep w A (.fn f cs) (.func (.func f) #[] arr)
  | undef (x : Value) : PRep w A .undef x

theorem PRep.mono {w w' : World} {A A' : Nat → Prop} {v : V} {x : Value} (h : PRep w A v x)
    (hA : ∀ b, A b → A' b ∧ w'.heap[b]? = w.heap[b]?) : PRep w' A' v x := by
  induction h with
  | int => exact .int _ _
  | bool => exact .bool _
  | str => exact .str _
  | nil => exact .nil _
  | sl0 => exact .sl0 _ _ _ _
  | sl cv hb hcap hsz hc _ ih =>
    exact .sl cv (hA _ hb).1 hcap hsz (fun i j hi hj => by rw [World.cell?_of_block (w := w) (hA _ hb).2]; exact hc i j hi hj) ih
  | ptr cv hb hc _ ih =>
    exact .ptr cv (hA _ hb).1 (fun j hj => by rw [World.cell?_of_block (w := w) (hA _ hb).2]; exact hc j hj) ih
  | agg arr hs _ ih => exact .agg arr hs ih
  | tup arr hs _ ih => exact .tup arr hs ih
  | fn arr hs _ ih => exact .fn arr hs ih
  | undef => exact .undef _

theorem PRep.weaken {w : World} {A A' : Nat → Prop} {v : V} {x : Value} (h : PRep w A v x) (hA : ∀ b, A b → A' b) : PRep w A' v x :=
  h.mono fun b hb => ⟨hA b hb, rfl⟩

/-- Where the blocks of one's own lie: block, cells of an element, elements; none: there is no block (an empty slice without memory). -/
abbrev Iota := Nat → Option (Nat × Nat × Nat)

def isP : V → Bool
  | .osl _ _ => false
  | .oref _ _ _ => false
  | .agg _ => false
  | .tup _ => false
  | .fn _ _ => false
  | .cnd _ _ => false
  | _ => true

def tagD (v : V) : Nat := match tagOfA v with
  | some t => t
  | none => tagS

inductive TRep (w : World) (Fr : Nat → Nat → Prop) (ι : Iota) : V → Value → Prop where
  | atom {v : V} {x : Value} (hv : isP v = true) (h : PRep w (Fr (tagD v)) v x) : TRep w Fr ι v x
  | osl {id n b sz m cap c : Nat} {e : TypeId} (hi : ι id = some (b, sz, m)) (hn : n ≤ m) (hc : n ≤ cap)
      (hs : w.shape? b = some (e, c)) (hcs : cap * sz ≤ c) : TRep w Fr ι (.osl id n) (.slice (some ⟨b, 0, none⟩) n cap)
  | osl0 {id : Nat} (a : Option Addr) (hi : ι id = none) : TRep w Fr ι (.osl id 0) (.slice a 0 0)
  | oref {id i off b sz m : Nat} (hi : ι id = some (b, sz, m)) (him : i < m) : TRep w Fr ι (.oref id i off) (.pointer (some ⟨b, i * sz + off, none⟩))
  | agg {cs : List V} (arr : Array Value) (hs : arr.size = cs.length)
      (hr : ∀ j, j < cs.length → TRep w Fr ι (cs.getD j .undef) (arr.getD j Go.undef)) : TRep w Fr ι (.agg cs) (.agg arr)
  | tup {cs : List V} (arr : Array Value) (hs : arr.size = cs.length)
      (hr : ∀ j, j < cs.length → TRep w Fr ι (cs.getD j .undef) (arr.getD j Go.undef)) : TRep w Fr ι (.tup cs) (.tuple arr)
  | fn {f : FuncId} {cs : List V} (arr : Array Value) (hs : arr.size = cs.length)
      (hr : ∀ j, j < cs.length → TRep w Fr ι (cs.getD j .undef) (arr.getD j Go.undef)) : TRep w Fr ι (.fn f cs) (.func (.func f) #[] arr)
  | cnd {c : Bool} {v : V} {x : Value} (ht : c = true → TRep w Fr ι v x) (hf : c = false → x = Go.undef) : TRep w Fr ι (.cnd c v) x

theorem mentL_getD {p : Nat → Bool} : ∀ {cs : List V} {j : Nat}, V.mentL p cs = false → j < cs.length → V.ment p (cs.getD j .undef) = false
  | [], _, _, h => by simp at h
  | c :: cs, 0, h, _ => by simp [V.mentL] at h; simpa using h.1
  | c :: cs, j + 1, h, hj => by
    simp [V.mentL] at h
    have := mentL_getD (cs := cs) (j := j) (by simpa using h.2) (by simpa using hj)
    simpa using this

/-- It stays so: what it reaches in frozen memory is as it was, the ids that it names lie where they lay, rows have kept their sizes. -/
theorem TRep.mono {w w' : World} {Fr Fr' : Nat → Nat → Prop} {ι ι' : Iota} {p : Nat → Bool} {v : V} {x : Value} (h : TRep w Fr ι v x)
    (hF : ∀ t b, Fr t b → Fr' t b ∧ w'.heap[b]? = w.heap[b]?) (hι : ∀ id, p id = false → ι' id = ι id) (hm : V.ment p v = false)
    (hsh : ∀ id r e, p id = false → ι id = some r → w.shape? r.1 = some e → w'.shape? r.1 = some e) : TRep w' Fr' ι' v x := by
  induction h with
  | atom hv hp => exact .atom hv (hp.mono fun b hb => hF _ b hb)
  | osl hi hn hc hs hcs =>
    have hp := hm
    simp only [V.ment] at hp
    exact .osl (by rw [hι _ hp]; exact hi) hn hc (hsh _ _ _ hp hi hs) hcs
  | osl0 a hi =>
    have hp := hm
    simp only [V.ment] at hp
    exact .osl0 a (by rw [hι _ hp]; exact hi)
  | oref hi him =>
    have hp := hm
    simp only [V.ment] at hp
    exact .oref (by rw [hι _ hp]; exact hi) him
  | agg arr hs _ ih => exact .agg arr hs fun j hj => ih j hj (mentL_getD (by simpa [V.ment] using hm) hj)
  | tup arr hs _ ih => exact .tup arr hs fun j hj => ih j hj (mentL_getD (by simpa [V.ment] using hm) hj)
  | fn arr hs _ ih => exact .fn arr hs fun j hj => ih j hj (mentL_getD (by simpa [V.ment] using hm) hj)
  | cnd _ hf ih => exact .cnd (fun hc => ih hc (by simpa [V.ment] using hm)) hf

mutual
theorem ment_false : ∀ v : V, V.ment (fun _ => false) v = false
  | .osl _ _ => rfl
  | .oref _ _ _ => rfl
  | .agg cs => mentL_false cs
  | .tup cs => mentL_false cs
  | .fn _ cs => mentL_false cs
  | .cnd _ v => ment_false v
  | .int _ _ => rfl
  | .bool _ => rfl
  | .str _ => rfl
  | .nil => rfl
  | .sl _ _ _ => rfl
  | .ptr _ _ _ => rfl
  | .undef => rfl
theorem mentL_false : ∀ l : List V, V.mentL (fun _ => false) l = false
  | [] => rfl
  | v :: r => by simp [V.mentL, ment_false v, mentL_false r]
end

/-- The same places, more memory. -/
theorem TRep.world {w w' : World} {Fr Fr' : Nat → Nat → Prop} {ι : Iota} {v : V} {x : Value} (h : TRep w Fr ι v x)
    (hF : ∀ t b, Fr t b → Fr' t b ∧ w'.heap[b]? = w.heap[b]?) (hsh : ∀ b e, w.shape? b = some e → w'.shape? b = some e) : TRep w' Fr' ι v x :=
  h.mono (p := fun _ => false) hF (fun _ _ => rfl) (ment_false v) fun _ r e _ _ hs => hsh r.1 e hs

/-- A block of one's own. -/
def OwnB (w : World) (Fr : Nat → Nat → Prop) (ι : Iota) (b sz m : Nat) : Blk → Prop
  | .arr sz' n g te => sz' = sz ∧ n = m ∧ ∃ cells e, w.heap[b]? = some (.cells cells e (0, 0)) ∧ n * sz ≤ cells.size ∧
      (∀ i, i < n → (g i).cells.length = sz) ∧
      ∀ i j, i < n → j < sz → PRep w (Fr te) ((g i).cells.getD j .undef) (cells.getD (i * sz + j) Go.undef)
  | .box cs => ∃ cells e, w.heap[b]? = some (.cells cells e (0, 0)) ∧ cells.size = cs.length ∧
      ∀ j, j < cs.length → TRep w Fr ι (cs.getD j .undef) (cells.getD j Go.undef)

theorem OwnB.mono {w w' : World} {Fr Fr' : Nat → Nat → Prop} {ι ι' : Iota} {p : Nat → Bool} {b sz m : Nat} {blk : Blk} (h : OwnB w Fr ι b sz m blk)
    (hb : w'.heap[b]? = w.heap[b]?) (hF : ∀ t b, Fr t b → Fr' t b ∧ w'.heap[b]? = w.heap[b]?) (hι : ∀ id, p id = false → ι' id = ι id)
    (hm : blk.ment p = false) (hsh : ∀ id r e, p id = false → ι id = some r → w.shape? r.1 = some e → w'.shape? r.1 = some e) : OwnB w' Fr' ι' b sz m blk := by
  cases blk with
  | arr sz' n g te =>
    obtain ⟨h1, h2, cells, e, hh, hsz, hg, hr⟩ := h
    exact ⟨h1, h2, cells, e, hb.trans hh, hsz, hg, fun i j hi hj => (hr i j hi hj).mono fun b hb => hF _ b hb⟩
  | box cs =>
    obtain ⟨cells, e, hh, hsz, hr⟩ := h
    exact ⟨cells, e, hb.trans hh, hsz, fun j hj => (hr j hj).mono hF hι (mentL_getD (by simpa [Blk.ment] using hm) hj) hsh⟩

theorem Blk.ment_false (b : Blk) : b.ment (fun _ => false) = false := by
  cases b with
  | arr => rfl
  | box cs => exact mentL_false cs

/-- What a call is in. -/
structure G where
  w0 : World
  X0 : Nat → Prop
  io : Nat → Prop
  nt : Nat

structure Rel (g : G) (s : AS) (a : Act) (w : World) (ι : Iota) (Fr : Nat → Nat → Prop) : Prop where
  defers : a.defers = []
  size : a.tmps.size = g.nt
  tmp : ∀ t v, lk s.T t = some v → TRep w Fr ι v (a.tmps.getD t Go.undef)
  own : ∀ id blk b sz m, lk s.S id = some blk → ι id = some (b, sz, m) → OwnB w Fr ι b sz m blk ∧ (g.w0.heap.size ≤ b ∨ (g.io b ∧ id < 64))
  nob : ∀ id blk, lk s.S id = some blk → ι id = none → ∃ sz h te, blk = .arr sz 0 h te
  inj : ∀ id id' blk blk' r r', lk s.S id = some blk → lk s.S id' = some blk' → ι id = some r → ι id' = some r' → r.1 = r'.1 → id = id'
  fr : ∀ t b, Fr t b → b < w.heap.size ∧ ¬ g.X0 b ∧ ∀ id blk r, lk s.S id = some blk → ι id = some r → r.1 ≠ b
  frS : ∀ b, ¬ Fr tagS b
  fr0 : ∀ t b, Fr t b → Fr 0 b
  fr2 : ∀ t b, 2 ≤ t → Fr t b → g.w0.heap.size ≤ b
  x0 : ∀ b, g.X0 b → b < g.w0.heap.size ∧ ¬ g.io b
  io0 : ∀ b, g.io b → b < g.w0.heap.size
  os : w.os = g.w0.os
  tape : w.tape = g.w0.tape
  output : w.output = g.w0.output
  hsize : g.w0.heap.size ≤ w.heap.size
  frame : ∀ b, b < g.w0.heap.size → ¬ g.io b → w.heap[b]? = g.w0.heap[b]?
  shape : ∀ b e, g.w0.shape? b = some e → w.shape? b = some e

/-- Only what is looked up counts. -/
theorem Rel.congr {g : G} {s s' : AS} {a : Act} {w : World} {ι : Iota} {Fr : Nat → Nat → Prop} (h : Rel g s a w ι Fr)
    (hT : ∀ t, lk s'.T t = lk s.T t) (hS : ∀ id, lk s'.S id = lk s.S id) : Rel g s' a w ι Fr :=
  { h with
    tmp := fun t v ht => h.tmp t v (by rw [← hT]; exact ht)
    own := fun id blk b sz m hl => h.own id blk b sz m (by rw [← hS]; exact hl)
    nob := fun id blk hl => h.nob id blk (by rw [← hS]; exact hl)
    inj := fun id id' blk blk' r r' h1 h2 => h.inj id id' blk blk' r r' (by rw [← hS]; exact h1) (by rw [← hS]; exact h2)
    fr := fun t b hb => ⟨(h.fr t b hb).1, (h.fr t b hb).2.1, fun id blk r hl => (h.fr t b hb).2.2 id blk r (by rw [← hS]; exact hl)⟩ }

/-- What is known less. -/
theorem Rel.less {g : G} {s s' : AS} {a : Act} {w : World} {ι : Iota} {Fr : Nat → Nat → Prop} (h : Rel g s a w ι Fr)
    (hT : ∀ t v, lk s'.T t = some v → lk s.T t = some v) (hS : ∀ id b, lk s'.S id = some b → lk s.S id = some b) : Rel g s' a w ι Fr :=
  { h with
    tmp := fun t v ht => h.tmp t v (hT _ _ ht)
    own := fun id blk b sz m hl => h.own id blk b sz m (hS _ _ hl)
    nob := fun id blk hl => h.nob id blk (hS _ _ hl)
    inj := fun id id' blk blk' r r' h1 h2 => h.inj id id' blk blk' r r' (hS _ _ h1) (hS _ _ h2)
    fr := fun t b hb => ⟨(h.fr t b hb).1, (h.fr t b hb).2.1, fun id blk r hl => (h.fr t b hb).2.2 id blk r (hS _ _ hl)⟩ }

/-! ### Tables -/
theorem natBeq {a b : Nat} : Nat.beq a b = true ↔ a = b := by
  constructor
  · exact Nat.eq_of_beq_eq_true
  · rintro rfl; exact Nat.beq_refl a

theorem natBeqF {a b : Nat} : Nat.beq a b = false ↔ a ≠ b := by
  rw [← Bool.not_eq_true, natBeq]

theorem lk_del {α : Type} (l : List (Nat × α)) (n m : Nat) : lk (del l n) m = if m = n then none else lk l m := by
  induction l with
  | nil => simp [del, lk]
  | cons p r ih =>
    obtain ⟨k, x⟩ := p
    cases hk : Nat.beq k n with
    | true =>
      have := natBeq.1 hk
      subst this
      simp only [del, hk, ih]
      by_cases hm : m = k
      · simp [hm]
      · simp only [hm, if_false, lk]
        rw [natBeqF.2 (fun h => hm h.symm)]
    | false =>
      have hkn := natBeqF.1 hk
      simp only [del, hk, lk]
      cases hkm : Nat.beq k m with
      | true =>
        have := natBeq.1 hkm
        subst this
        simp [hkn]
      | false => simp only [ih]

theorem lk_put {α : Type} (l : List (Nat × α)) (n m : Nat) (x : α) : lk (put l n x) m = if m = n then some x else lk l m := by
  unfold put
  simp only [lk]
  cases hk : Nat.beq n m with
  | true => have := natBeq.1 hk; subst this; simp
  | false =>
    have := natBeqF.1 hk
    simp only [lk_del]
    have h : m ≠ n := fun h => this h.symm
    simp [h]

theorem mem_iff {n : Nat} : ∀ {l : List Nat}, mem n l = true ↔ n ∈ l
  | [] => by simp [mem]
  | k :: r => by
    simp only [mem, Bool.or_eq_true, natBeq, mem_iff, List.mem_cons]
    constructor
    · rintro (h | h)
      · exact .inl h.symm
      · exact .inr h
    · rintro (h | h)
      · exact .inl h.symm
      · exact .inr h

theorem mem_false {n : Nat} {l : List Nat} : mem n l = false ↔ n ∉ l := by
  rw [← Bool.not_eq_true, mem_iff]

theorem lk_map {α β : Type} (f : α → β) : ∀ (l : List (Nat × α)) (n : Nat), lk (l.map fun e => (e.1, f e.2)) n = (lk l n).map f
  | [], _ => rfl
  | (k, x) :: r, n => by
    simp only [List.map, lk]
    cases Nat.beq k n with
    | true => rfl
    | false => exact lk_map f r n

theorem lk_filter {α : Type} (q : Nat → Bool) : ∀ (l : List (Nat × α)) (n : Nat), lk (l.filter fun e => q e.1) n = if q n then lk l n else none
  | [], n => by simp [lk]
  | (k, x) :: r, n => by
    have ih := lk_filter q r n
    cases hk : Nat.beq k n with
    | true =>
      have hkn := natBeq.1 hk
      subst hkn
      cases hq : q k with
      | true => simp [List.filter, hq, lk, hk]
      | false => simp [List.filter, hq, lk] at ih ⊢; exact ih
    | false =>
      cases hq : q k with
      | true => simp only [List.filter, hq, lk, hk]; exact ih
      | false => simp only [List.filter, hq, lk, hk]; exact ih

/-! ### Steps of the relation -/
def updI (ι : Iota) (id : Nat) (r : Option (Nat × Nat × Nat)) : Iota := fun k => if k = id then r else ι k

theorem getD_set {α : Type} (a : Array α) (d t : Nat) (x y : α) (hd : d < a.size) : (a.setIfInBounds d x).getD t y = if t = d then x else a.getD t y := by
  by_cases h : t = d
  · subst h; simp [hd]
  · have : d ≠ t := fun e => h e.symm
    simp [h, Array.getElem?_setIfInBounds_ne this]

/-- A slot is written. -/
theorem Rel.put {g : G} {s : AS} {a : Act} {w : World} {ι : Iota} {Fr : Nat → Nat → Prop} (h : Rel g s a w ι Fr) {d : Nat} {v : V} {x : Value}
    (hd : d < g.nt) (hv : TRep w Fr ι v x) : Rel g { s with T := put s.T d v } (a.put (some d) x) w ι Fr :=
  { h with
    defers := h.defers
    size := by simp [Act.put, h.size]
    tmp := fun t u ht => by
      simp only [lk_put] at ht
      simp only [Act.put]
      rw [getD_set _ _ _ _ _ (by rw [h.size]; exact hd)]
      by_cases e : t = d
      · simp only [e, if_true] at ht ⊢
        rw [← Option.some.inj ht]; exact hv
      · simp only [e, if_false] at ht ⊢
        exact h.tmp t u ht }

/-- More memory. -/
theorem Rel.grow {g : G} {s : AS} {a : Act} {w w' : World} {ι : Iota} {Fr : Nat → Nat → Prop} (h : Rel g s a w ι Fr)
    (hos : w'.os = w.os) (ht : w'.tape = w.tape) (ho : w'.output = w.output) (hsz : w.heap.size ≤ w'.heap.size)
    (hb : ∀ b, b < w.heap.size → w'.heap[b]? = w.heap[b]?) : Rel g s a w' ι Fr := by
  have hsh : ∀ b e, w.shape? b = some e → w'.shape? b = some e := by
    intro b e he
    have hlt : b < w.heap.size := by
      rcases Nat.lt_or_ge b w.heap.size with h' | h'
      · exact h'
      · simp [World.shape?, Array.getElem?_eq_none h'] at he
    unfold World.shape? at he ⊢
    rw [hb b hlt]; exact he
  have hF : ∀ t b, Fr t b → Fr t b ∧ w'.heap[b]? = w.heap[b]? := fun t b hf => ⟨hf, hb b (h.fr t b hf).1⟩
  exact
    { h with
      tmp := fun t v hv => (h.tmp t v hv).world hF hsh
      own := fun id blk b sz m hl hi => by
        obtain ⟨h1, h2⟩ := h.own id blk b sz m hl hi
        have hlt : b < w.heap.size := by
          rcases Nat.lt_or_ge b w.heap.size with h' | h'
          · exact h'
          · cases blk with
            | arr => obtain ⟨_, _, c, e, hh, _⟩ := h1; simp [Array.getElem?_eq_none h'] at hh
            | box => obtain ⟨c, e, hh, _⟩ := h1; simp [Array.getElem?_eq_none h'] at hh
        exact ⟨h1.mono (p := fun _ => false) (hb b hlt) hF (fun _ _ => rfl) (Blk.ment_false blk) (fun _ r e _ _ hs => hsh r.1 e hs), h2⟩
      fr := fun t b hf => ⟨Nat.lt_of_lt_of_le (h.fr t b hf).1 hsz, (h.fr t b hf).2⟩
      os := hos.trans h.os
      tape := ht.trans h.tape
      output := ho.trans h.output
      hsize := Nat.le_trans h.hsize hsz
      frame := fun b hlt hio => (hb b (Nat.lt_of_lt_of_le hlt h.hsize)).trans (h.frame b hlt hio)
      shape := fun b e he => hsh b e (h.shape b e he) }

theorem OwnB.lt {w : World} {Fr : Nat → Nat → Prop} {ι : Iota} {b sz m : Nat} {blk : Blk} (h : OwnB w Fr ι b sz m blk) : b < w.heap.size := by
  rcases Nat.lt_or_ge b w.heap.size with h' | h'
  · exact h'
  · cases blk with
    | arr => obtain ⟨_, _, c, e, hh, _⟩ := h; simp [Array.getElem?_eq_none h'] at hh
    | box => obtain ⟨c, e, hh, _⟩ := h; simp [Array.getElem?_eq_none h'] at hh

/-- An id that nothing names. -/
structure FreshId (s : AS) (id : Nat) : Prop where
  no : lk s.S id = none
  T : ∀ t v, lk s.T t = some v → V.ment (fun k => Nat.beq k id) v = false
  S : ∀ k blk, lk s.S k = some blk → blk.ment (fun k => Nat.beq k id) = false

theorem updI_ne {ι : Iota} {id k : Nat} {r : Option (Nat × Nat × Nat)} (h : Nat.beq k id = false) : updI ι id r k = ι k := by
  simp [updI, natBeqF.1 h]

/-- A block that nobody reaches becomes one's own, under a name that nothing names. -/
theorem Rel.addBlk {g : G} {s : AS} {a : Act} {w : World} {ι : Iota} {Fr : Nat → Nat → Prop} (h : Rel g s a w ι Fr) {id : Nat} (hf : FreshId s id)
    {b sz m : Nat} {blk : Blk} (hown : OwnB w Fr (updI ι id (some (b, sz, m))) b sz m blk) (hb : g.w0.heap.size ≤ b)
    (hFr : ∀ t, ¬ Fr t b) (hno : ∀ k c r, lk s.S k = some c → ι k = some r → r.1 ≠ b) :
    Rel g { s with S := Go.Av.put s.S id blk } a w (updI ι id (some (b, sz, m))) Fr := by
  have hF : ∀ t b, Fr t b → Fr t b ∧ w.heap[b]? = w.heap[b]? := fun t b hf => ⟨hf, rfl⟩
  refine
    { h with
      tmp := fun t v hv => (h.tmp t v hv).mono (p := fun k => Nat.beq k id) hF (fun k hk => updI_ne hk) (hf.T t v hv) (fun _ _ _ _ _ hs => hs)
      own := ?_, nob := ?_, inj := ?_, fr := ?_ }
  · intro k c b' sz' m' hl hi
    simp only [lk_put] at hl
    by_cases e : k = id
    · subst e
      simp only [if_true, Option.some.injEq] at hl
      simp only [updI, if_true, Option.some.injEq, Prod.mk.injEq] at hi
      obtain ⟨rfl, rfl, rfl⟩ := hi
      subst hl
      exact ⟨hown, .inl hb⟩
    · simp only [e, if_false] at hl
      rw [updI_ne (natBeqF.2 e)] at hi
      obtain ⟨h1, h2⟩ := h.own k c b' sz' m' hl hi
      exact ⟨h1.mono (p := fun k => Nat.beq k id) rfl hF (fun k hk => updI_ne hk) (hf.S k c hl) (fun _ _ _ _ _ hs => hs), h2⟩
  · intro k c hl hi
    simp only [lk_put] at hl
    by_cases e : k = id
    · subst e; simp [updI] at hi
    · simp only [e, if_false] at hl
      rw [updI_ne (natBeqF.2 e)] at hi
      exact h.nob k c hl hi
  · intro k k' c c' r r' h1 h2 h3 h4 h5
    simp only [lk_put] at h1 h2
    by_cases e : k = id <;> by_cases e' : k' = id
    · rw [e, e']
    · subst e
      simp only [e', if_false] at h2
      rw [updI_ne (natBeqF.2 e')] at h4
      simp only [updI, if_true, Option.some.injEq] at h3
      subst h3
      exact absurd h5.symm (hno k' c' r' h2 h4)
    · subst e'
      simp only [e, if_false] at h1
      rw [updI_ne (natBeqF.2 e)] at h3
      simp only [updI, if_true, Option.some.injEq] at h4
      subst h4
      exact absurd h5 (hno k c r h1 h3)
    · simp only [e, e', if_false] at h1 h2
      rw [updI_ne (natBeqF.2 e)] at h3
      rw [updI_ne (natBeqF.2 e')] at h4
      exact h.inj k k' c c' r r' h1 h2 h3 h4 h5
  · intro t b' hfb
    refine ⟨(h.fr t b' hfb).1, (h.fr t b' hfb).2.1, ?_⟩
    intro k c r hl hi
    simp only [lk_put] at hl
    by_cases e : k = id
    · subst e
      simp only [updI, if_true, Option.some.injEq] at hi
      subst hi
      rintro rfl
      exact hFr t hfb
    · simp only [e, if_false] at hl
      rw [updI_ne (natBeqF.2 e)] at hi
      exact (h.fr t b' hfb).2.2 k c r hl hi

/-- An empty row without memory becomes one's own. -/
theorem Rel.addNil {g : G} {s : AS} {a : Act} {w : World} {ι : Iota} {Fr : Nat → Nat → Prop} (h : Rel g s a w ι Fr) {id : Nat} (hf : FreshId s id)
    {sz te : Nat} {f : Nat → V} : Rel g { s with S := Go.Av.put s.S id (.arr sz 0 f te) } a w (updI ι id none) Fr := by
  have hF : ∀ t b, Fr t b → Fr t b ∧ w.heap[b]? = w.heap[b]? := fun t b hf => ⟨hf, rfl⟩
  refine
    { h with
      tmp := fun t v hv => (h.tmp t v hv).mono (p := fun k => Nat.beq k id) hF (fun k hk => updI_ne hk) (hf.T t v hv) (fun _ _ _ _ _ hs => hs)
      own := ?_, nob := ?_, inj := ?_, fr := ?_ }
  · intro k c b' sz' m' hl hi
    simp only [lk_put] at hl
    by_cases e : k = id
    · subst e; simp [updI] at hi
    · simp only [e, if_false] at hl
      rw [updI_ne (natBeqF.2 e)] at hi
      obtain ⟨h1, h2⟩ := h.own k c b' sz' m' hl hi
      exact ⟨h1.mono (p := fun k => Nat.beq k id) rfl hF (fun k hk => updI_ne hk) (hf.S k c hl) (fun _ _ _ _ _ hs => hs), h2⟩
  · intro k c hl hi
    simp only [lk_put] at hl
    by_cases e : k = id
    · subst e; simp only [if_true, Option.some.injEq] at hl; exact ⟨sz, f, te, hl.symm⟩
    · simp only [e, if_false] at hl
      rw [updI_ne (natBeqF.2 e)] at hi
      exact h.nob k c hl hi
  · intro k k' c c' r r' h1 h2 h3 h4 h5
    simp only [lk_put] at h1 h2
    by_cases e : k = id
    · subst e; simp [updI] at h3
    · by_cases e' : k' = id
      · subst e'; simp [updI] at h4
      · simp only [e, e', if_false] at h1 h2
        rw [updI_ne (natBeqF.2 e)] at h3
        rw [updI_ne (natBeqF.2 e')] at h4
        exact h.inj k k' c c' r r' h1 h2 h3 h4 h5
  · intro t b' hfb
    refine ⟨(h.fr t b' hfb).1, (h.fr t b' hfb).2.1, ?_⟩
    intro k c r hl hi
    simp only [lk_put] at hl
    by_cases e : k = id
    · subst e; simp [updI] at hi
    · simp only [e, if_false] at hl
      rw [updI_ne (natBeqF.2 e)] at hi
      exact (h.fr t b' hfb).2.2 k c r hl hi

/-- A name is given up. -/
theorem Rel.drop {g : G} {s : AS} {a : Act} {w : World} {ι : Iota} {Fr : Nat → Nat → Prop} (h : Rel g s a w ι Fr) (id : Nat) : Rel g { s with S := del s.S id } a w ι Fr :=
  h.less (fun _ _ h => h) fun k b hl => by
    simp only [lk_del] at hl
    by_cases e : k = id <;> simp [e] at hl
    simpa [e] using hl

theorem lk_kills : ∀ (ids : List Nat) (S : List (Nat × Blk)) (k : Nat), lk (applyUpd S (ids.map fun id => (id, none))) k = if k ∈ ids then none else lk S k
  | [], S, k => by simp [applyUpd]
  | id :: r, S, k => by
    simp only [List.map, applyUpd]
    rw [lk_kills r, lk_del]
    by_cases h1 : k ∈ r <;> by_cases h2 : k = id <;> simp [h1, h2]

/-- The tags of memory when some blocks of one's own are frozen. -/
def FrK (Fr : Nat → Nat → Prop) (S : List (Nat × Blk)) (ι : Iota) (ids : List Nat) (te : Nat) : Nat → Nat → Prop := fun t b =>
  Fr t b ∨ ((t = te ∨ t = 0) ∧ ∃ id ∈ ids, ∃ blk r, lk S id = some blk ∧ ι id = some r ∧ r.1 = b) ∨ (t = te ∧ 2 ≤ te ∧ te ≠ tagS ∧ ∃ t', 2 ≤ t' ∧ Fr t' b)

/-- Blocks of one's own are given up and frozen under a tag. -/
theorem Rel.freezeL {g : G} {s : AS} {a : Act} {w : World} {ι : Iota} {Fr : Nat → Nat → Prop} (h : Rel g s a w ι Fr) (te : Nat) (ids : List Nat)
    (ht : te ≠ tagS ∨ ids = []) (h64 : ∀ id ∈ ids, 64 ≤ id) :
    Rel g { s with S := applyUpd s.S (ids.map fun id => (id, none)) } a w ι (FrK Fr s.S ι ids te) := by
  have hF : ∀ t b, Fr t b → FrK Fr s.S ι ids te t b ∧ w.heap[b]? = w.heap[b]? := fun t b hf => ⟨.inl hf, rfl⟩
  have hS : ∀ k blk, lk (applyUpd s.S (ids.map fun id => (id, none))) k = some blk → k ∉ ids ∧ lk s.S k = some blk := by
    intro k blk hk
    rw [lk_kills] at hk
    by_cases e : k ∈ ids
    · simp [e] at hk
    · simp only [e, if_false] at hk; exact ⟨e, hk⟩
  have hmine : ∀ id ∈ ids, ∀ blk r, lk s.S id = some blk → ι id = some r → g.w0.heap.size ≤ r.1 ∧ r.1 < w.heap.size := by
    intro id hid blk r hl hi
    obtain ⟨b, sz, m⟩ := r
    obtain ⟨h1, h2⟩ := h.own id blk b sz m hl hi
    rcases h2 with h2 | ⟨_, h2⟩
    · exact ⟨h2, h1.lt⟩
    · have := h64 id hid; omega
  refine
    { h with
      tmp := fun t v hv => (h.tmp t v hv).world hF (fun _ _ hs => hs)
      own := fun id blk b sz m hl hi => ⟨(h.own id blk b sz m (hS _ _ hl).2 hi).1.mono (p := fun _ => false) rfl hF (fun _ _ => rfl) (Blk.ment_false blk) (fun _ _ _ _ _ hs => hs), (h.own id blk b sz m (hS _ _ hl).2 hi).2⟩
      nob := fun id blk hl => h.nob id blk (hS _ _ hl).2
      inj := fun id id' blk blk' r r' h1 h2 => h.inj id id' blk blk' r r' (hS _ _ h1).2 (hS _ _ h2).2
      fr := ?_, frS := ?_, fr0 := ?_, fr2 := ?_ }
  · rintro t b (hf | ⟨_, id, hid, blk, r, hl, hi, rfl⟩ | ⟨_, _, _, t', _, hf⟩)
    · exact ⟨(h.fr t b hf).1, (h.fr t b hf).2.1, fun id blk r hl => (h.fr t b hf).2.2 id blk r (hS _ _ hl).2⟩
    rotate_left
    · exact ⟨(h.fr t' b hf).1, (h.fr t' b hf).2.1, fun id blk r hl => (h.fr t' b hf).2.2 id blk r (hS _ _ hl).2⟩
    · obtain ⟨h1, h2⟩ := hmine id hid blk r hl hi
      refine ⟨h2, fun hx => ?_, fun k c r' hl' hi' e => ?_⟩
      · have := (h.x0 _ hx).1; omega
      · have := h.inj k id c blk r' r (hS _ _ hl').2 hl hi' hi e
        exact (hS _ _ hl').1 (this ▸ hid)
  · rintro b (hf | ⟨e, id, hid, _⟩ | ⟨e, _, h7, _⟩)
    · exact h.frS b hf
    rotate_left
    · exact h7 e.symm
    · rcases ht with ht | rfl
      · rcases e with e | e
        · exact ht e.symm
        · exact absurd e (by decide)
      · cases hid
  · rintro t b (hf | ⟨_, hid⟩ | ⟨_, _, _, t', _, hf⟩)
    · exact .inl (h.fr0 t b hf)
    · exact .inr (.inl ⟨.inr rfl, hid⟩)
    · exact .inl (h.fr0 t' b hf)
  · rintro t b h2' (hf | ⟨_, id, hid, blk, r, hl, hi, rfl⟩ | ⟨_, _, _, t', h8, hf⟩)
    · exact h.fr2 t b h2' hf
    · exact (hmine id hid blk r hl hi).1
    · exact h.fr2 t' b h8 hf

/-- One's own block is written: nothing else lies in it. -/
theorem Rel.setOwn {g : G} {s : AS} {a : Act} {w w' : World} {ι : Iota} {Fr : Nat → Nat → Prop} (h : Rel g s a w ι Fr) {id b sz m : Nat} {old new : Blk}
    (hl : lk s.S id = some old) (hi : ι id = some (b, sz, m)) (hos : w'.os = w.os) (ht : w'.tape = w.tape) (ho : w'.output = w.output) (hsz : w'.heap.size = w.heap.size)
    (hb : ∀ k, k ≠ b → w'.heap[k]? = w.heap[k]?) (hsh : ∀ k e, w.shape? k = some e → w'.shape? k = some e) (hnew : OwnB w' Fr ι b sz m new) :
    Rel g { s with S := Go.Av.put s.S id new } a w' ι Fr := by
  have hF : ∀ t k, Fr t k → Fr t k ∧ w'.heap[k]? = w.heap[k]? := fun t k hf => ⟨hf, hb k fun e => (h.fr t k hf).2.2 id old _ hl hi e.symm⟩
  refine
    { h with
      tmp := fun t v hv => (h.tmp t v hv).world hF hsh
      own := ?_, nob := ?_, inj := ?_, fr := ?_
      os := hos.trans h.os, tape := ht.trans h.tape, output := ho.trans h.output, hsize := by rw [hsz]; exact h.hsize
      frame := ?_, shape := fun k e he => hsh k e (h.shape k e he) }
  · intro k c b' sz' m' hl' hi'
    simp only [lk_put] at hl'
    by_cases e : k = id
    · subst e
      simp only [if_true, Option.some.injEq] at hl'
      rw [hi] at hi'
      simp only [Option.some.injEq, Prod.mk.injEq] at hi'
      obtain ⟨rfl, rfl, rfl⟩ := hi'
      subst hl'
      exact ⟨hnew, (h.own k old b sz m hl hi).2⟩
    · simp only [e, if_false] at hl'
      obtain ⟨h1, h2⟩ := h.own k c b' sz' m' hl' hi'
      have hbb : b' ≠ b := fun e' => e (h.inj k id c old _ _ hl' hl hi' hi e')
      exact ⟨h1.mono (p := fun _ => false) (hb b' hbb) hF (fun _ _ => rfl) (Blk.ment_false c) (fun _ r e _ _ hs => hsh r.1 e hs), h2⟩
  · intro k c hl' hi'
    simp only [lk_put] at hl'
    by_cases e : k = id
    · subst e; rw [hi] at hi'; cases hi'
    · simp only [e, if_false] at hl'; exact h.nob k c hl' hi'
  · intro k k' c c' r r' h1 h2 h3 h4 h5
    have fix : ∀ k c, lk (Go.Av.put s.S id new) k = some c → ∃ c', lk s.S k = some c' := by
      intro k c hk
      simp only [lk_put] at hk
      by_cases e : k = id
      · subst e; exact ⟨_, hl⟩
      · simp only [e, if_false] at hk; exact ⟨_, hk⟩
    obtain ⟨d, hd⟩ := fix k c h1
    obtain ⟨d', hd'⟩ := fix k' c' h2
    exact h.inj k k' d d' r r' hd hd' h3 h4 h5
  · intro t k hf
    refine ⟨by rw [hsz]; exact (h.fr t k hf).1, (h.fr t k hf).2.1, ?_⟩
    intro k' c r hl' hi'
    simp only [lk_put] at hl'
    by_cases e : k' = id
    · subst e; exact (h.fr t k hf).2.2 k' old r hl hi'
    · simp only [e, if_false] at hl'; exact (h.fr t k hf).2.2 k' c r hl' hi'
  · intro k hlt hio
    have hkb : k ≠ b := by
      rintro rfl
      rcases (h.own id old k sz m hl hi).2 with h' | h'
      · omega
      · exact hio h'.1
    rw [hb k hkb]; exact h.frame k hlt hio

end Go.Av
