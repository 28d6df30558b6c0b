/- Operations that write or make memory. -/
import Derived.Test.YtgefdljcommhhaaGreatDoorL1
/- Operations that make memory or write it: new variables, stores, rows written out, made, appended to. -/
namespace Go.Av

theorem getD_map {f : V → V} {cs : List V} {j : Nat} (hj : j < cs.length) : (cs.map f).getD j .undef = f (cs.getD j .undef) := by
  simp [List.getD, hj]

theorem cells_map_frz (S : List (Nat × Blk)) (te : Nat) (x : V) : (frz S te x).cells = match x with
    | .agg cs => cs.map (frzA S te)
    | v => (frzA S te v).cells := by
  cases x <;> rfl

theorem frzA_cells (S : List (Nat × Blk)) (te : Nat) (v : V) : (frzA S te v).cells = [frzA S te v] := by
  cases v <;> simp only [frzA] <;> first | rfl | skip
  split
  · split <;> rfl
  · rfl

theorem all_of_getD {p : V → Bool} {cs : List V} (h : ∀ j, j < cs.length → p (cs.getD j .undef) = true) : cs.all p = true := by
  rw [List.all_eq_true]
  intro x hx
  obtain ⟨j, hj, rfl⟩ := List.mem_iff_getElem.1 hx
  have := h j hj
  simpa [List.getD, hj] using this

set_option backward.match.sparseCases false in
/-- What a row takes in, cell by cell. -/
def fitA (te : Nat) (c : V) : Bool := match tagOfA c with
  | some t => (Nat.beq t te && !(Nat.beq t tagS)) || Nat.beq te 0 || (Nat.ble 2 te && Nat.ble 2 t && !(Nat.beq te tagS))
  | none => match c with
    | .fn _ _ => false
    | .osl _ _ => false
    | .oref _ _ _ => false
    | _ => true

theorem fits_iff {te : Nat} {v : V} (h : fits te v = true) : solid v = true ∧ ∀ j, j < v.cells.length → fitA te (v.cells.getD j .undef) = true := by
  unfold fits at h
  rw [Bool.and_eq_true] at h
  exact ⟨h.1, fun j hj => all_getD (p := fitA te) h.2 hj⟩

theorem frzA_rep {g : G} {s : AS} {a : Act} {w : World} {ι : Iota} {Fr : Nat → Nat → Prop} (h : Rel g s a w ι Fr) {te : Nat} {ids : List Nat} {c : V} {v : Value}
    (hc : TRep w Fr ι c v) (hid : ∀ id ∈ c.ids, id ∈ ids) (hf : fitA te (frzA s.S te c) = true) (hs : solidA (frzA s.S te c) = true) :
    PRep w (FrK Fr s.S ι ids te te) (frzA s.S te c) v := by
  cases hc with
  | osl hi hn hcap hsh hcs =>
    rename_i id n b sz m cap cz e
    simp only [frzA] at hf hs ⊢
    split at hs
    · rename_i sz' m' f te' hl h64
      split at hs
      · rename_i h1
        obtain ⟨rfl, rfl, cells, e', hh, hsz, hlen, hr⟩ := (h.own id _ b sz m hl hi).1
        refine .sl (sz := sz') (off := 0) (fun i j => cells.getD (i * sz' + j) Go.undef) (.inr (.inl ⟨.inl rfl, id, hid id (by simp [V.ids]), _, _, hl, hi, rfl, rfl⟩)) hcap (fun i hin => hlen i (by omega)) (fun i j hin hj => ?_) (fun i j hin hj => ?_)
        · have hmul : i * sz' + sz' ≤ cells.size := by
            have h1 : i * sz' + sz' = (i + 1) * sz' := by rw [Nat.add_mul, Nat.one_mul]
            have h2 : (i + 1) * sz' ≤ m' * sz' := Nat.mul_le_mul_right _ (by omega)
            omega
          rw [Nat.zero_add]; exact cell_of hh (by omega)
        · refine (hr i j (by omega) hj).weaken fun b' hb' => ?_
          simp only [Bool.or_eq_true, Bool.and_eq_true, Bool.not_eq_true', natBeq, natBeqF] at h1
          rcases h1 with ((rfl | rfl) | rfl) | ⟨⟨h5, h6⟩, h7⟩
          · exact .inl hb'
          · exact absurd hb' (h.frS b')
          · exact .inl (h.fr0 _ _ hb')
          · exact .inr (.inr ⟨rfl, Nat.le_of_ble_eq_true h6, h7, _, Nat.le_of_ble_eq_true h5, hb'⟩)
      · simp [solidA] at hs
    · simp [solidA] at hs
  | osl0 x hi =>
    rename_i id
    simp only [frzA] at hf hs ⊢
    split at hs
    · rename_i sz' m' f te' hl h64
      split at hs
      · exact .sl0 _ _ _ _
      · simp [solidA] at hs
    · simp [solidA] at hs
  | oref => simp [frzA, solidA] at hs
  | omap => simp [frzA, solidA] at hs
  | agg => simp [frzA, solidA] at hs
  | tup => simp [frzA, solidA] at hs
  | fn => simp [frzA, solidA] at hs
  | cnd => simp [frzA, solidA] at hs
  | atom hv hp =>
    have he : frzA s.S te c = c := by cases c <;> first | rfl | (simp [isP] at hv; done)
    rw [he] at hf ⊢
    refine hp.weaken fun b' hb' => ?_
    unfold fitA at hf
    unfold tagD at hb'
    cases ht : tagOfA c with
    | none => rw [ht] at hb'; exact absurd hb' (h.frS b')
    | some t =>
      rw [ht] at hf hb'
      simp only [Bool.or_eq_true, Bool.and_eq_true, Bool.not_eq_true', natBeq, natBeqF] at hf
      rcases hf with (⟨rfl, _⟩ | rfl) | ⟨⟨h5, h6⟩, h7⟩
      · exact .inl hb'
      · exact .inl (h.fr0 _ _ hb')
      · exact .inr (.inr ⟨rfl, Nat.le_of_ble_eq_true h5, h7, _, Nat.le_of_ble_eq_true h6, hb'⟩)

theorem ids_cells {x : V} (hx : ∃ cs, x = .agg cs) : ∀ j, j < x.cells.length → ∀ id ∈ (x.cells.getD j .undef).ids, id ∈ x.ids := by
  obtain ⟨cs, rfl⟩ := hx
  simp only [V.cells, V.ids]
  intro j hj id hid
  induction cs generalizing j with
  | nil => simp at hj
  | cons c cs ih =>
    simp only [V.idsL, List.mem_append]
    cases j with
    | zero => left; simpa using hid
    | succ j => right; exact ih j (by simpa using hj) (by simpa using hid)

/-- A value goes into a row: its own blocks are given up; what stands there then is told by its cells. -/
theorem frz_rep {g : G} {s : AS} {a : Act} {w : World} {ι : Iota} {Fr : Nat → Nat → Prop} (h : Rel g s a w ι Fr) {te : Nat} {ids : List Nat} {x : V} {v : Value}
    (hx : TRep w Fr ι x v) (hid : ∀ id ∈ x.ids, id ∈ ids) (hf : fits te (frz s.S te x) = true) :
    v.cells.size = (frz s.S te x).cells.length ∧ (frz s.S te x).cells.length = x.cells.length ∧ (∀ j, j < v.cells.size → one (v.cells.getD j Go.undef) = true) ∧
      ∀ j, j < (frz s.S te x).cells.length → PRep w (FrK Fr s.S ι ids te te) ((frz s.S te x).cells.getD j .undef) (v.cells.getD j Go.undef) := by
  obtain ⟨hsol, hfit⟩ := fits_iff hf
  by_cases hag : ∃ cs, x = .agg cs
  · have hids := ids_cells hag
    obtain ⟨cs, rfl⟩ := hag
    obtain ⟨arr, rfl, hsz, hr⟩ := inv_agg hx
    simp only [frz, V.cells, List.length_map] at hfit hids ⊢
    have hsa : ∀ j, j < cs.length → solidA (frzA s.S te (cs.getD j .undef)) = true := by
      intro j hj
      have := all_getD (cs := cs.map (frzA s.S te)) hsol (j := j) (by simpa using hj)
      rwa [getD_map hj] at this
    have key : ∀ j, j < cs.length → PRep w (FrK Fr s.S ι ids te te) (frzA s.S te (cs.getD j .undef)) (arr.getD j Go.undef) := by
      intro j hj
      have h2 := hfit j hj
      rw [getD_map hj] at h2
      exact frzA_rep h (hr j hj) (fun id hi => hid id (hids j hj id hi)) h2 (hsa j hj)
    refine ⟨hsz, trivial, fun j hj => ?_, fun j hj => ?_⟩
    · have hj' : j < cs.length := by simpa [Value.cells, hsz] using hj
      have := (TRep.atom (Fr := fun _ => FrK Fr s.S ι ids te te) (ι := ι) (by
        have := hsa j hj'
        cases hfz : frzA s.S te (cs.getD j .undef) <;> first | rfl | (rw [hfz] at this; simp [solidA] at this; done) | skip
        all_goals
          exfalso
          have h2 := hfit j hj'
          rw [getD_map hj', hfz] at h2
          simp [fitA, tagOfA] at h2) (key j hj')).one (hsa j hj')
      exact this
    · rw [getD_map hj]; exact key j hj
  · have hfz : (frz s.S te x) = frzA s.S te x := by
      cases x <;> first | rfl | exact absurd ⟨_, rfl⟩ hag
    have hc1 := frzA_cells s.S te x
    rw [hfz] at hsol hfit ⊢
    rw [hc1] at hfit ⊢
    have hsa : solidA (frzA s.S te x) = true := by
      cases hy : frzA s.S te x <;> first | (rw [hy] at hsol; exact hsol) | skip
      rename_i cs
      rw [hy] at hc1
      simp only [V.cells] at hc1
      have : (V.agg cs) = V.undef := by
        exfalso
        cases x <;> simp only [frzA] at hy <;> first | cases hy | skip
        split at hy
        · split at hy <;> cases hy
        · cases hy
      cases this
    have hp := frzA_rep h hx hid (by simpa using hfit 0 (by simp)) hsa
    have hxc : x.cells = [x] := by
      cases x <;> first | rfl | exact absurd ⟨_, rfl⟩ hag
    have hone : one v = true := by
      refine hx.one ?_
      cases x <;> first | rfl | (simp [frzA, solidA] at hsa; done)
    rw [one_cells hone, hxc]
    refine ⟨by simp, by simp, fun j hj => ?_, fun j hj => ?_⟩
    · have : j = 0 := by simpa using hj
      subst this; simpa using hone
    · have : j = 0 := by simpa using hj
      subst this; simpa using hp

/-! ### Cells written one behind the other -/
def writeArr : Array Value → Nat → List Value → Array Value
  | arr, _, [] => arr
  | arr, o, v :: r => writeArr (arr.setIfInBounds o v) (o + 1) r

theorem writeArr_size : ∀ (l : List Value) (arr : Array Value) (o : Nat), (writeArr arr o l).size = arr.size
  | [], _, _ => rfl
  | v :: r, arr, o => by rw [writeArr, writeArr_size r]; simp

theorem writeArr_getD : ∀ (l : List Value) (arr : Array Value) (o j : Nat), o + l.length ≤ arr.size →
    (writeArr arr o l).getD j Go.undef = if o ≤ j ∧ j < o + l.length then l.getD (j - o) Go.undef else arr.getD j Go.undef
  | [], arr, o, j, _ => by
    have : ¬ (o ≤ j ∧ j < o + ([] : List Value).length) := by simp
    rw [if_neg this]; rfl
  | v :: r, arr, o, j, h => by
    simp only [List.length_cons] at h
    rw [writeArr, writeArr_getD r _ _ _ (by simp; omega), getD_set _ _ _ _ _ (by omega)]
    by_cases h1 : j = o
    · subst h1
      have e1 : ¬ (j + 1 ≤ j ∧ j < j + 1 + r.length) := by omega
      have e2 : j ≤ j ∧ j < j + (v :: r).length := by simp
      rw [if_neg e1, if_pos rfl, if_pos e2]; simp
    · by_cases h2 : o + 1 ≤ j ∧ j < o + 1 + r.length
      · have e2 : o ≤ j ∧ j < o + (v :: r).length := by simp only [List.length_cons]; omega
        rw [if_pos h2, if_pos e2]
        have : j - o = (j - (o + 1)) + 1 := by omega
        rw [this]; simp
      · have e2 : ¬ (o ≤ j ∧ j < o + (v :: r).length) := by simp only [List.length_cons]; omega
        rw [if_neg h2, if_neg e2, if_neg h1]

theorem setAt_length : ∀ (cs : List V) (off : Nat) (xs : List V), (setAt cs off xs).length = cs.length
  | [], _, _ => by simp [setAt]
  | _ :: _, 0, [] => rfl
  | _ :: cs, 0, _ :: xs => by simp [setAt, setAt_length cs]
  | _ :: cs, off + 1, xs => by simp [setAt, setAt_length cs]

theorem setAt_getD : ∀ (cs : List V) (off : Nat) (xs : List V) (j : Nat), off + xs.length ≤ cs.length →
    (setAt cs off xs).getD j .undef = if off ≤ j ∧ j < off + xs.length then xs.getD (j - off) .undef else cs.getD j .undef
  | [], off, xs, j, h => by
    have : ¬ (off ≤ j ∧ j < off + xs.length) := by simp only [List.length_nil] at h; omega
    rw [if_neg this]; rfl
  | c :: cs, 0, [], j, _ => by
    have : ¬ (0 ≤ j ∧ j < 0 + ([] : List V).length) := by simp
    rw [if_neg this]; rfl
  | c :: cs, 0, x :: xs, j, h => by
    simp only [List.length_cons] at h
    rw [setAt]
    cases j with
    | zero => simp
    | succ j =>
      have ih := setAt_getD cs 0 xs j (by omega)
      simp only [List.getD_cons_succ, ih]
      by_cases h2 : j < xs.length
      · rw [if_pos (by omega), if_pos (by simp; omega)]; simp
      · rw [if_neg (by omega), if_neg (by simp; omega)]
  | c :: cs, off + 1, xs, j, h => by
    simp only [List.length_cons] at h
    rw [setAt]
    cases j with
    | zero => rw [if_neg (by omega)]; simp
    | succ j =>
      have ih := setAt_getD cs off xs j (by omega)
      simp only [List.getD_cons_succ, ih]
      by_cases h2 : off ≤ j ∧ j < off + xs.length
      · rw [if_pos h2, if_pos (by omega)]; congr 1; omega
      · rw [if_neg h2, if_neg (by omega)]

section
variable {P : Program}

/-- The world in which the cells of one block are these. -/
def withCells (w : World) (b : Nat) (arr : Array Value) (e : TypeId) : World := { w with heap := w.heap.setIfInBounds b (.cells arr e (0, 0)) }

theorem setCell_withCells {w : World} {b o : Nat} {arr : Array Value} {e : TypeId} {v : Value} (h : w.heap[b]? = some (.cells arr e (0, 0))) :
    w.setCell ⟨b, o, none⟩ v = withCells w b (arr.setIfInBounds o v) e := by
  have hb : b < w.heap.size := by
    rcases Nat.lt_or_ge b w.heap.size with h' | h'
    · exact h'
    · simp [Array.getElem?_eq_none h'] at h
  unfold World.setCell withCells
  congr 1
  apply Array.ext_getElem?
  intro k
  rw [Array.getElem?_modify, Array.getElem?_setIfInBounds]
  by_cases hk : b = k
  · subst hk
    have hg : w.heap[b] = .cells arr e (0, 0) := by
      rw [Array.getElem?_eq_getElem hb] at h
      exact Option.some.inj h
    simp [hb, hg]
  · simp [hk]

theorem withCells_get {w : World} {b : Nat} {arr : Array Value} {e : TypeId} (hb : b < w.heap.size) : (withCells w b arr e).heap[b]? = some (.cells arr e (0, 0)) := by
  simp [withCells, hb]

theorem withCells_ne {w : World} {b k : Nat} {arr : Array Value} {e : TypeId} (hk : k ≠ b) : (withCells w b arr e).heap[k]? = w.heap[k]? := by
  have : b ≠ k := fun h => hk h.symm
  simp [withCells, Array.getElem?_setIfInBounds_ne this]

theorem withCells_with (w : World) (b : Nat) (arr arr' : Array Value) (e e' : TypeId) : withCells (withCells w b arr e) b arr' e' = withCells w b arr' e' := by
  simp [withCells]

theorem withCells_size {w : World} {b : Nat} {arr : Array Value} {e : TypeId} : (withCells w b arr e).heap.size = w.heap.size := by simp [withCells]

theorem run_storeCells {b : Nat} {e : TypeId} : ∀ (l : List Value) (w : World) (arr : Array Value) (o i : Nat), w.heap[b]? = some (.cells arr e (0, 0)) → o + i + l.length ≤ arr.size →
    (∀ v ∈ l, one v = true) → (storeCells ⟨b, o, none⟩ l i).run P w = .ok () (if l = [] then w else withCells w b (writeArr arr (o + i) l) e)
  | [], w, arr, o, i, _, _, _ => by simp [storeCells]
  | v :: r, w, arr, o, i, h, hsz, hone => by
    have hb : b < w.heap.size := by
      rcases Nat.lt_or_ge b w.heap.size with h' | h'
      · exact h'
      · simp [Array.getElem?_eq_none h'] at h
    simp only [List.length_cons] at hsz
    have hv : v.oneCell' = true := by
      have := hone v (List.mem_cons_self ..)
      cases v <;> first | rfl | (simp [one] at this; done)
    have hc := cell_of h (k := o + i) (by omega)
    have hfz : w.frozen? ⟨b, o + i, none⟩ = false := by simp [World.frozen?, h]
    have h1 : (store ((⟨b, o, none⟩ : Addr).add i) v).run P w = .ok () (withCells w b (arr.setIfInBounds (o + i) v) e) := by
      rw [add_none, run_store P w _ v .plain hv, hc]
      simp only [hfz, Bool.false_eq_true, if_false]
      rw [setCell_withCells h]
    have ih := run_storeCells r (withCells w b (arr.setIfInBounds (o + i) v) e) (arr.setIfInBounds (o + i) v) o (i + 1) (withCells_get hb) (by simp; omega) (fun v hv => hone v (List.mem_cons_of_mem _ hv))
    rw [storeCells, Sem.run_bind, h1]
    simp only [Result.andThen_ok, ih]
    congr 1
    simp only [reduceCtorEq, if_false, writeArr, withCells_with]
    split
    · rename_i hr; subst hr; simp [writeArr]
    · congr 1

theorem shape_with {w : World} {b k : Nat} {arr arr' : Array Value} {e : TypeId} {f : Nat × Nat} {s : TypeId × Nat} (h : w.heap[b]? = some (.cells arr e f)) (hs : arr'.size = arr.size)
    (hk : w.shape? k = some s) : (withCells w b arr' e).shape? k = some s := by
  have hb : b < w.heap.size := by
    rcases Nat.lt_or_ge b w.heap.size with h' | h'
    · exact h'
    · simp [Array.getElem?_eq_none h'] at h
  unfold World.shape? at hk ⊢
  by_cases e1 : k = b
  · subst e1
    rw [withCells_get hb]
    rw [h] at hk
    simpa [hs] using hk
  · rw [withCells_ne e1]; exact hk

end
end Go.Av

/- New blocks and stores, by the machine and by the abstract effect. -/
namespace Go.Av

theorem fresh_aval {s : AS} {id : Nat} (h : FreshId s id) (x : Operand) : V.ment (fun k => Nat.beq k id) (strip (aval s x)) = false := by
  have key : V.ment (fun k => Nat.beq k id) (aval s x) = false := by
    cases x with
    | tmp t =>
      simp only [aval]
      cases hl : lk s.T t with
      | some v => exact h.T t v hl
      | none => rfl
    | const v =>
      simp only [aval]
      unfold ofConst
      have hcell : ∀ v, V.ment (fun k => Nat.beq k id) (ofCell v) = false := by
        intro v
        unfold ofCell
        split <;> rfl
      split
      · rename_i cs
        simp only [V.ment]
        induction cs.toList with
        | nil => rfl
        | cons c l ih => simp only [List.map, V.mentL, hcell, Bool.false_or]; exact ih
      · rfl
      · exact hcell _
    | global n => rfl
    | func f => rfl
  cases hv : aval s x with
  | cnd c v => rw [hv] at key; exact key
  | _ => rw [hv] at key; exact key

theorem mentL_cells {p : Nat → Bool} {v : V} (h : V.ment p v = false) : V.mentL p v.cells = false := by
  cases v with
  | agg cs => exact h
  | _ => simp only [V.cells, V.mentL, h, Bool.false_or]

/-- A new block of cells. -/
theorem Rel.newBlk {g : G} {s : AS} {a : Act} {w : World} {ι : Iota} {Fr : Nat → Nat → Prop} (h : Rel g s a w ι Fr) {id : Nat} (hf : FreshId s id) {arr : Array Value} {e : TypeId} {sz m : Nat} {blk : Blk}
    (hown : ∀ w' : World, w'.heap[w.heap.size]? = some (.cells arr e (0, 0)) → (∀ b, b < w.heap.size → w'.heap[b]? = w.heap[b]?) → (∀ b x, w.shape? b = some x → w'.shape? b = some x) →
      OwnB w' Fr (updI ι id (some (w.heap.size, sz, m))) w.heap.size sz m blk) :
    Rel g { s with S := Go.Av.put s.S id blk } a (w.alloc (.cells arr e (0, 0))) (updI ι id (some (w.heap.size, sz, m))) Fr := by
  have hb : ∀ b, b < w.heap.size → (w.alloc (.cells arr e (0, 0))).heap[b]? = w.heap[b]? := fun b hb => Go.RowKit.Below.heap_alloc _ _ _ hb
  have hsh : ∀ b x, w.shape? b = some x → (w.alloc (.cells arr e (0, 0))).shape? b = some x := by
    intro b x hx
    have hlt : b < w.heap.size := by
      rcases Nat.lt_or_ge b w.heap.size with h' | h'
      · exact h'
      · simp [World.shape?, Array.getElem?_eq_none h'] at hx
    unfold World.shape? at hx ⊢
    rw [hb b hlt]; exact hx
  have h1 := h.grow (w' := w.alloc (.cells arr e (0, 0))) rfl rfl rfl (by simp) hb
  refine h1.addBlk hf (hown _ (heap_alloc_new w _) hb hsh) h.hsize (fun t ht => ?_) (fun k c r hl hi e1 => ?_)
  · have := (h.fr t _ ht).1; omega
  · obtain ⟨b, sz', m'⟩ := r
    have := (h.own k c b sz' m' hl hi).1.lt
    simp only at e1; omega

/-- An operation that yields a value and has turned memory. -/
theorem does_mem {P : Program} {g : G} {s : AS} {a : Act} {w w' : World} {ι' : Iota} {Fr' : Nat → Nat → Prop} {o : Oper} {e : Ef} {x : Value}
    (hd : dstOk g.nt o = true) (hr : (execOp a.eval o).run P w = .ok (.value x) w') (h : Rel g { s with S := applyUpd s.S e.upd } a w' ι' Fr') (hv : TRep w' Fr' ι' e.v x) :
    Does P g (s.app o.dst e) a w o := by
  intro next Q hn
  unfold Oper.wp
  rw [hr]
  simp only [Oper.upon]
  unfold AS.app at hn
  cases hdst : o.dst with
  | none => rw [hdst] at hn; exact hn _ _ ι' Fr' h
  | some d =>
    rw [hdst] at hn
    have hlt : d < g.nt := by
      unfold dstOk at hd
      rw [hdst] at hd
      exact Nat.le_of_ble_eq_true hd
    exact hn _ _ ι' Fr' (h.put hlt hv)

/-- The same for one that yields nothing. -/
theorem does_skip {P : Program} {g : G} {s : AS} {a : Act} {w w' : World} {ι' : Iota} {Fr' : Nat → Nat → Prop} {o : Oper} {e : Ef}
    (hd : dstOk g.nt o = true) (hr : (execOp a.eval o).run P w = .ok .skip w') (h : Rel g { s with S := applyUpd s.S e.upd } a w' ι' Fr') (hv : e.v = .undef) :
    Does P g (s.app o.dst e) a w o := by
  intro next Q hn
  unfold Oper.wp
  rw [hr]
  simp only [Oper.upon]
  unfold AS.app at hn
  cases hdst : o.dst with
  | none => rw [hdst] at hn; exact hn _ _ ι' Fr' h
  | some d =>
    rw [hdst] at hn
    have hlt : d < g.nt := by
      unfold dstOk at hd
      rw [hdst] at hd
      exact Nat.le_of_ble_eq_true hd
    exact hn _ _ ι' Fr' (h.put hlt (by rw [hv]; exact .atom rfl (.undef _)))

section
variable {P : Program} {tt : TT} (hT : TabOk P tt)

theorem run_newVar (t : TypeId) (v : Value) (w : World) : (newVar t v).run P w = .ok ⟨w.heap.size, 0, none⟩ (w.alloc (.cells v.cells t (0, 0))) := by
  unfold newVar newRow
  simp

/-- A variable of its own, made of the cells of a value. -/
theorem box_rel {g : G} {s : AS} {a : Act} {w : World} {ι : Iota} {Fr : Nat → Nat → Prop} (h : Rel g s a w ι Fr) {id : Nat} (hf : FreshId s id) {cs : List V} {arr : Array Value} (t : TypeId)
    (hs : arr.size = cs.length) (hr : ∀ j, j < cs.length → TRep w Fr ι (cs.getD j .undef) (arr.getD j Go.undef)) (hm : V.mentL (fun k => Nat.beq k id) cs = false) :
    Rel g { s with S := put s.S id (.box cs) } a (w.alloc (.cells arr t (0, 0))) (updI ι id (some (w.heap.size, 1, 1))) Fr ∧
      TRep (w.alloc (.cells arr t (0, 0))) Fr (updI ι id (some (w.heap.size, 1, 1))) (.oref id 0 0) (.pointer (some ⟨w.heap.size, 0, none⟩)) := by
  refine ⟨h.newBlk (blk := .box cs) (sz := 1) (m := 1) hf fun w' hw hb hsh => ?_, ?_⟩
  · refine ⟨arr, t, hw, hs, fun j hj => ?_⟩
    exact (hr j hj).mono (p := fun k => Nat.beq k id) (fun t b hb' => ⟨hb', hb b (h.fr t b hb').1⟩) (fun k hk => updI_ne hk) (mentL_getD hm hj) (fun _ r e _ _ hs => hsh _ _ hs)
  · have := TRep.oref (w := w.alloc (.cells arr t (0, 0))) (Fr := Fr) (ι := updI ι id (some (w.heap.size, 1, 1))) (id := id) (i := 0) (off := 0) (b := w.heap.size) (sz := 1) (m := 1) (by simp [updI]) (by omega)
    simpa using this

include hT in
theorem does_alloc {g : G} {s : AS} {a : Act} {w : World} {ι : Iota} {Fr : Nat → Nat → Prop} (h : Rel g s a w ι Fr) {o : Oper} {el : TypeId} {ti : TI} (hop : o.op = .alloc el) (hl : lk tt el = some ti)
    {id : Nat} (hf : FreshId s id) (hd : dstOk g.nt o = true) : Does P g (s.app o.dst ⟨.oref id 0 0, [(id, some (.box ti.zero.cells))], [], []⟩) a w o := by
  obtain ⟨z, hz, hzr, hzc, hzs, _⟩ := run_zero hT hl w
  have hcells : z.cells.size = ti.zero.cells.length ∧ ∀ j, j < ti.zero.cells.length → TRep w Fr ι (ti.zero.cells.getD j .undef) (z.cells.getD j Go.undef) := by
    refine ⟨by rw [hzs, hzc], fun j hj => ?_⟩
    by_cases hag : ∃ cs, ti.zero = .agg cs
    · obtain ⟨cs, hcs⟩ := hag
      rw [hcs] at hzr hj ⊢
      cases hzr with
      | agg arr h1 h2 => exact TRep.ofP (h2 j hj)
    · have hc : ti.zero.cells = [ti.zero] := by
        cases hv : ti.zero <;> first | rfl | exact absurd ⟨_, hv⟩ hag
      rw [hc] at hj hzc ⊢
      have hj0 : j = 0 := by simpa using hj
      subst hj0
      have h1 : z.cells.size = 1 := by rw [hzs, ← hzc]; rfl
      have : z.cells.getD 0 Go.undef = z ∨ ti.zero = .undef := by
        cases hzv : z with
        | agg cs => right; rw [hzv] at hzr; cases hv : ti.zero <;> rw [hv] at hzr <;> first | rfl | (exfalso; cases hzr; done) | skip
                    exact absurd ⟨_, hv⟩ hag
        | _ => left; rfl
      rcases this with h2 | h2
      · rw [h2]; exact TRep.ofP hzr
      · rw [h2]; exact .atom rfl (.undef _)
  have hm : V.mentL (fun k => Nat.beq k id) ti.zero.cells = false := by
    have hno : ∀ {v : V} {x : Value}, PRep w (fun _ => False) v x → ∀ p, V.ment p v = false := by
      intro v x hp p
      induction hp with
      | @agg cs arr hs _ ih =>
        simp only [V.ment]
        have : ∀ (l : List V), (∀ j, j < l.length → V.ment p (l.getD j .undef) = false) → V.mentL p l = false := by
          intro l
          induction l with
          | nil => intro _; rfl
          | cons c l ih => intro h; simp only [V.mentL, Bool.or_eq_false_iff]; exact ⟨by simpa using h 0 (by simp), ih fun j hj => by simpa using h (j + 1) (by simpa using hj)⟩
        exact this cs ih
      | @tup cs arr hs _ ih =>
        simp only [V.ment]
        have : ∀ (l : List V), (∀ j, j < l.length → V.ment p (l.getD j .undef) = false) → V.mentL p l = false := by
          intro l
          induction l with
          | nil => intro _; rfl
          | cons c l ih => intro h; simp only [V.mentL, Bool.or_eq_false_iff]; exact ⟨by simpa using h 0 (by simp), ih fun j hj => by simpa using h (j + 1) (by simpa using hj)⟩
        exact this cs ih
      | @fn _ cs arr hs _ ih =>
        simp only [V.ment]
        have : ∀ (l : List V), (∀ j, j < l.length → V.ment p (l.getD j .undef) = false) → V.mentL p l = false := by
          intro l
          induction l with
          | nil => intro _; rfl
          | cons c l ih => intro h; simp only [V.mentL, Bool.or_eq_false_iff]; exact ⟨by simpa using h 0 (by simp), ih fun j hj => by simpa using h (j + 1) (by simpa using hj)⟩
        exact this cs ih
      | _ => rfl
    exact mentL_cells (hno hzr _)
  obtain ⟨h1, h2⟩ := box_rel h hf el hcells.1 hcells.2 hm
  refine does_mem (x := .pointer (some ⟨w.heap.size, 0, none⟩)) hd ?_ h1 h2
  unfold execOp
  rw [hop]
  refine run_v ?_
  unfold Instr.alloc
  simp [hz, run_newVar]

theorem does_box {g : G} {s : AS} {a : Act} {w : World} {ι : Iota} {Fr : Nat → Nat → Prop} (h : Rel g s a w ι Fr) {o : Oper} {el : TypeId} {x : Operand} (hop : o.op = .box el x)
    (hx : TRep w Fr ι (strip (aval s x)) (a.eval x)) (hs : solid (strip (aval s x)) = true)
    {id : Nat} (hf : FreshId s id) (hd : dstOk g.nt o = true) : Does P g (s.app o.dst ⟨.oref id 0 0, [(id, some (.box (strip (aval s x)).cells))], [], []⟩) a w o := by
  obtain ⟨h1, h2⟩ := hx.cells hs
  obtain ⟨h3, h4⟩ := box_rel h hf el h1 (fun j hj => (h2 j hj).1) (mentL_cells (fresh_aval hf x))
  refine does_mem (x := .pointer (some ⟨w.heap.size, 0, none⟩)) hd ?_ h3 h4
  unfold execOp
  rw [hop]
  refine run_v ?_
  unfold Instr.box
  simp [run_newVar]

theorem writeV_some {cs cs' : List V} {off : Nat} {xs : List V} (h : writeV cs off xs = some cs') : off + xs.length ≤ cs.length ∧ cs' = setAt cs off xs := by
  unfold writeV at h
  split at h
  · rename_i hb
    exact ⟨Nat.le_of_ble_eq_true hb, by simpa using h.symm⟩
  · simp at h

include hT in
theorem run_storeVar {t : Nat} {ti : TI} (hl : lk tt t = some ti) {w : World} {b o : Nat} {arr : Array Value} {e : TypeId} {v : Value} (hb : w.heap[b]? = some (.cells arr e (0, 0)))
    (hsz : v.cells.size = ti.size) (hle : o + ti.size ≤ arr.size) (hone : ∀ j, j < v.cells.size → one (v.cells.getD j Go.undef) = true) :
    (Instr.storeAt t (.pointer (some ⟨b, o, none⟩)) v).run P w = .ok () (if v.cells.toList = [] then w else withCells w b (writeArr arr o v.cells.toList) e) := by
  unfold Instr.storeAt Instr.sureAddr storeVar
  have h1 : ∀ x ∈ v.cells.toList, one x = true := by
    intro x hx
    obtain ⟨j, hj, rfl⟩ := List.mem_iff_getElem.1 hx
    have := hone j (by simpa using hj)
    simpa [show j < v.cells.size by simpa using hj] using this
  have := run_storeCells (P := P) v.cells.toList w arr o 0 hb (by simp; omega) h1
  simp only [Sem.run_bind, Sem.run_pure, Result.andThen_ok, run_size hT hl, hsz, ne_eq, not_true_eq_false, if_false, Nat.add_zero] at this ⊢
  exact this

end
end Go.Av

/- A store, and a row made with its zeros. -/
namespace Go.Av

theorem withCells_self {w : World} {b : Nat} {arr : Array Value} {e : TypeId} (h : w.heap[b]? = some (.cells arr e (0, 0))) : withCells w b arr e = w := by
  unfold withCells
  have : w.heap.setIfInBounds b (.cells arr e (0, 0)) = w.heap := by
    apply Array.ext_getElem?
    intro k
    by_cases hk : b = k
    · subst hk
      have hb : b < w.heap.size := by
        rcases Nat.lt_or_ge b w.heap.size with h' | h'
        · exact h'
        · simp [Array.getElem?_eq_none h'] at h
      simp [hb]
      rw [Array.getElem?_eq_getElem hb] at h
      exact (Option.some.inj h).symm
    · rw [Array.getElem?_setIfInBounds_ne hk]
  rw [this]

theorem allGe_iff : ∀ {l : List Nat}, allGe l = true → ∀ id ∈ l, 64 ≤ id
  | [], _, _, h => by cases h
  | k :: r, h, id, hid => by
    simp only [allGe, Bool.and_eq_true] at h
    rcases List.mem_cons.1 hid with rfl | hid
    · exact Nat.le_of_ble_eq_true h.1
    · exact allGe_iff h.2 id hid

theorem elem_cells {v : V} {cs : List V} (hl : cs.length = v.cells.length) (hs : ∀ j, j < cs.length → ∀ ds, cs.getD j .undef ≠ .agg ds) :
    (elemV (isAggV v) cs).cells = cs := by
  by_cases hag : ∃ ds, v = .agg ds
  · obtain ⟨ds, rfl⟩ := hag; rfl
  · have h1 : isAggV v = false := by
      cases v <;> first | rfl | exact absurd ⟨_, rfl⟩ hag
    have h2 : v.cells = [v] := by
      cases v <;> first | rfl | exact absurd ⟨_, rfl⟩ hag
    rw [h1]
    rw [h2] at hl
    match cs, hl with
    | [c], _ =>
      simp only [elemV, List.headD]
      have := hs 0 (by simp)
      cases c <;> first | rfl | exact absurd rfl (this _)

theorem idsL_nil : ∀ (ds : List V), (∀ j, j < ds.length → (ds.getD j .undef).ids = []) → V.idsL ds = []
  | [], _ => rfl
  | c :: l, h => by
    have h0 := h 0 (by simp)
    simp only [List.getD_cons_zero] at h0
    rw [V.idsL, h0, idsL_nil l fun j hj => by simpa using h (j + 1) (by simpa using hj)]
    rfl

section
variable {P : Program} {tt : TT} (hT : TabOk P tt)

include hT in
theorem store_run {t : Nat} {ti : TI} (hl : lk tt t = some ti) {w : World} {b o : Nat} {arr : Array Value} {e : TypeId} {v : Value} (hb : w.heap[b]? = some (.cells arr e (0, 0)))
    (hsz : v.cells.size = ti.size) (hle : o + ti.size ≤ arr.size) (hone : ∀ j, j < v.cells.size → one (v.cells.getD j Go.undef) = true) :
    (Instr.storeAt t (.pointer (some ⟨b, o, none⟩)) v).run P w = .ok () (withCells w b (writeArr arr o v.cells.toList) e) := by
  rw [run_storeVar hT hl hb hsz hle hone]
  split
  · rename_i h
    rw [h, writeArr, withCells_self hb]
  · rfl

theorem toList_getD (a : Array Value) (j : Nat) : a.toList.getD j Go.undef = a.getD j Go.undef := by
  by_cases h : j < a.size
  · simp [h]
  · simp [h]

include hT in
theorem does_store {g : G} {s : AS} {a : Act} {w : World} {ι : Iota} {Fr : Nat → Nat → Prop} (h : Rel g s a w ι Fr) {o : Oper} {t : TypeId} {ti : TI} {p x : Operand} (hop : o.op = .store t p x) (hl : lk tt t = some ti)
    (hp : TRep w Fr ι (strip (aval s p)) (a.eval p)) (hx : TRep w Fr ι (strip (aval s x)) (a.eval x)) (hd : dstOk g.nt o = true)
    {e : Ef} (he : storeV s.S ti (strip (aval s p)) (strip (aval s x)) = some e) (ho : ∀ q ∈ e.ob, q) : Does P g (s.app o.dst e) a w o := by
  generalize strip (aval s p) = pv at *
  generalize strip (aval s x) = xv at *
  have hrun : ∀ w', (Instr.storeAt t (a.eval p) (a.eval x)).run P w = .ok () w' → (execOp a.eval o).run P w = .ok .skip w' := by
    intro w' hr
    unfold execOp
    rw [hop]
    exact run_u hr
  generalize a.eval p = vp at hp hrun
  unfold storeV at he
  split at he
  case h_2 => simp at he
  case h_1 id i off hcond =>
    simp only [Bool.and_eq_true, natBeq] at hcond
    obtain ⟨hlen, hsol⟩ := hcond
    obtain ⟨hxc, hxr⟩ := hx.cells hsol
    cases hp with
    | atom hv _ => simp [isP] at hv
    | @oref _ _ _ b sz m hi him =>
      cases hb : lk s.S id with
      | none => simp [hb] at he
      | some blk =>
        have hown := (h.own id blk b sz m hb hi).1
        have hblt := hown.lt
        cases blk with
        | mp => simp [hb] at he
        | box cs =>
          simp only [hb] at he
          cases i with
          | succ i => simp at he
          | zero =>
            cases hw : writeV cs off xv.cells with
            | none => simp [hw] at he
            | some cs' =>
              simp only [hw, Option.some.injEq] at he
              subst he
              obtain ⟨hle, rfl⟩ := writeV_some hw
              obtain ⟨arr, e', hh, hsz, hcr⟩ := hown
              have hst := store_run (P := P) hT hl (o := off) hh (v := a.eval x) (by omega) (by omega) (fun j hj => (hxr j (by omega)).1.one (hxr j (by omega)).2)
              have hval : (.pointer (some ⟨b, 0 * sz + off, none⟩) : Value) = .pointer (some ⟨b, off, none⟩) := by simp
              have hw1 := hrun (withCells w b (writeArr arr off (a.eval x).cells.toList) e') (by rw [hval]; exact hst)
              refine does_skip (ι' := ι) (Fr' := Fr) hd hw1 ?_ rfl
              have hF : ∀ t k, Fr t k → Fr t k ∧ (withCells w b (writeArr arr off (a.eval x).cells.toList) e').heap[k]? = w.heap[k]? := fun t k hf => ⟨hf, withCells_ne fun e1 => (h.fr t k hf).2.2 id _ _ hb hi e1.symm⟩
              have hsh : ∀ k x', w.shape? k = some x' → (withCells w b (writeArr arr off (a.eval x).cells.toList) e').shape? k = some x' := fun k x' hk => shape_with hh (writeArr_size _ _ _) hk
              refine h.setOwn hb hi rfl rfl rfl withCells_size (fun k hk => withCells_ne hk) hsh ⟨_, e', withCells_get hblt, by rw [writeArr_size, setAt_length]; exact hsz, fun j hj => ?_⟩
              rw [setAt_length] at hj
              rw [setAt_getD _ _ _ _ hle, writeArr_getD _ _ _ _ (by simp; omega)]
              by_cases hjr : off ≤ j ∧ j < off + xv.cells.length
              · rw [if_pos hjr, if_pos (by simp; omega), toList_getD]
                exact (hxr _ (by omega)).1.world hF hsh
              · rw [if_neg hjr, if_neg (by simp; omega)]
                exact (hcr j hj).world hF hsh
        | arr sz' n f te =>
          simp only [hb] at he
          cases hw : writeV (cellsN sz' (f i)) off (frz s.S te xv).cells with
          | none => simp [hw] at he
          | some cs' =>
            cases hc2 : fits te (frz s.S te xv) && !(mem id xv.ids) && allGe xv.ids && (xv.ids.isEmpty || !(Nat.beq te 1)) with
            | false => simp [hw, hc2] at he
            | true =>
              simp only [hw, hc2, Option.some.injEq] at he
              subst he
              simp only [Bool.and_eq_true, Bool.or_eq_true, List.isEmpty_iff, Bool.not_eq_true', natBeqF] at hc2
              obtain ⟨⟨⟨hfit, hmem⟩, hge⟩, hne1⟩ := hc2
              have hnid : id ∉ xv.ids := mem_false.1 hmem
              have h64 := allGe_iff hge
              have hin : i < n := ho _ (List.mem_singleton.2 rfl)
              have hcN : cellsN sz' (f i) = (f i).cells := by
                obtain ⟨e1, _, _, _, _, _, hg, _⟩ := hown
                subst e1
                exact cellsN_eq (hg i hin)
              rw [hcN] at hw
              obtain ⟨hle, rfl⟩ := writeV_some hw
              obtain ⟨q1, q2, q3, q4⟩ := frz_rep h hx (ids := xv.ids) (fun _ h => h) hfit
              have htag : te ≠ tagS ∨ xv.ids = [] := by
                by_cases ht : te = tagS
                · right
                  subst ht
                  obtain ⟨hsol2, hft⟩ := fits_iff hfit
                  -- a flat row takes no slices of one's own
                  have key : ∀ c : V, fitA tagS (frzA s.S tagS c) = true → solidA (frzA s.S tagS c) = true → c.ids = [] := by
                    intro c h1 h2
                    cases c with
                    | osl k n =>
                      have hy : (∃ g', frzA s.S tagS (.osl k n) = .sl n g' tagS) ∨ frzA s.S tagS (.osl k n) = .undef := by
                        simp only [frzA]
                        split
                        · split
                          · exact .inl ⟨_, rfl⟩
                          · exact .inr rfl
                        · exact .inr rfl
                      rcases hy with ⟨g', hy⟩ | hy
                      · rw [hy] at h1; simp [fitA, tagOfA, tagS] at h1
                      · rw [hy] at h2; simp [solidA] at h2
                    | oref => simp [frzA, solidA] at h2
                    | omap => simp [frzA, solidA] at h2
                    | agg => simp [frzA, solidA] at h2
                    | tup => simp [frzA, solidA] at h2
                    | fn => simp [frzA, solidA] at h2
                    | cnd => simp [frzA, solidA] at h2
                    | _ => rfl
                  by_cases hag : ∃ ds, xv = .agg ds
                  · obtain ⟨ds, rfl⟩ := hag
                    simp only [frz, V.cells, List.length_map] at hft
                    simp only [V.ids]
                    have hall : ∀ j, j < ds.length → (ds.getD j .undef).ids = [] := by
                      intro j hj
                      have h1 := hft j hj
                      rw [getD_map hj] at h1
                      have h2 := all_getD (cs := ds.map (frzA s.S tagS)) hsol2 (j := j) (by simpa using hj)
                      rw [getD_map hj] at h2
                      exact key _ h1 h2
                    exact idsL_nil _ hall
                  · have hfz : (frz s.S tagS xv) = frzA s.S tagS xv := by
                      cases xv <;> first | rfl | exact absurd ⟨_, rfl⟩ hag
                    rw [hfz] at hft hsol2
                    rw [frzA_cells] at hft
                    refine key xv (by simpa using hft 0 (by simp)) ?_
                    cases hy : frzA s.S tagS xv <;> rw [hy] at hsol2 <;> first | exact hsol2 | skip
                    exfalso
                    cases xv <;> simp only [frzA] at hy <;> first | cases hy | skip
                    · split at hy
                      · split at hy <;> cases hy
                      · cases hy
                · exact .inl ht
              have hfr := h.freezeL te xv.ids (by rcases hne1 with h' | h'; exact .inr h'; rcases htag with h'' | h''; exact .inl ⟨h'', h'⟩; exact .inr h'') h64
              obtain ⟨rfl, rfl, arr, e', hh, hsz, hgl, hcr⟩ := hown
              have hgi := hgl i hin
              have hmul : i * sz' + sz' ≤ arr.size := by
                have h1 : i * sz' + sz' = (i + 1) * sz' := by rw [Nat.add_mul, Nat.one_mul]
                have h2 : (i + 1) * sz' ≤ n * sz' := Nat.mul_le_mul_right _ hin
                omega
              have hst := store_run (P := P) hT hl (o := i * sz' + off) hh (v := a.eval x) (by omega) (by omega) q3
              have hw1 := hrun (withCells w b (writeArr arr (i * sz' + off) (a.eval x).cells.toList) e') hst
              refine does_skip (ι' := ι) (Fr' := FrK Fr s.S ι xv.ids te) hd hw1 ?_ rfl
              have hFk : ∀ t k, FrK Fr s.S ι xv.ids te t k → FrK Fr s.S ι xv.ids te t k ∧ (withCells w b (writeArr arr (i * sz' + off) (a.eval x).cells.toList) e').heap[k]? = w.heap[k]? := by
                intro t k hf
                refine ⟨hf, withCells_ne fun e1 => ?_⟩
                subst e1
                rcases hf with hf | ⟨_, id', hid', blk', r', hl', hi', e1, _⟩ | ⟨_, _, _, t', _, hf⟩
                · exact (h.fr t k hf).2.2 id _ _ hb hi rfl
                rotate_left
                · exact (h.fr t' k hf).2.2 id _ _ hb hi rfl
                · have := h.inj id' id blk' _ r' _ hl' hb hi' hi e1
                  exact hnid (this ▸ hid')
              have hsh : ∀ k x', w.shape? k = some x' → (withCells w b (writeArr arr (i * sz' + off) (a.eval x).cells.toList) e').shape? k = some x' := fun k x' hk => shape_with hh (writeArr_size _ _ _) hk
              have hb' : lk (applyUpd s.S (xv.ids.map fun id => (id, none))) id = some (.arr sz' n f te) := by rw [lk_kills, if_neg hnid]; exact hb
              have hset := hfr.setOwn (w' := withCells w b (writeArr arr (i * sz' + off) (a.eval x).cells.toList) e') hb' hi rfl rfl rfl withCells_size (fun k hk => withCells_ne hk) hsh
                (new := .arr sz' n (setg f i (elemV (aggF sz' (f i)) (setAt (f i).cells off (frz s.S te xv).cells))) te) ?_
              · refine hset.congr (fun _ => rfl) fun k => ?_
                show lk (applyUpd (put s.S id _) (kills xv)) k = _
                unfold kills
                rw [lk_kills, lk_put, lk_put, lk_kills]
                by_cases e1 : k = id
                · subst e1; simp [hnid]
                · simp [e1]
              · have hec : (elemV (aggF sz' (f i)) (setAt (f i).cells off (frz s.S te xv).cells)).cells = setAt (f i).cells off (frz s.S te xv).cells := by
                  unfold aggF
                  cases Nat.beq sz' 1 with
                  | false => rfl
                  | true =>
                  simp only []
                  by_cases hag : ∃ ds, f i = .agg ds
                  · obtain ⟨ds, hds⟩ := hag; rw [hds]; rfl
                  · refine elem_cells (setAt_length _ _ _) fun j hj ds => ?_
                    rw [setAt_length] at hj
                    have h2 : (f i).cells = [f i] := by
                      cases hv : f i <;> first | rfl | exact absurd ⟨_, hv⟩ hag
                    rw [setAt_getD _ _ _ _ hle]
                    split
                    · rename_i hjr
                      intro e1
                      have := (fits_iff hfit)
                      have hsa : solidA ((frz s.S te xv).cells.getD (j - off) .undef) = true := by
                        have hs2 := this.1
                        by_cases hag2 : ∃ es, frz s.S te xv = .agg es
                        · obtain ⟨es, hes⟩ := hag2
                          rw [hes] at hs2 hjr ⊢
                          exact all_getD (cs := es) hs2 (by simp only [V.cells] at hjr; omega)
                        · have h3 : (frz s.S te xv).cells = [frz s.S te xv] := by
                            cases hv : frz s.S te xv <;> first | rfl | exact absurd ⟨_, hv⟩ hag2
                          have h4 : solidA (frz s.S te xv) = true := by
                            cases hv : frz s.S te xv <;> rw [hv] at hs2 <;> first | exact hs2 | exact absurd ⟨_, hv⟩ hag2
                          rw [h3] at hjr ⊢
                          have h5 : j - off = 0 := by simp only [List.length_singleton] at hjr; omega
                          rw [h5]; simpa using h4
                      rw [e1] at hsa
                      simp [solidA] at hsa
                    · intro e1
                      rw [h2] at e1 hj
                      have h5 : j = 0 := by simpa using hj
                      subst h5
                      simp only [List.getD_cons_zero] at e1
                      exact hag ⟨_, e1⟩
                refine ⟨rfl, rfl, _, e', withCells_get hblt, by rw [writeArr_size]; exact hsz, fun k hk => ?_, fun k j hk hj => ?_⟩
                · rw [setg_eq]
                  split
                  · rw [hec, setAt_length]; exact hgi
                  · exact hgl k hk
                · rw [writeArr_getD _ _ _ _ (by simp; omega)]
                  have hnum : ∀ k', k' ≠ i → k' < n → ¬ (i * sz' + off ≤ k' * sz' + j ∧ k' * sz' + j < i * sz' + off + (a.eval x).cells.toList.length) := by
                    intro k' hne hk'
                    have hlen2 : (a.eval x).cells.toList.length = (frz s.S te xv).cells.length := by simp; omega
                    rw [hlen2]
                    rcases Nat.lt_or_gt_of_ne hne with h1 | h1
                    · have : (k' + 1) * sz' ≤ i * sz' := Nat.mul_le_mul_right _ h1
                      rw [Nat.add_mul, Nat.one_mul] at this
                      omega
                    · have : (i + 1) * sz' ≤ k' * sz' := Nat.mul_le_mul_right _ h1
                      rw [Nat.add_mul, Nat.one_mul] at this
                      omega
                  by_cases hki : k = i
                  · subst hki
                    simp only [setg_eq, if_true]
                    rw [hec, setAt_getD _ _ _ _ hle]
                    have hlen2 : (a.eval x).cells.toList.length = (frz s.S te xv).cells.length := by simp; omega
                    by_cases hjr : off ≤ j ∧ j < off + (frz s.S te xv).cells.length
                    · rw [if_pos hjr, if_pos (by rw [hlen2]; omega), toList_getD]
                      have e1 : k * sz' + j - (k * sz' + off) = j - off := by omega
                      rw [e1]
                      exact (q4 _ (by omega)).mono fun b hb => hFk _ b hb
                    · rw [if_neg hjr, if_neg (by rw [hlen2]; omega)]
                      exact (hcr k j hk hj).mono fun b hb => ⟨.inl hb, (hFk _ b (.inl hb)).2⟩
                  · simp only [setg_eq, hki, if_false]
                    rw [if_neg (hnum k hki hk)]
                    exact (hcr k j hk hj).mono fun b hb => ⟨.inl hb, (hFk _ b (.inl hb)).2⟩

end
end Go.Av

/- Structs and rows that are written out, and rows made with their zeros. -/
namespace Go.Av

theorem foldl_write : ∀ (l : List Value) (arr : Array Value) (off k : Nat),
    (l.zipIdx k).foldl (fun cs (p : Value × Nat) => cs.setIfInBounds (off + p.2) p.1) arr = writeArr arr (off + k) l
  | [], _, _, _ => rfl
  | v :: r, arr, off, k => by
    simp only [List.zipIdx_cons, List.foldl_cons, writeArr]
    rw [foldl_write r _ off (k + 1)]
    rfl

theorem fill_cons (place : Nat → Option (Nat × Nat)) (arr : Array Value) (i off size : Nat) (v : Value) (rest : List (Nat × Value)) (hp : place i = some (off, size)) (hs : v.cells.size = size) (hle : off + size ≤ arr.size) :
    Instr.fill place arr ((i, v) :: rest) = Instr.fill place (writeArr arr off v.cells.toList) rest := by
  have h1 : (v.cells.size ≠ size || off + v.cells.size > arr.size) = false := by
    simp; omega
  rw [Instr.fill, hp]
  simp only [h1, Bool.false_eq_true, if_false]
  congr 1
  have := foldl_write v.cells.toList arr off 0
  rw [Nat.add_zero] at this
  rw [← this, ← Array.foldl_toList, Array.toList_zipIdx]

section
variable {P : Program} {tt : TT} (hT : TabOk P tt)

theorem fill_parts {w : World} {ι : Iota} {Fr : Nat → Nat → Prop} (l : List (Nat × TI)) (place : Nat → Option (Nat × Nat)) (hpl : ∀ i off ti, l[i]? = some (off, ti) → place i = some (off, ti.size)) :
    ∀ (ps : List (Nat × V)) (vs : List (Nat × Value)) (cs cs' : List V) (arr : Array Value), ps.length = vs.length →
      (∀ j, j < ps.length → (ps.getD j (0, .undef)).1 = (vs.getD j (0, Go.undef)).1 ∧ TRep w Fr ι (ps.getD j (0, .undef)).2 (vs.getD j (0, Go.undef)).2) →
      buildParts l cs ps = some cs' → arr.size = cs.length → (∀ j, j < cs.length → TRep w Fr ι (cs.getD j .undef) (arr.getD j Go.undef)) →
      ∃ arr', Instr.fill place arr vs = some arr' ∧ arr'.size = cs'.length ∧ ∀ j, j < cs'.length → TRep w Fr ι (cs'.getD j .undef) (arr'.getD j Go.undef)
  | [], [], cs, cs', arr, _, _, hb, hs, hr => by
    simp only [buildParts, Option.some.injEq] at hb
    subst hb
    exact ⟨arr, rfl, hs, hr⟩
  | (i, x) :: ps, (i', v) :: vs, cs, cs', arr, hlen, hv, hb, hs, hr => by
    have h0 := hv 0 (by simp)
    simp only [List.getD_cons_zero] at h0
    obtain ⟨rfl, hx⟩ := h0
    simp only [buildParts] at hb
    split at hb
    case h_2 => simp at hb
    case h_1 off ti hti =>
      split at hb
      case h_2 => simp at hb
      case h_1 cs1 hc hw =>
        simp only [Bool.and_eq_true, natBeq] at hc
        obtain ⟨hxl, hsol⟩ := hc
        obtain ⟨hle, rfl⟩ := writeV_some hw
        obtain ⟨h1, h2⟩ := hx.cells hsol
        rw [fill_cons place arr i off ti.size v vs (hpl i off ti hti) (by omega) (by omega)]
        refine fill_parts l place hpl ps vs _ cs' _ (by simpa using hlen) (fun j hj => by simpa using hv (j + 1) (by simpa using hj)) hb (by rw [writeArr_size, setAt_length]; exact hs) (fun j hj => ?_)
        rw [setAt_length] at hj
        rw [setAt_getD _ _ _ _ hle, writeArr_getD _ _ _ _ (by simp; omega)]
        by_cases hjr : off ≤ j ∧ j < off + x.cells.length
        · rw [if_pos hjr, if_pos (by simp; omega), toList_getD]
          exact (h2 _ (by omega)).1
        · rw [if_neg hjr, if_neg (by simp; omega)]
          exact hr j hj
  | [], _ :: _, _, _, _, h, _, _, _, _ => by simp at h
  | _ :: _, [], _, _, _, h, _, _, _, _ => by simp at h

include hT in
theorem run_places {w : World} : ∀ (fs : List Field) (l : List (Nat × TI)), fieldTIs tt fs = some l →
    (fs.mapM fun f => do pure (f.offset, ← sizeOf f.type) : Sem (List (Nat × Nat))).run P w = .ok (l.map fun p => (p.1, p.2.size)) w
  | [], l, h => by
    simp only [fieldTIs, Option.some.injEq] at h
    subst h
    simp
  | f :: fs, l, h => by
    simp only [fieldTIs] at h
    split at h
    · rename_i ti l' hti hl
      simp only [Option.some.injEq] at h
      subst h
      have ih := run_places (w := w) fs l' hl
      simp only [List.mapM_cons, Sem.run_bind, run_size hT hti, Result.andThen_ok, Sem.run_pure, ih, List.map_cons]
    · simp at h

include hT in
/-- The zero of a type, cell by cell. -/
theorem zero_cells {t : Nat} {ti : TI} (hl : lk tt t = some ti) (w : World) : ∃ z, (zeroValue t).run P w = .ok z w ∧ z.cells.size = ti.size ∧ ti.zero.cells.length = ti.size ∧
    ∀ w' Fr ι j, j < ti.size → (TRep w' Fr ι (ti.zero.cells.getD j .undef) (z.cells.getD j Go.undef) ∧ PRep w' (fun _ => False) (ti.zero.cells.getD j .undef) (z.cells.getD j Go.undef)) := by
  obtain ⟨i, hi, _, _, z, hz, hzr, hzc, hzs, _⟩ := hT.info t ti hl
  refine ⟨z, by simp [zeroValue, typeInfo, hi, hz], hzs, hzc, fun w' Fr ι j hj => ?_⟩
  have key : PRep w' (fun _ => False) (ti.zero.cells.getD j .undef) (z.cells.getD j Go.undef) := by
    have hzr := hzr w'
    by_cases hag : ∃ cs, ti.zero = .agg cs
    · obtain ⟨cs, hcs⟩ := hag
      rw [hcs] at hzr hzc ⊢
      cases hzr with
      | agg arr h1 h2 => exact h2 j (by simp only [V.cells] at hzc; omega)
    · have hc : ti.zero.cells = [ti.zero] := by
        cases hv : ti.zero <;> first | rfl | exact absurd ⟨_, hv⟩ hag
      rw [hc] at hzc ⊢
      have hj0 : j = 0 := by simp only [List.length_singleton] at hzc; omega
      subst hj0
      simp only [List.getD_cons_zero]
      have : z.cells.getD 0 Go.undef = z ∨ ti.zero = .undef := by
        cases hzv : z with
        | agg cs => right; rw [hzv] at hzr; cases hv : ti.zero <;> rw [hv] at hzr <;> first | rfl | (exfalso; cases hzr; done) | skip
                    exact absurd ⟨_, hv⟩ hag
        | _ => left; rfl
      rcases this with h2 | h2
      · rw [h2]; exact hzr
      · rw [h2]; exact .undef _
  exact ⟨TRep.ofP key, key⟩

include hT in
theorem does_build {g : G} {s : AS} {a : Act} {w : World} {ι : Iota} {Fr : Nat → Nat → Prop} (h : Rel g s a w ι Fr) {o : Oper} {t : TypeId} {ps : Array (Nat × Operand)} (hop : o.op = .build t ps)
    (hx : ∀ p ∈ ps.toList, TRep w Fr ι (strip (aval s p.2)) (a.eval p.2)) (hd : dstOk g.nt o = true)
    {e : Ef} (he : buildV tt t (ps.toList.map fun p => (p.1, strip (aval s p.2))) = some e) : Does P g (s.app o.dst e) a w o := by
  unfold buildV at he
  split at he
  case h_2 => simp at he
  case h_1 fs _ _ z _ _ hl =>
    split at he
    case h_2 => simp at he
    case h_1 l hfl =>
      split at he
      case h_2 => simp at he
      case h_1 cs hb =>
        simp only [ok, Option.some.injEq] at he
        subst he
        obtain ⟨zv, hz, hzs, hzc, hzr⟩ := zero_cells hT hl w
        obtain ⟨arr', h1, h2, h3⟩ := fill_parts (w := w) (ι := ι) (Fr := Fr) l (fun i => ((l.map fun p => (p.1, p.2.size)).toArray)[i]?) (fun i off ti hi => by simp [hi])
          (ps.toList.map fun p => (p.1, strip (aval s p.2))) (ps.toList.map fun p => (p.1, a.eval p.2)) z.cells cs zv.cells (by simp)
          (fun j hj => by
            have hj' : j < ps.size := by simpa using hj
            have hmem : ps[j] ∈ ps.toList := by simp
            simp only [List.getD, List.getElem?_map, Array.getElem?_toList, Array.getElem?_eq_getElem hj', Option.map_some, Option.getD_some]
            exact ⟨trivial, hx _ hmem⟩) hb (by rw [hzs]; exact hzc.symm) (fun j hj => (hzr w Fr ι j (by rw [← hzc]; exact hj)).1)
        refine does_value h hd (x := .agg arr') ?_ (.agg arr' h2 h3)
        unfold execOp
        rw [hop]
        refine run_v ?_
        unfold Instr.build
        have hpl := run_places (P := P) hT (w := w) fs.toList l hfl
        have hmap : (fs.mapM fun f => do pure (f.offset, ← sizeOf f.type) : Sem (Array (Nat × Nat))).run P w = .ok (l.map fun p => (p.1, p.2.size)).toArray w := by
          rw [Array.mapM_eq_mapM_toList, Sem.run_map, hpl]
          rfl
        simp only [Sem.run_bind, hz, Result.andThen_ok, run_und hT hl, hmap, Array.toList_map]
        rw [h1]
        rfl


/-- A written-out row, place by place. -/
theorem allStr_get : ∀ {l : List V} {ss : List ByteArray}, allStr l = some ss → ∀ i, i < l.length → V.str (ss.getD i default) = l.getD i .undef
  | [], _, _, i, h => by simp at h
  | v :: r, ss, h, i, hi => by
    cases v <;> simp only [allStr, reduceCtorEq] at h
    split at h
    · rename_i l' hl
      simp only [Option.some.injEq] at h
      subst h
      cases i with
      | zero => simp
      | succ i => simpa using allStr_get hl i (by simpa using hi)
    · simp at h

theorem allInt_get : ∀ {k : IntKind} {l : List V} {ns : List Int}, allInt k l = some ns → ∀ i, i < l.length → V.int k (ns.getD i 0) = l.getD i .undef
  | _, [], _, _, i, h => by simp at h
  | k, v :: r, ns, h, i, hi => by
    cases v <;> simp only [allInt, reduceCtorEq] at h
    split at h
    · rename_i l' hk hl
      simp only [Option.some.injEq] at h
      subst h
      have := kindB_eq hk
      subst this
      cases i with
      | zero => simp
      | succ i => simpa using allInt_get hl i (by simpa using hi)
    · simp at h

theorem rowg_get (l : List V) (i : Nat) (hi : i < l.length) : rowg l i = l.getD i .undef := by
  unfold rowg
  split
  · rename_i s r
    cases hs : allStr r with
    | some ss =>
      cases i with
      | zero => simp
      | succ i => simpa using allStr_get hs i (by simpa using hi)
    | none => rfl
  · rename_i k n r
    cases hs : allInt k r with
    | some ns =>
      cases i with
      | zero => simp
      | succ i => simpa using allInt_get hs i (by simpa using hi)
    | none => rfl
  · rfl

/-- The state of a row that is being written out: the elements so far, as cells. -/
def RowRep (w : World) (A : Nat → Prop) (size : Nat) (es : List V) (arr : Array Value) : Prop :=
  arr.size = es.length * size ∧ (∀ i, i < es.length → (es.getD i .undef).cells.length = size) ∧
    ∀ i j, i < es.length → j < size → PRep w A ((es.getD i .undef).cells.getD j .undef) (arr.getD (i * size + j) Go.undef)

theorem set_getD (es : List V) (i k : Nat) (x : V) (hi : i < es.length) : (es.set i x).getD k .undef = if k = i then x else es.getD k .undef := by
  by_cases h : k = i
  · subst h; simp [hi]
  · have : i ≠ k := fun e => h e.symm
    simp [h, List.getElem?_set_ne this]

theorem fill_row {g : G} {s : AS} {a : Act} {w : World} {ι : Iota} {Fr : Nat → Nat → Prop} (h : Rel g s a w ι Fr) {size te n : Nat} {ids : List Nat} :
    ∀ (ps : List (Nat × V)) (vs : List (Nat × Value)) (es es' : List V) (arr : Array Value), ps.length = vs.length →
      (∀ j, j < ps.length → (ps.getD j (0, .undef)).1 = (vs.getD j (0, Go.undef)).1 ∧ TRep w Fr ι (ps.getD j (0, .undef)).2 (vs.getD j (0, Go.undef)).2) →
      (∀ p ∈ ps, ∀ id ∈ p.2.ids, id ∈ ids) → es.length = n →
      setParts size te s.S es ps = some es' → RowRep w (FrK Fr s.S ι ids te te) size es arr →
      ∃ arr', Instr.fill (fun i => some (i * size, size)) arr vs = some arr' ∧ es'.length = n ∧ RowRep w (FrK Fr s.S ι ids te te) size es' arr'
  | [], [], es, es', arr, _, _, _, hn, hb, hr => by
    simp only [setParts, Option.some.injEq] at hb
    subst hb
    exact ⟨arr, rfl, hn, hr⟩
  | (i, x) :: ps, (i', v) :: vs, es, es', arr, hlen, hv, hids, hn, hb, hr => by
    have h0 := hv 0 (by simp)
    simp only [List.getD_cons_zero] at h0
    obtain ⟨rfl, hx⟩ := h0
    simp only [setParts] at hb
    split at hb
    case h_2 => simp at hb
    case h_1 h1 h2 h3 =>
      have hi : i < es.length := Nat.le_of_ble_eq_true h1
      have hxl := natBeq.1 h2
      obtain ⟨q1, q2, q3, q4⟩ := frz_rep h hx (ids := ids) (hids _ (List.mem_cons_self ..)) h3
      obtain ⟨r1, r2, r3⟩ := hr
      have hmul : i * size + size ≤ arr.size := by
        have e1 : i * size + size = (i + 1) * size := by rw [Nat.add_mul, Nat.one_mul]
        have e2 : (i + 1) * size ≤ es.length * size := Nat.mul_le_mul_right _ hi
        omega
      rw [fill_cons _ arr i (i * size) size v vs rfl (by omega) hmul]
      refine fill_row h ps vs _ es' _ (by simpa using hlen) (fun j hj => by simpa using hv (j + 1) (by simpa using hj)) (fun p hp => hids p (List.mem_cons_of_mem _ hp)) (by simpa using hn) hb
        ⟨by rw [writeArr_size]; simpa using r1, fun k hk => ?_, fun k j hk hj => ?_⟩
      · rw [set_getD _ _ _ _ hi]
        split
        · omega
        · exact r2 k (by simpa using hk)
      · have hk' : k < es.length := by simpa using hk
        rw [set_getD _ _ _ _ hi, writeArr_getD _ _ _ _ (by simp; omega)]
        by_cases hki : k = i
        · subst hki
          rw [if_pos rfl, if_pos (by simp; omega), toList_getD]
          have e1 : k * size + j - k * size = j := by omega
          rw [e1]
          exact q4 j (by omega)
        · have hno : ¬ (i * size ≤ k * size + j ∧ k * size + j < i * size + v.cells.toList.length) := by
            have hl2 : v.cells.toList.length = size := by simp; omega
            rw [hl2]
            rcases Nat.lt_or_gt_of_ne hki with h5 | h5
            · have : (k + 1) * size ≤ i * size := Nat.mul_le_mul_right _ h5
              rw [Nat.add_mul, Nat.one_mul] at this
              omega
            · have : (i + 1) * size ≤ k * size := Nat.mul_le_mul_right _ h5
              rw [Nat.add_mul, Nat.one_mul] at this
              omega
          rw [if_neg hki, if_neg hno]
          exact r3 k j hk' hj
  | [], _ :: _, _, _, _, h, _, _, _, _, _ => by simp at h
  | _ :: _, [], _, _, _, h, _, _, _, _, _ => by simp at h

theorem zeros_get {z : Array Value} {n size k : Nat} (hz : z.size = size) (hk : k < n * size) :
    ((Array.range (n * size)).map (z[· % z.size]!)).getD k Go.undef = z.getD (k % size) Go.undef := by
  have hpos : 0 < size := by
    rcases Nat.eq_zero_or_pos size with h | h
    · subst h; simp at hk
    · exact h
  have hlt : k % size < z.size := by rw [hz]; exact Nat.mod_lt _ hpos
  subst hz
  simp [hk, hlt]

include hT in
theorem row_zeros {t : Nat} {ti : TI} (hl : lk tt t = some ti) (w : World) (n : Nat) : ∃ z, (zeroValue t).run P w = .ok z w ∧ z.cells.size = ti.size ∧
    ∀ (w' : World) (A : Nat → Prop), RowRep w' A ti.size (List.replicate n ti.zero) ((Array.range (n * ti.size)).map (z.cells[· % z.cells.size]!)) := by
  obtain ⟨z, hz, hzs, hzc, hzr⟩ := zero_cells hT hl w
  refine ⟨z, hz, hzs, fun w' A => ⟨by simp, fun i hi => ?_, fun i j hi hj => ?_⟩⟩
  · have hi' : i < n := by simpa using hi
    simp only [List.getD, List.getElem?_replicate, hi', if_true, Option.getD_some]
    exact hzc
  · have hi' : i < n := by simpa using hi
    have hlt : i * ti.size + j < n * ti.size := by
      have e1 : i * ti.size + ti.size = (i + 1) * ti.size := by rw [Nat.add_mul, Nat.one_mul]
      have e2 : (i + 1) * ti.size ≤ n * ti.size := Nat.mul_le_mul_right _ hi'
      omega
    rw [zeros_get hzs hlt]
    have e1 : (i * ti.size + j) % ti.size = j := by rw [Nat.mul_comm, Nat.mul_add_mod]; exact Nat.mod_eq_of_lt hj
    rw [e1]
    simp only [List.getD, List.getElem?_replicate, hi', if_true, Option.getD_some]
    have := (hzr w' (fun _ _ => False) (fun _ => none) j hj).2
    exact this.weaken fun _ h => h.elim

end
end Go.Av

/- Rows written out, rows made, and append. -/
namespace Go.Av
set_option linter.unusedVariables false
set_option linter.unusedSimpArgs false

theorem FreshId.kills {s : AS} {id : Nat} (h : FreshId s id) (ids : List Nat) : FreshId { s with S := applyUpd s.S (ids.map fun id => (id, none)) } id where
  ge := h.ge
  no := by
    show lk (applyUpd s.S _) id = none
    rw [lk_kills, h.no]; simp
  T := h.T
  S := fun k blk hk => by
    have hk' : lk (applyUpd s.S (ids.map fun id => (id, none))) k = some blk := hk
    rw [lk_kills] at hk'
    by_cases e : k ∈ ids
    · simp [e] at hk'
    · simp only [e, if_false] at hk'; exact h.S k blk hk'

theorem ids_ment : ∀ (v : V) (id : Nat), id ∈ v.ids → ∀ p : Nat → Bool, p id = true → V.ment p v = true := by
  intro v id
  suffices H : (∀ v : V, id ∈ v.ids → ∀ p : Nat → Bool, p id = true → V.ment p v = true) from H v
  intro v
  refine V.rec (motive_1 := fun v => id ∈ v.ids → ∀ p : Nat → Bool, p id = true → V.ment p v = true) (motive_2 := fun l => id ∈ V.idsL l → ∀ p : Nat → Bool, p id = true → V.mentL p l = true)
    ?_ ?_ ?_ ?_ ?_ ?_ ?_ ?_ ?_ ?_ ?_ ?_ ?_ ?_ ?_ ?_ v
  all_goals intros
  all_goals first
    | (simp_all [V.ids, V.idsL, V.ment, V.mentL]; done)
    | skip
  all_goals
    rename_i ih1 ih2 hm p hp
    simp only [V.idsL, List.mem_append] at hm
    simp only [V.mentL, Bool.or_eq_true]
    rcases hm with hm | hm
    · exact .inl (ih1 hm p hp)
    · exact .inr (ih2 hm p hp)

section
variable {P : Program} {tt : TT} (hT : TabOk P tt)

theorem shape_alloc (w : World) (arr : Array Value) (e : TypeId) : (w.alloc (.cells arr e (0, 0))).shape? w.heap.size = some (e, arr.size) := by
  unfold World.shape?
  rw [heap_alloc_new]

include hT in
theorem does_buildSlice {g : G} {s : AS} {a : Act} {w : World} {ι : Iota} {Fr : Nat → Nat → Prop} (h : Rel g s a w ι Fr) {o : Oper} {t : TypeId} {len : Nat} {ps : Array (Nat × Operand)} (hop : o.op = .buildSlice t len ps)
    (hx : ∀ p ∈ ps.toList, TRep w Fr ι (strip (aval s p.2)) (a.eval p.2)) (hd : dstOk g.nt o = true) {site : Nat} (hf : FreshId s site)
    {e : Ef} (he : buildSliceV tt s.S site t len (ps.toList.map fun p => (p.1, strip (aval s p.2))) = some e) : Does P g (s.app o.dst e) a w o := by
  unfold buildSliceV at he
  split at he
  case h_2 => simp at he
  case h_1 ti hti =>
    obtain ⟨el, hu, hl⟩ := run_elem hT hti w
    split at he
    case h_2 => simp at he
    case h_1 hble =>
      have hle : len * ti.size ≤ 16777216 := Nat.le_of_ble_eq_true hble
      generalize rowTag ti (ps.toList.map fun p => (p.1, strip (aval s p.2))) = te at he
      split at he
      case h_2 => simp at he
      case h_1 es hes hchk =>
        simp only [Option.some.injEq] at he
        subst he
        generalize hids : (ps.toList.map fun p => (p.1, strip (aval s p.2))).flatMap (fun p => p.2.ids) = ids at *
        simp only [Bool.and_eq_true, Bool.or_eq_true, List.isEmpty_iff, Bool.not_eq_true', natBeqF] at hchk
        obtain ⟨hge, htag⟩ := hchk
        obtain ⟨z, hz, hzs, hzr⟩ := row_zeros hT hl w len
        obtain ⟨arr', h1, h2, h3⟩ := fill_row h (size := ti.size) (te := te) (n := len) (ids := ids) (ps.toList.map fun p => (p.1, strip (aval s p.2))) (ps.toList.map fun p => (p.1, a.eval p.2)) _ es _ (by simp)
          (fun j hj => by
            have hj' : j < ps.size := by simpa using hj
            have hmem : ps[j] ∈ ps.toList := by simp
            simp only [List.getD, List.getElem?_map, Array.getElem?_toList, Array.getElem?_eq_getElem hj', Option.map_some, Option.getD_some]
            exact ⟨trivial, hx _ hmem⟩)
          (fun p hp id hid => by rw [← hids]; exact List.mem_flatMap.2 ⟨p, hp, hid⟩) (by simp) hes (hzr w _)
        obtain ⟨r1, r2, r3⟩ := h3
        have hrun : (execOp a.eval o).run P w = .ok (.value (.slice (some ⟨w.heap.size, 0, none⟩) len len)) (w.alloc (.cells arr' el (0, 0))) := by
          unfold execOp
          rw [hop]
          refine run_v ?_
          unfold Instr.buildSlice
          have hno : ¬ len * ti.size > 2 ^ 24 := by omega
          simp only [Sem.run_bind, hu, Result.andThen_ok, run_size hT hl, hno, if_false, Sem.run_ite, Sem.run_pure]
          by_cases h0 : len * ti.size = 0
          · have e0 : ((Array.range (len * ti.size)).map (z.cells[· % z.cells.size]!)) = (Array.range (len * ti.size)).map ((#[] : Array Value)[· % (#[] : Array Value).size]!) := by rw [h0]; simp
            rw [e0] at h1
            simp only [h0, if_true, Result.andThen_ok] at h1 ⊢
            rw [Array.toList_map, h1]
            simp [newRow]
          · simp only [h0, if_false, hz, Result.andThen_ok]
            rw [Array.toList_map, h1]
            simp [newRow]
        have hmem64 := allGe_iff hge
        have hfr := h.freezeL te ids (by rcases htag with h' | h'; exact .inr h'; exact .inl h') hmem64
        have hf' := hf.kills ids
        have hsn : site ∉ ids := by
          intro hin
          rw [← hids] at hin
          obtain ⟨p, hp, hid⟩ := List.mem_flatMap.1 hin
          obtain ⟨q, hq, rfl⟩ := List.mem_map.1 hp
          have h5 := ids_ment _ _ hid (fun k => Nat.beq k site) (natBeq.2 rfl)
          rw [fresh_aval hf q.2] at h5
          cases h5
        have hnew := hfr.newBlk hf' (arr := arr') (e := el) (sz := ti.size) (m := len) (blk := .arr ti.size len (rowg es) te) (fun w' hw hb hsh =>
          ⟨rfl, rfl, arr', el, hw, by rw [r1, h2]; exact Nat.le_refl _, fun i hi => by rw [rowg_get _ _ (by omega)]; exact r2 i (by omega), fun i j hi hj => by
            rw [rowg_get _ _ (by omega)]
            exact (r3 i j (by omega) hj).mono fun b hb' => ⟨hb', hb b (hfr.fr _ b hb').1⟩⟩)
        refine does_mem (x := .slice (some ⟨w.heap.size, 0, none⟩) len len) hd hrun (hnew.congr (fun _ => rfl) fun k => ?_) ?_
        · show lk (applyUpd (put s.S site _) (ids.map fun id => (id, none))) k = _
          rw [lk_kills, lk_put, lk_put, lk_kills]
          by_cases e1 : k = site
          · subst e1; simp [hsn]
          · simp [e1]
        · exact .osl (b := w.heap.size) (sz := ti.size) (m := len) (e := el) (c := arr'.size) (by simp [updI]) (Nat.le_refl _) (Nat.le_refl _) (shape_alloc _ _ _) (by rw [r1, h2]; exact Nat.le_refl _)

include hT in
theorem does_make {g : G} {s : AS} {a : Act} {w : World} {ι : Iota} {Fr : Nat → Nat → Prop} (h : Rel g s a w ι Fr) {o : Oper} {t : TypeId} {l c : Operand} (hop : o.op = .makeSlice t l c)
    (hl1 : TRep w Fr ι (strip (aval s l)) (a.eval l)) (hc1 : TRep w Fr ι (strip (aval s c)) (a.eval c)) (hd : dstOk g.nt o = true) {site : Nat} (hf : FreshId s site)
    {e : Ef} (he : makeV tt site t (strip (aval s l)) (strip (aval s c)) = some e) (ho : ∀ p ∈ e.ob, p) : Does P g (s.app o.dst e) a w o := by
  unfold makeV at he
  split at he
  case h_2 => simp at he
  case h_1 ti k1 n k2 m hti hlv hcv =>
    split at he
    case h_2 => simp at he
    case h_1 hby =>
      simp only [Option.some.injEq] at he
      subst he
      have hob := ho _ (List.mem_singleton.2 rfl)
      rw [hlv] at hl1
      rw [hcv] at hc1
      have e1 := inv_int hl1
      have e2 := inv_int hc1
      have hby' : ti.bytes ≤ 1024 := Nat.le_of_ble_eq_true hby
      obtain ⟨el, hu, hl⟩ := run_elem hT hti w
      obtain ⟨i, hi, hib, _⟩ := run_bytes hT hl w
      obtain ⟨z, hz, hzs, hzr⟩ := row_zeros hT hl w m.toNat
      have hm : m ≤ 1073741824 := by have := hob.2.2; unfold most at this; omega
      have w1 : IntKind.i64.wrap n = n := by unfold IntKind.wrap IntKind.bits IntKind.signed; simp; omega
      have w2 : IntKind.i64.wrap m = m := by unfold IntKind.wrap IntKind.bits IntKind.signed; simp; omega
      obtain ⟨r1, r2, r3⟩ := hzr w (Fr (newTag ti))
      have hrun : (execOp a.eval o).run P w = .ok (.value (.slice (some ⟨w.heap.size, 0, none⟩) n.toNat m.toNat)) (w.alloc (.cells ((Array.range (m.toNat * ti.size)).map (z.cells[· % z.cells.size]!)) el (0, 0))) := by
        unfold execOp
        rw [hop]
        refine run_v ?_
        unfold Instr.makeSlice
        have c1 : (decide (m < 0) || decide ((ti.bytes : Int) * m > 2 ^ 48)) = false := by
          have : (ti.bytes : Int) * m ≤ 1024 * 1073741824 := Int.mul_le_mul (by omega) hm (by omega) (by omega)
          simp; omega
        have c2 : decide (n < 0) = false := by simp; omega
        have c3 : decide (n > m) = false := by simp; omega
        simp only [Sem.run_bind, hu, Result.andThen_ok, e1, e2, asInt, asIntOf, Sem.run_pure, hi, hib, w1, w2, c1, c2, c3, Bool.or_self, Bool.or_false, Bool.false_eq_true, if_false, Sem.run_ite, run_askRoom, run_size hT hl]
        by_cases h0 : m.toNat * ti.size = 0
        · have z0 : ∀ f : Nat → Value, (Array.range 0).map f = #[] := fun f => Array.eq_empty_of_size_eq_zero (by simp)
          simp [h0, newRow, z0]
        · simp [h0, hz, newRow]
      have hnew := h.newBlk hf (arr := (Array.range (m.toNat * ti.size)).map (z.cells[· % z.cells.size]!)) (e := el) (sz := ti.size) (m := n.toNat) (blk := .arr ti.size n.toNat (fun _ => ti.zero) (newTag ti)) (fun w' hw hb hsh =>
        ⟨rfl, rfl, _, el, hw, by
          simp only [Array.size_map, Array.size_range]
          exact Nat.mul_le_mul_right _ (by omega), fun i hi => by
          have := r2 i (by simp; omega)
          simpa [List.getD, List.getElem?_replicate, show i < m.toNat by omega] using this, fun i j hi hj => by
          have := r3 i j (by simp; omega) hj
          simp only [List.getD, List.getElem?_replicate, show i < m.toNat by omega, if_true, Option.getD_some] at this
          exact this.mono fun b hb' => ⟨hb', hb b (h.fr _ b hb').1⟩⟩)
      refine does_mem (x := .slice (some ⟨w.heap.size, 0, none⟩) n.toNat m.toNat) hd hrun hnew ?_
      exact .osl (b := w.heap.size) (sz := ti.size) (m := n.toNat) (e := el) (c := m.toNat * ti.size) (by simp [updI]) (Nat.le_refl _) (by omega) (by rw [shape_alloc]; simp) (Nat.le_refl _)

end
end Go.Av

/- Append. -/
namespace Go.Av
set_option linter.unusedVariables false
set_option linter.unusedSimpArgs false

theorem flat_rep {w : World} {A A' : Nat → Prop} {c : V} {v : Value} (h : PRep w A c v) (hf : flatA c = true) : PRep w A' c v := by
  cases h <;> first | (simp [flatA] at hf; done) | skip
  · exact .int _ _
  · exact .bool _
  · exact .str _

theorem PRep.one {w : World} {A : Nat → Prop} {c : V} {v : Value} (h : PRep w A c v) (hs : solidA c = true) : Go.Av.one v = true := by
  cases h <;> first | rfl | (simp [solidA] at hs; done)

theorem flat_solid {c : V} (h : flatA c = true) : solidA c = true := by
  cases c <;> first | rfl | (simp [flatA] at h; done)

theorem cell_solid {x : V} (h : solid x = true) {j : Nat} (hj : j < x.cells.length) : solidA (x.cells.getD j .undef) = true := by
  by_cases hag : ∃ es, x = .agg es
  · obtain ⟨es, rfl⟩ := hag
    exact all_getD (cs := es) h hj
  · have h3 : x.cells = [x] := by
      cases x <;> first | rfl | exact absurd ⟨_, rfl⟩ hag
    have h4 : solidA x = true := by
      cases x <;> first | exact h | exact absurd ⟨_, rfl⟩ hag
    rw [h3] at hj ⊢
    have h5 : j = 0 := by simpa using hj
    subst h5; simpa using h4

section
variable {P : Program} {tt : TT} (hT : TabOk P tt)

theorem load_rows {w : World} {b off m size : Nat} {cv : Nat → Nat → Value} (h : ∀ i j, i < m → j < size → w.cell? ⟨b, off + i * size + j, none⟩ = some (cv i j)) :
    ∃ arr : Array Value, (∀ w' : World, w'.heap = w.heap → (loadCells ⟨b, off, none⟩ (m * size)).run P w' = .ok arr w') ∧ arr.size = m * size ∧ ∀ i j, i < m → j < size → arr.getD (i * size + j) Go.undef = cv i j := by
  have hdiv : ∀ k, k < m * size → k / size < m ∧ k % size < size ∧ k / size * size + k % size = k := by
    intro k hk
    have hpos : 0 < size := by
      rcases Nat.eq_zero_or_pos size with h0 | h0
      · subst h0; simp at hk
      · exact h0
    exact ⟨Nat.div_lt_of_lt_mul (by rw [Nat.mul_comm]; exact hk), Nat.mod_lt _ hpos, by rw [Nat.mul_comm]; exact Nat.div_add_mod k size⟩
  have hrun : ∀ w' : World, w'.heap = w.heap → _ := fun w' hw' => run_loadCells (P := P) w' ⟨b, off, none⟩ (m * size) (fun k => cv (k / size) (k % size)) (fun k hk => by
    obtain ⟨h1, h2, h3⟩ := hdiv k hk
    have := h _ _ h1 h2
    rw [World.cell?_of_block (w := w) (w' := w') (by rw [hw'])]
    rw [add_none]
    rw [show off + k = off + k / size * size + k % size by omega]
    exact this)
  refine ⟨_, hrun, by simp, fun i j hi hj => ?_⟩
  have hlt : i * size + j < m * size := by
    have e1 : i * size + size = (i + 1) * size := by rw [Nat.add_mul, Nat.one_mul]
    have e2 : (i + 1) * size ≤ m * size := Nat.mul_le_mul_right _ hi
    omega
  have e1 : (i * size + j) / size = i := by
    rw [Nat.add_comm, Nat.mul_comm, Nat.add_mul_div_left _ _ (by omega), Nat.div_eq_of_lt hj]; omega
  have e2 : (i * size + j) % size = j := by rw [Nat.mul_comm, Nat.mul_add_mod]; exact Nat.mod_eq_of_lt hj
  simp [hlt, e1, e2]

theorem src_run {g : G} {s : AS} {a : Act} {w : World} {ι : Iota} {Fr : Nat → Nat → Prop} (h : Rel g s a w ι Fr) {x : V} {vx : Value} {m th size : Nat} {f : Nat → V} {rd : List Nat}
    (hs : srcV s.S x = some (m, f, th, rd)) (hx : TRep w Fr ι x vx) (hz : sizedL size m f) (hn : ∀ id n blk, x = .osl id n → lk s.S id = some blk → ∀ sz n' g' te, blk = .arr sz n' g' te → sz = size ∨ n' = 0 ∨ n = 0) :
    ∃ a0 c news, vx = .slice a0 m c ∧ (∀ w' : World, w'.heap = w.heap → (Builtin.firstCells size m vx).run P w' = .ok news w') ∧ news.size = m * size ∧
      ∀ i j, i < m → j < size → PRep w (Fr th) ((f i).cells.getD j .undef) (news.getD (i * size + j) Go.undef) := by
  have empty : ∀ a0 c, ∀ w' : World, w'.heap = w.heap → (Builtin.firstCells size 0 (.slice a0 0 c)).run P w' = .ok #[] w' := by
    intro a0 c w' _
    cases a0 <;> simp [Builtin.firstCells, loadCells, loadCellsFrom]
  cases x with
  | nil =>
    simp only [srcV, Option.some.injEq, Prod.mk.injEq] at hs
    obtain ⟨rfl, rfl, rfl, rfl⟩ := hs
    cases hx with
    | atom _ hp => cases hp; exact ⟨_, _, #[], rfl, empty _ _, by simp, fun i j hi => by omega⟩
  | sl n f' t =>
    simp only [srcV, Option.some.injEq, Prod.mk.injEq] at hs
    obtain ⟨rfl, rfl, rfl, rfl⟩ := hs
    cases hx with
    | atom _ hp =>
      cases hp with
      | sl0 => exact ⟨_, _, #[], rfl, empty _ _, by simp, fun i j hi => by omega⟩
      | @sl _ _ _ b off cap sz cv hA hcap hlen hc hr =>
        by_cases h0 : n = 0
        · subst h0; exact ⟨_, _, #[], rfl, empty _ _, by simp, fun i j hi => by omega⟩
        · have hsz : sz = size := by rw [← hlen 0 (by omega), (hz 0 (by omega)).1]
          subst hsz
          obtain ⟨arr, h1, h2, h3⟩ := load_rows (P := P) (m := n) hc
          exact ⟨_, _, arr, rfl, fun w' hw' => by simpa [Builtin.firstCells] using h1 w' hw', h2, fun i j hi hj => by rw [h3 i j hi hj]; exact hr i j hi hj⟩
  | osl id n =>
    simp only [srcV] at hs
    split at hs
    · rename_i sz n' f' te hl
      simp only [Option.some.injEq, Prod.mk.injEq] at hs
      obtain ⟨rfl, rfl, rfl, rfl⟩ := hs
      cases hx with
      | atom hv _ => simp [isP] at hv
      | osl0 => exact ⟨_, _, #[], rfl, empty _ _, by simp, fun i j hi => by omega⟩
      | @osl _ _ b sz2 m2 cap c e hi hn2 hcap hsh hcs =>
        by_cases h0 : n = 0
        · subst h0; exact ⟨_, _, #[], rfl, empty _ _, by simp, fun i j hi => by omega⟩
        · obtain ⟨rfl, rfl, cells, e', hh, hsz, hlen, hr⟩ := (h.own id _ b sz2 m2 hl hi).1
          have hsz' : sz = size := by rw [← hlen 0 (by omega), (hz 0 (by omega)).1]
          subst hsz'
          obtain ⟨arr, h1, h2, h3⟩ := load_rows (P := P) (w := w) (b := b) (off := 0) (m := n) (size := sz) (cv := fun i j => cells.getD (i * sz + j) Go.undef) (fun i j hi hj => by
            have e1 : i * sz + sz = (i + 1) * sz := by rw [Nat.add_mul, Nat.one_mul]
            have e2 : (i + 1) * sz ≤ n' * sz := Nat.mul_le_mul_right _ (by omega)
            rw [Nat.zero_add]; exact cell_of hh (by omega))
          exact ⟨_, _, arr, rfl, fun w' hw' => by simpa [Builtin.firstCells] using h1 w' hw', h2, fun i j hi hj => by rw [h3 i j hi hj]; exact hr i j (by omega) hj⟩
    · simp at hs
  | _ => simp [srcV] at hs

/-- A block that nobody reaches may be written. -/
theorem Rel.touch {g : G} {s : AS} {a : Act} {w w' : World} {ι : Iota} {Fr : Nat → Nat → Prop} (h : Rel g s a w ι Fr) {b : Nat} (hb0 : g.w0.heap.size ≤ b)
    (hno : ∀ k c r, lk s.S k = some c → ι k = some r → r.1 ≠ b) (hFr : ∀ t, ¬ Fr t b) (hos : w'.os = w.os) (ht : w'.tape = w.tape) (ho : w'.output = w.output) (hsz : w'.heap.size = w.heap.size)
    (hb : ∀ k, k ≠ b → w'.heap[k]? = w.heap[k]?) (hsh : ∀ k e, w.shape? k = some e → w'.shape? k = some e) : Rel g s a w' ι Fr := by
  have hF : ∀ t k, Fr t k → Fr t k ∧ w'.heap[k]? = w.heap[k]? := fun t k hf => ⟨hf, hb k fun e => hFr t (e ▸ hf)⟩
  exact
    { h with
      tmp := fun t v hv => (h.tmp t v hv).world hF hsh
      own := fun id blk b' sz m hl hi => ⟨(h.own id blk b' sz m hl hi).1.mono (p := fun _ => false) (hb b' (hno id blk _ hl hi)) hF (fun _ _ => rfl) (Blk.ment_false blk) (fun _ r e _ _ hs => hsh r.1 e hs), (h.own id blk b' sz m hl hi).2⟩
      fr := fun t k hf => ⟨by rw [hsz]; exact (h.fr t k hf).1, (h.fr t k hf).2⟩
      cl := fun t k h2 hf => by rw [(hF t k hf).2]; exact h.cl t k h2 hf
      os := hos.trans h.os
      tape := ht.trans h.tape
      output := ho.trans h.output
      hsize := by rw [hsz]; exact h.hsize
      frame := fun k hlt hio => (hb k (by omega)).trans (h.frame k hlt hio)
      shape := fun k e he => hsh k e (h.shape k e he) }

theorem join_ok {w : World} {Fr : Nat → Nat → Prop} (hS : ∀ b, ¬ Fr tagS b) (h0 : ∀ t b, Fr t b → Fr 0 b) {flat : Bool} {a b m tj : Nat} (hM : 2 ≤ a → a ≠ tagS → ∀ t x, 2 ≤ t → Fr t x → Fr a x) {f : Nat → V} {jo : List Prop} (h : joinTag flat a b m f = (tj, jo)) (ho : ∀ p ∈ jo, p) :
    (∀ c v, PRep w (Fr a) c v → PRep w (Fr tj) c v) ∧ (∀ i j v, i < m → j < (f i).cells.length → PRep w (Fr b) ((f i).cells.getD j .undef) v → PRep w (Fr tj) ((f i).cells.getD j .undef) v) := by
  unfold joinTag at h
  cases flat with
  | true =>
    simp only at h
    split at h
    · rename_i h1 h2
      have e1 := natBeq.1 h1
      have e2 := natBeq.1 h2
      simp only [Prod.mk.injEq] at h
      obtain ⟨rfl, rfl⟩ := h
      subst e1 e2
      exact ⟨fun _ _ h => h, fun _ _ _ _ _ h => h⟩
    · rename_i h1 h2
      have e1 := natBeq.1 h1
      simp only [Prod.mk.injEq] at h
      obtain ⟨rfl, rfl⟩ := h
      subst e1
      refine ⟨fun _ _ h => h, fun i j v hi hj h => flat_rep h ?_⟩
      have := ho _ (List.mem_singleton.2 rfl) i hi
      exact all_getD (cs := (f i).cells) this hj
    · simp only [Prod.mk.injEq] at h
      obtain ⟨rfl, rfl⟩ := h
      exact ⟨fun _ _ h => h.weaken fun b hb => h0 _ _ hb, fun _ _ _ _ _ h => h.weaken fun b hb => h0 _ _ hb⟩
  | false =>
    simp only at h
    split at h
    · rename_i h1
      have e1 := natBeq.1 h1
      simp only [Prod.mk.injEq] at h
      obtain ⟨rfl, rfl⟩ := h
      subst e1
      exact ⟨fun _ _ h => h, fun _ _ _ _ _ h => h⟩
    · split at h
      · rename_i h2
        simp only [Bool.and_eq_true, Bool.not_eq_true', natBeqF] at h2
        simp only [Prod.mk.injEq] at h
        obtain ⟨rfl, rfl⟩ := h
        exact ⟨fun _ _ h => h, fun _ _ _ _ _ h => h.weaken fun x hx => hM (Nat.le_of_ble_eq_true h2.1.1) h2.2 _ x (Nat.le_of_ble_eq_true h2.1.2) hx⟩
      · simp only [Prod.mk.injEq] at h
        obtain ⟨rfl, rfl⟩ := h
        exact ⟨fun _ _ h => h.weaken fun b hb => h0 _ _ hb, fun _ _ _ _ _ h => h.weaken fun b hb => h0 _ _ hb⟩


/-- The machine's append in room that is there. -/
theorem run_append_in {t u ty el b n cap m c : Nat} {a0 : Option Addr} {cells news : Array Value} {size : Nat} {w : World} {e : TypeId} (hu : (underlying t).run P w = .ok (.slice el) w) (hu2 : ∃ el2, (underlying u).run P w = .ok (.slice el2) w) (hsz : (sizeOf el).run P w = .ok size w)
    (rest : List TypeId) (hb : w.heap[b]? = some (.cells cells e (0, 0))) (hn : (Builtin.firstCells size m (.slice a0 m c)).run P w = .ok news w) (hone : ∀ v ∈ news.toList, one v = true) (hle : n * size + news.size ≤ cells.size) (hroom : n + m ≤ cap) :
    (Builtin.append_ (t :: u :: rest).toArray ty #[.slice (some ⟨b, 0, none⟩) n cap, .slice a0 m c]).run P w = .ok (.slice (some ⟨b, 0, none⟩) (n + m) cap) (withCells w b (writeArr cells (n * size) news.toList) e) := by
  obtain ⟨el2, hu2⟩ := hu2
  have hst := run_storeCells (P := P) news.toList w cells (n * size) 0 hb (by simp; omega) hone
  have hst' : (storeCells ((⟨b, 0, none⟩ : Addr).add (n * size)) news.toList).run P w = .ok () (withCells w b (writeArr cells (n * size) news.toList) e) := by
    rw [add_none, Nat.zero_add, hst]
    split
    · rename_i h; rw [h, writeArr, withCells_self hb]
    · rw [Nat.add_zero]
  unfold Builtin.append_
  simp [hu, hu2, hsz, Builtin.lenOf, hroom, hn, hst']

/-- The machine's append where there is no room. -/
theorem run_append_new {t u ty el n cap m c : Nat} {base a0 : Option Addr} {old news : Array Value} {size bytes : Nat} {w : World} {i : TypeInfo} {z : Value}
    (hu : (underlying t).run P w = .ok (.slice el) w) (hu2 : ∃ el2, (underlying u).run P w = .ok (.slice el2) w) (hi : P.info? el = some i) (his : i.size = size) (hib : i.bytes = bytes) (hz : i.zero = some z)
    (rest : List TypeId) (hold : ∀ w' : World, w'.heap = w.heap → (Builtin.firstCells size n (.slice base n cap)).run P w' = .ok old w')
    (hn : ∀ w' : World, w'.heap = w.heap → (Builtin.firstCells size m (.slice a0 m c)).run P w' = .ok news w') (hroom : ¬ n + m ≤ cap) (hb1 : 1 ≤ bytes) (hb2 : bytes ≤ 1024) (hmost : n + m ≤ most) :
    (Builtin.append_ (t :: u :: rest).toArray ty #[.slice base n cap, .slice a0 m c]).run P w =
      .ok (.slice (some ⟨w.heap.size, 0, none⟩) (n + m) (grownCap w (n + m) cap el)) (w.drew.alloc (.cells (old ++ news ++ Builtin.zeroCells z.cells (grownCap w (n + m) cap el - (n + m))) el (0, 0))) := by
  subst his hib
  obtain ⟨el2, hu2⟩ := hu2
  have hm : n + m ≤ 1073741824 := by unfold most at hmost; omega
  have hfit : Builtin.nextslicecap (n + m) cap * i.bytes ≤ 281474976710656 := by
    refine growslice_fits (by omega) ?_
    have : (n + m) * i.bytes ≤ 1073741824 * 1024 := Nat.mul_le_mul hm hb2
    omega
  have hno : ¬ (281474976710656 < Builtin.nextslicecap (n + m) cap * i.bytes) := by omega
  have hb0 : ¬ i.bytes = 0 := by omega
  have h1 := hold w.drew rfl
  have h2 := hn w.drew rfl
  unfold Builtin.append_
  simp [hu, hu2, sizeOf, typeInfo, zeroValue, hi, hz, Builtin.lenOf, hroom, hb0, hno, Question.forced, h1, h2, newRow, grownCap]

end
end Go.Av

/- Append: the machine's and the abstract one. -/
namespace Go.Av
set_option linter.unusedVariables false
set_option linter.unusedSimpArgs false

theorem FreshId.del {s : AS} {id : Nat} (h : FreshId s id) (k : Nat) : FreshId { s with S := Go.Av.del s.S k } id where
  ge := h.ge
  no := by
    show lk (Go.Av.del s.S k) id = none
    rw [lk_del, h.no]; simp
  T := h.T
  S := fun j blk hj => by
    have hj' : lk (Go.Av.del s.S k) j = some blk := hj
    rw [lk_del] at hj'
    by_cases e : j = k
    · simp [e] at hj'
    · simp only [e, if_false] at hj'; exact h.S j blk hj'

theorem appg_lt {n i : Nat} {g h : Nat → V} (hi : i < n) : appg n g h i = g i := by simp [appg, hi]
theorem appg_ge {n i : Nat} {g h : Nat → V} (hi : n ≤ i) : appg n g h i = h (i - n) := by
  have : ¬ i < n := by omega
  simp [appg, this]

section
variable {P : Program} {tt : TT} (hT : TabOk P tt)

theorem news_one {w : World} {A : Nat → Prop} {m size : Nat} {f : Nat → V} {news : Array Value} (hz : sizedL size m f) (hs : news.size = m * size)
    (hr : ∀ i j, i < m → j < size → PRep w A ((f i).cells.getD j .undef) (news.getD (i * size + j) Go.undef)) : ∀ v ∈ news.toList, one v = true := by
  intro v hv
  obtain ⟨k, hk, rfl⟩ := List.mem_iff_getElem.1 hv
  have hk' : k < m * size := by rw [← hs]; simpa using hk
  have hpos : 0 < size := by
    rcases Nat.eq_zero_or_pos size with h0 | h0
    · subst h0; simp at hk'
    · exact h0
  have h1 : k / size < m := Nat.div_lt_of_lt_mul (by rw [Nat.mul_comm]; exact hk')
  have h2 : k % size < size := Nat.mod_lt _ hpos
  have h3 : k / size * size + k % size = k := by rw [Nat.mul_comm]; exact Nat.div_add_mod k size
  obtain ⟨h4, h5⟩ := hz _ h1
  have := (hr _ _ h1 h2).one (cell_solid h5 (by omega))
  rw [h3] at this
  simpa [show k < news.size by simpa using hk] using this

/-- Cells of the old elements and of the new ones, one row. -/
theorem row_join {w : World} {A : Nat → Prop} {n m size : Nat} {f h : Nat → V} {cells : Array Value}
    (hold : ∀ i j, i < n → j < size → PRep w A ((f i).cells.getD j .undef) (cells.getD (i * size + j) Go.undef))
    (hnew : ∀ i j, i < m → j < size → PRep w A ((h i).cells.getD j .undef) (cells.getD ((n + i) * size + j) Go.undef)) :
    ∀ i j, i < n + m → j < size → PRep w A ((appg n f h i).cells.getD j .undef) (cells.getD (i * size + j) Go.undef) := by
  intro i j hi hj
  by_cases h1 : i < n
  · rw [appg_lt h1]; exact hold i j h1 hj
  · rw [appg_ge (by omega)]
    have := hnew (i - n) j (by omega) hj
    rwa [show n + (i - n) = i by omega] at this

/-- A row in new memory. -/
theorem append_new {g : G} {s : AS} {a : Act} {w : World} {ι : Iota} {Fr : Nat → Nat → Prop} (h : Rel g s a w ι Fr) {o : Oper} {site : Nat} (hf : FreshId s site) (hd : dstOk g.nt o = true)
    {el : TypeId} {ti : TI} (hl : lk tt el = some ti) {n m : Nat} {F H : Nat → V} {old news : Array Value} {tj : Nat} {rd : List Nat} {ob : List Prop} {upd0 : List (Nat × Option Blk)} (hupd : ∀ k, lk (applyUpd s.S (upd0 ++ [(site, some (.arr ti.size (n + m) (appg n F H) tj))])) k = lk (put s.S site (.arr ti.size (n + m) (appg n F H) tj)) k)
    (hos : old.size = n * ti.size) (hns : news.size = m * ti.size) (hFl : ∀ i, i < n → (F i).cells.length = ti.size) (hHl : ∀ i, i < m → (H i).cells.length = ti.size)
    (hor : ∀ i j, i < n → j < ti.size → PRep w (Fr tj) ((F i).cells.getD j .undef) (old.getD (i * ti.size + j) Go.undef))
    (hnr : ∀ i j, i < m → j < ti.size → PRep w (Fr tj) ((H i).cells.getD j .undef) (news.getD (i * ti.size + j) Go.undef))
    {z : Value} (hz : z.cells.size = ti.size) {cap : Nat} (hcap : n + m ≤ cap)
    (hrun : (execOp a.eval o).run P w = .ok (.value (.slice (some ⟨w.heap.size, 0, none⟩) (n + m) cap)) (w.drew.alloc (.cells (old ++ news ++ Builtin.zeroCells z.cells (cap - (n + m))) el (0, 0)))) :
    Does P g (s.app o.dst ⟨.osl site (n + m), upd0 ++ [(site, some (.arr ti.size (n + m) (appg n F H) tj))], rd, ob⟩) a w o := by
  have hd0 : Rel g s a w.drew ι Fr := h.grow rfl rfl rfl (Nat.le_refl _) (fun _ _ => rfl)
  have hcs : (old ++ news ++ Builtin.zeroCells z.cells (cap - (n + m))).size = cap * ti.size := by
    simp only [Array.size_append, hos, hns, size_zeroCells, hz, ← Nat.add_mul]
    congr 1; omega
  have hget : ∀ k, k < (n + m) * ti.size → (old ++ news ++ Builtin.zeroCells z.cells (cap - (n + m))).getD k Go.undef = if k < n * ti.size then old.getD k Go.undef else news.getD (k - n * ti.size) Go.undef := by
    intro k hk
    rw [Nat.add_mul] at hk
    by_cases h1 : k < n * ti.size
    · rw [if_pos h1]
      simp [Array.getElem?_append, hos, hns, h1, show k < n * ti.size + m * ti.size by omega]
    · rw [if_neg h1]
      simp [Array.getElem?_append, hos, hns, h1, show k - n * ti.size < m * ti.size by omega]
  have hlt : ∀ i j, i < n + m → j < ti.size → i * ti.size + j < (n + m) * ti.size := by
    intro i j hi hj
    have e1 : i * ti.size + ti.size = (i + 1) * ti.size := by rw [Nat.add_mul, Nat.one_mul]
    have e2 : (i + 1) * ti.size ≤ (n + m) * ti.size := Nat.mul_le_mul_right _ hi
    omega
  have hnew := hd0.newBlk hf (arr := old ++ news ++ Builtin.zeroCells z.cells (cap - (n + m))) (e := el) (sz := ti.size) (m := n + m) (blk := .arr ti.size (n + m) (appg n F H) tj) (fun w' hw hb hsh => by
    refine ⟨rfl, rfl, _, el, hw, by rw [hcs]; exact Nat.mul_le_mul_right _ hcap, fun i hi => ?_, ?_⟩
    · by_cases h1 : i < n
      · rw [appg_lt h1]; exact hFl i h1
      · rw [appg_ge (by omega)]; exact hHl _ (by omega)
    · refine row_join (fun i j hi hj => ?_) (fun i j hi hj => ?_)
      · have h1 : i * ti.size + j < n * ti.size := by
          have e1 : i * ti.size + ti.size = (i + 1) * ti.size := by rw [Nat.add_mul, Nat.one_mul]
          have e2 : (i + 1) * ti.size ≤ n * ti.size := Nat.mul_le_mul_right _ hi
          omega
        rw [hget _ (hlt i j (by omega) hj), if_pos h1]
        exact (hor i j hi hj).mono fun b hb' => ⟨hb', hb b (h.fr _ b hb').1⟩
      · have h1 : ¬ (n + i) * ti.size + j < n * ti.size := by rw [Nat.add_mul]; omega
        rw [hget _ (hlt (n + i) j (by omega) hj), if_neg h1]
        have e1 : (n + i) * ti.size + j - n * ti.size = i * ti.size + j := by rw [Nat.add_mul]; omega
        rw [e1]
        exact (hnr i j hi hj).mono fun b hb' => ⟨hb', hb b (h.fr _ b hb').1⟩)
  have hsz : w.drew.heap.size = w.heap.size := rfl
  rw [hsz] at hnew
  refine does_mem hd hrun (hnew.congr (fun _ => rfl) fun k => ?_) ?_
  · exact hupd k
  · exact .osl (b := w.heap.size) (sz := ti.size) (m := n + m) (e := el) (c := (old ++ news ++ Builtin.zeroCells z.cells (cap - (n + m))).size) (by simp [updI]) (Nat.le_refl _) hcap (shape_alloc w.drew _ _) (by rw [hcs]; exact Nat.le_refl _)

theorem grownCap_ge' (w : World) (need old : Nat) (e : TypeId) : need ≤ grownCap w need old e := by
  unfold grownCap Question.cut
  exact Nat.le_add_right _ _

include hT in
theorem does_append0 {g : G} {s : AS} {a : Act} {w : World} {ι : Iota} {Fr : Nat → Nat → Prop} (h : Rel g s a w ι Fr) {o : Oper} {c : Call} {x y : Operand} {t u : TypeId} {rest : List TypeId} (hop : o.op = .call c)
    (hcal : c.callee = .builtin .append) (hargs : c.args = #[x, y]) (hty : c.argTypes.toList = t :: u :: rest) (hu2 : ∃ ti, elemTI tt u = some ti)
    (hx : TRep w Fr ι (strip (aval s x)) (a.eval x)) (hy : TRep w Fr ι (strip (aval s y)) (a.eval y)) (hd : dstOk g.nt o = true) {site : Nat} (hf : FreshId s site)
    (hM : ∀ id n sz n' F te, strip (aval s x) = .osl id n → lk s.S id = some (.arr sz n' F te) → 2 ≤ te → te ≠ tagS → ∀ t b, 2 ≤ t → Fr t b → Fr te b)
    {e : Ef} (he : appendV tt s.S site t (strip (aval s x)) (strip (aval s y)) = some e) (ho : ∀ p ∈ e.ob, p) : Does P g (s.app o.dst e) a w o := by
  obtain ⟨tiu, htiu⟩ := hu2
  obtain ⟨elu, huu, _⟩ := run_elem (P := P) hT htiu w
  have hexec : ∀ v w', (Builtin.append_ (t :: u :: rest).toArray o.type #[a.eval x, a.eval y]).run P w = .ok v w' → (execOp a.eval o).run P w = .ok (.value v) w' := by
    intro v w' hr
    unfold execOp
    rw [hop]
    have hat : c.argTypes = (t :: u :: rest).toArray := by rw [← hty]
    simp only [resolve, hcal, hargs, invoke, builtin, Sem.run_bind, Sem.run_pure, Result.andThen_ok, hat, List.map_toArray, List.map_cons, List.map_nil, hr]
  generalize a.eval x = vx at hx hexec
  generalize a.eval y = vy at hy hexec
  generalize strip (aval s x) = xv at *
  generalize strip (aval s y) = yv at *
  unfold appendV at he
  split at he
  case h_2 => simp at he
  case h_1 ti m H th rd hti hsrc =>
    obtain ⟨el, hu, hl⟩ := run_elem (P := P) hT hti w
    obtain ⟨i, hi, hib, his⟩ := run_bytes hT hl w
    obtain ⟨i', hi', his', hib', z, hz, _, _, hzs, _⟩ := hT.info _ _ hl
    split at he
    case h_2 => simp at he
    case h_1 hbb =>
      simp only [Bool.and_eq_true] at hbb
      have hb2 : ti.bytes ≤ 1024 := Nat.le_of_ble_eq_true hbb.1
      have hb1 : 1 ≤ ti.bytes := Nat.le_of_ble_eq_true hbb.2
      split at he
      · -- onto nil
        cases hjo : joinTag ti.flat tagS th m H with
        | mk tj jo =>
        simp only [hjo, Option.some.injEq] at he
        subst he
        have hm : m ≤ most := ho _ (List.mem_cons_self ..)
        have hsz : sizedL ti.size m H := ho _ (List.mem_cons_of_mem _ (List.mem_cons_self ..))
        have hjo' : ∀ p ∈ jo, p := fun p hp => ho p (List.mem_cons_of_mem _ (List.mem_cons_of_mem _ hp))
        obtain ⟨a0, c0, news, hvx, hnr, hns, hrep⟩ := src_run (P := P) (size := ti.size) h hsrc hy hsz (fun id n blk hyv hlk sz n' g' te hblk => by
          subst hyv hblk
          simp only [srcV, hlk, Option.some.injEq, Prod.mk.injEq] at hsrc
          obtain ⟨rfl, rfl, rfl, rfl⟩ := hsrc
          cases hy with
          | atom hv _ => simp [isP] at hv
          | osl0 => exact .inr (.inr rfl)
          | osl hi hn hc hs hcs =>
            by_cases h0 : n = 0
            · exact .inr (.inr h0)
            · obtain ⟨q1, q2, cells, e', hh, _, hlen, _⟩ := (h.own id _ _ _ _ hlk hi).1
              left
              rw [q1, ← (hsz 0 (by omega)).1]
              rw [hlen 0 (by omega)])
        cases hx with
        | atom _ hp =>
          cases hp with
          | nil base =>
            by_cases h0 : m = 0
            · subst h0
              have hn0 : news.size = 0 := by rw [hns]; simp
              have hnews : news = #[] := Array.eq_empty_of_size_eq_zero hn0
              subst hnews
              have hrun := hexec (.slice base 0 0) w (by
                rw [hvx]
                have h1 := hnr w rfl
                rw [hvx] at h1
                unfold Builtin.append_
                cases base <;> simp [hu, huu, run_size hT hl, Builtin.lenOf, h1, storeCells])
              have hnil := h.addNil hf (sz := ti.size) (te := (match ti.flat with | true => tagS | false => th)) (f := H)
              exact does_mem hd hrun (hnil.congr (fun _ => rfl) fun k => rfl) (.osl0 base (by simp [updI]))
            · have hrun := hexec _ _ (by
                rw [hvx]
                rw [hvx] at hnr
                exact run_append_new (P := P) (ty := o.type) (n := 0) (cap := 0) (old := #[]) hu ⟨_, huu⟩ hi' his' hib' hz rest (fun w' _ => by cases base <;> simp [Builtin.firstCells, loadCells, loadCellsFrom]) hnr (by omega) hb1 hb2 (by omega))
              have happ : appg 0 (fun _ => V.undef) H = H := by funext k; simp [appg]
              have hmain := append_new (P := P) h hf hd hl (n := 0) (m := m) (F := fun _ => .undef) (H := H) (old := #[]) (news := news) (tj := (match ti.flat with | true => tagS | false => th)) (rd := rd) (ob := (m ≤ most) :: sizedL ti.size m H :: jo) (upd0 := [])
                (fun k => rfl) (by simp) hns (fun i hi => by omega) (fun i hi => (hsz i hi).1) (fun i j hi => by omega) (fun i j hi hj => by
                  have h1 := hrep i j hi hj
                  cases hfl : ti.flat with
                  | false => exact h1
                  | true =>
                    rw [hfl] at hjo
                    have h2 := (join_ok h.frS h.fr0 (fun _ e => absurd rfl e) hjo hjo').2 i j _ hi (by rw [(hsz i hi).1]; exact hj) h1
                    unfold joinTag at hjo
                    simp only at hjo
                    split at hjo
                    · simp only [Prod.mk.injEq] at hjo; rw [← hjo.1] at h2; exact h2
                    · simp only [Prod.mk.injEq] at hjo; rw [← hjo.1] at h2; exact h2
                    · rename_i hne1 hne2
                      exfalso
                      cases hq : Nat.beq th tagS with
                      | true => exact hne1 (natBeq.2 rfl) hq
                      | false => exact hne2 (natBeq.2 rfl) hq)
                hzs (grownCap_ge' _ _ _ _) hrun
              rw [happ, Nat.zero_add] at hmain
              exact hmain
      · -- onto a row of one's own
        rename_i id n
        split at he
        case h_2 => simp at he
        case h_1 sz n' F te hlk =>
          cases hjo : joinTag ti.flat te th m H with
          | mk tj jo =>
          simp only [hjo] at he
          cases hszb : Nat.beq sz ti.size with
          | false => simp [hszb] at he
          | true =>
          cases h64 : Nat.ble 64 id with
          | false => simp [hszb, h64] at he
          | true =>
          simp only [hszb, h64, Option.some.injEq] at he
          subst he
          have e0 := natBeq.1 hszb
          subst e0
          have hid64 : 64 ≤ id := Nat.le_of_ble_eq_true h64
          have hnn : n = n' := ho _ (List.mem_cons_self ..)
          subst hnn
          have hm : n + m ≤ most := ho _ (List.mem_cons_of_mem _ (List.mem_cons_self ..))
          have hsz : sizedL ti.size m H := ho _ (List.mem_cons_of_mem _ (List.mem_cons_of_mem _ (List.mem_cons_self ..)))
          have hjo' : ∀ p ∈ jo, p := fun p hp => ho p (List.mem_cons_of_mem _ (List.mem_cons_of_mem _ (List.mem_cons_of_mem _ hp)))
          obtain ⟨j1, j2⟩ := join_ok (w := w) h.frS h.fr0 (hM id n _ _ F te rfl hlk) hjo hjo'
          have hsid : site ≠ id := by
            intro e1
            have := hf.no
            rw [e1, hlk] at this
            cases this
          obtain ⟨a0, c0, news, hvx, hnr, hns, hrep⟩ := src_run (P := P) (size := ti.size) h hsrc hy hsz (fun id n blk hyv hlk sz n' g' te hblk => by
            subst hyv hblk
            simp only [srcV, hlk, Option.some.injEq, Prod.mk.injEq] at hsrc
            obtain ⟨rfl, rfl, rfl, rfl⟩ := hsrc
            cases hy with
            | atom hv _ => simp [isP] at hv
            | osl0 => exact .inr (.inr rfl)
            | osl hi hn hc hs hcs =>
              by_cases h0 : n = 0
              · exact .inr (.inr h0)
              · obtain ⟨q1, q2, cells, e', hh, _, hlen, _⟩ := (h.own id _ _ _ _ hlk hi).1
                left
                rw [q1, ← (hsz 0 (by omega)).1]
                rw [hlen 0 (by omega)])
          rw [hvx] at hnr
          have hupd : ∀ k, lk (applyUpd (del s.S id) ([] ++ [(site, some (.arr ti.size (n + m) (appg n F H) tj))])) k = lk (put (del s.S id) site (.arr ti.size (n + m) (appg n F H) tj)) k := fun k => rfl
          have hdrop := h.drop id
          have hfd := hf.del id
          have back : ∀ rd ob, Does P g (({ s with S := del s.S id } : AS).app o.dst ⟨.osl site (n + m), [] ++ [(site, some (.arr ti.size (n + m) (appg n F H) tj))], rd, ob⟩) a w o →
              Does P g (s.app o.dst ⟨.osl site (n + m), [(id, none), (site, some (.arr ti.size (n + m) (appg n F H) tj))], rd, ob⟩) a w o := fun _ _ hq => hq
          cases hx with
          | atom hv _ => simp [isP] at hv
          | osl0 base hi0 =>
            by_cases h0 : m = 0
            · subst h0
              have hn0 : news.size = 0 := by rw [hns]; simp
              have hnews : news = #[] := Array.eq_empty_of_size_eq_zero hn0
              subst hnews
              have hrun := hexec (.slice base 0 0) w (by
                rw [hvx]
                have h1 := hnr w rfl
                unfold Builtin.append_
                cases base <;> simp [hu, huu, run_size hT hl, Builtin.lenOf, h1, storeCells])
              have hnil := hdrop.addNil hfd (sz := ti.size) (te := tj) (f := appg 0 F H)
              exact does_mem hd hrun (hnil.congr (fun _ => rfl) fun k => rfl) (.osl0 base (by simp [updI]))
            · have hrun := hexec _ _ (by
                rw [hvx]
                exact run_append_new (P := P) (ty := o.type) (n := 0) (cap := 0) (old := #[]) hu ⟨_, huu⟩ hi' his' hib' hz rest (fun w' _ => by cases base <;> simp [Builtin.firstCells, loadCells, loadCellsFrom]) hnr (by omega) hb1 hb2 (by omega))
              exact back _ _ (append_new (P := P) hdrop hfd hd hl (n := 0) (m := m) (F := F) (H := H) (old := #[]) (news := news) (tj := tj) (upd0 := [])
                hupd (by simp) hns (fun i hi => by omega) (fun i hi => (hsz i hi).1) (fun i j hi => by omega) (fun i j hi hj => j2 i j _ hi (by rw [(hsz i hi).1]; exact hj) (hrep i j hi hj)) hzs (grownCap_ge' _ _ _ _) hrun)
          | @osl _ _ b sz2 mm cap cz e2 hid hn2 hcap hsh hcs =>
            obtain ⟨hown, hmine⟩ := h.own id _ b sz2 mm hlk hid
            have hblt := hown.lt
            obtain ⟨rfl, rfl, cells, e', hh, hcsz, hFl, hFr⟩ := hown
            have hb0 : g.w0.heap.size ≤ b := by
              rcases hmine with h' | ⟨_, h'⟩
              · exact h'
              · omega
            have hcells : cells.size = cz ∧ e' = e2 := by
              unfold World.shape? at hsh
              rw [hh] at hsh
              simp only [Option.some.injEq, Prod.mk.injEq] at hsh
              exact ⟨hsh.2, hsh.1⟩
            by_cases hroom : n + m ≤ cap
            · -- in place
              have hle : n * ti.size + news.size ≤ cells.size := by
                rw [hns, hcells.1, ← Nat.add_mul]
                exact Nat.le_trans (Nat.mul_le_mul_right _ hroom) hcs
              have hone := news_one hsz hns hrep
              have hrun := hexec _ _ (by
                rw [hvx]
                exact run_append_in (P := P) (ty := o.type) (n := n) (cap := cap) hu ⟨_, huu⟩ (run_size hT hl w) rest hh (hnr w rfl) hone hle hroom)
              have hno : ∀ k c r, lk (del s.S id) k = some c → ι k = some r → r.1 ≠ b := by
                intro k c r hk hr e1
                rw [lk_del] at hk
                by_cases e3 : k = id
                · simp [e3] at hk
                · simp only [e3, if_false] at hk
                  exact e3 (h.inj k id c _ r _ hk hlk hr hid e1)
              have hFrb : ∀ t, ¬ Fr t b := fun t hf => (h.fr t b hf).2.2 id _ _ hlk hid rfl
              have hsh' : ∀ k x', w.shape? k = some x' → (withCells w b (writeArr cells (n * ti.size) news.toList) e').shape? k = some x' := fun k x' hk => shape_with hh (writeArr_size _ _ _) hk
              have htouch := hdrop.touch (w' := withCells w b (writeArr cells (n * ti.size) news.toList) e') hb0 hno hFrb rfl rfl rfl withCells_size (fun k hk => withCells_ne hk) hsh'
              have hmono : ∀ c v, PRep w (Fr tj) c v → PRep (withCells w b (writeArr cells (n * ti.size) news.toList) e') (Fr tj) c v :=
                fun c v hp => hp.mono fun k hk => ⟨hk, withCells_ne fun e1 => hFrb tj (e1 ▸ hk)⟩
              have hlen2 : news.toList.length = m * ti.size := by simpa using hns
              have hadd := htouch.addBlk hfd (b := b) (sz := ti.size) (m := n + m) (blk := .arr ti.size (n + m) (appg n F H) tj) (by
                refine ⟨rfl, rfl, _, e', withCells_get hblt, ?_, fun i hi => ?_, ?_⟩
                · rw [writeArr_size, Nat.add_mul]; omega
                · by_cases h1 : i < n
                  · rw [appg_lt h1]; exact hFl i h1
                  · rw [appg_ge (by omega)]; exact (hsz _ (by omega)).1
                · refine row_join (fun i j hi hj => ?_) (fun i j hi hj => ?_)
                  · have h1 : i * ti.size + j < n * ti.size := by
                      have e1 : i * ti.size + ti.size = (i + 1) * ti.size := by rw [Nat.add_mul, Nat.one_mul]
                      have e2 : (i + 1) * ti.size ≤ n * ti.size := Nat.mul_le_mul_right _ hi
                      omega
                    rw [writeArr_getD _ _ _ _ (by rw [hlen2]; omega), if_neg (by omega)]
                    exact hmono _ _ (j1 _ _ (hFr i j hi hj))
                  · have h1 : n * ti.size ≤ (n + i) * ti.size + j ∧ (n + i) * ti.size + j < n * ti.size + news.toList.length := by
                      rw [hlen2]
                      have e1 : i * ti.size + ti.size = (i + 1) * ti.size := by rw [Nat.add_mul, Nat.one_mul]
                      have e2 : (i + 1) * ti.size ≤ m * ti.size := Nat.mul_le_mul_right _ hi
                      rw [Nat.add_mul]; omega
                    rw [writeArr_getD _ _ _ _ (by rw [hlen2]; omega), if_pos h1, toList_getD]
                    have e1 : (n + i) * ti.size + j - n * ti.size = i * ti.size + j := by rw [Nat.add_mul]; omega
                    rw [e1]
                    exact hmono _ _ (j2 i j _ hi (by rw [(hsz i hi).1]; exact hj) (hrep i j hi hj))) hb0 hFrb hno
              refine back _ _ (does_mem hd hrun (hadd.congr (fun _ => rfl) fun k => rfl) ?_)
              exact .osl (b := b) (sz := ti.size) (m := n + m) (e := e') (c := cells.size) (by simp [updI]) (Nat.le_refl _) hroom
                (hsh' b _ (by unfold World.shape?; rw [hh])) (by rw [hcells.1]; exact hcs)
            · -- in new memory
              have hold : ∃ old : Array Value, (∀ w' : World, w'.heap = w.heap → (Builtin.firstCells ti.size n (.slice (some ⟨b, 0, none⟩) n cap)).run P w' = .ok old w') ∧ old.size = n * ti.size ∧
                  ∀ i j, i < n → j < ti.size → old.getD (i * ti.size + j) Go.undef = cells.getD (i * ti.size + j) Go.undef := by
                obtain ⟨arr, h1, h2, h3⟩ := load_rows (P := P) (w := w) (b := b) (off := 0) (m := n) (size := ti.size) (cv := fun i j => cells.getD (i * ti.size + j) Go.undef) (fun i j hi hj => by
                  have e1 : i * ti.size + ti.size = (i + 1) * ti.size := by rw [Nat.add_mul, Nat.one_mul]
                  have e2 : (i + 1) * ti.size ≤ n * ti.size := Nat.mul_le_mul_right _ hi
                  rw [Nat.zero_add]; exact cell_of hh (by omega))
                exact ⟨arr, fun w' hw' => by simpa [Builtin.firstCells] using h1 w' hw', h2, h3⟩
              obtain ⟨old, ho1, ho2, ho3⟩ := hold
              have hrun := hexec _ _ (by
                rw [hvx]
                exact run_append_new (P := P) (ty := o.type) hu ⟨_, huu⟩ hi' his' hib' hz rest ho1 hnr hroom hb1 hb2 hm)
              exact back _ _ (append_new (P := P) hdrop hfd hd hl (n := n) (m := m) (F := F) (H := H) (old := old) (news := news) (tj := tj) (upd0 := [])
                hupd ho2 hns hFl (fun i hi => (hsz i hi).1) (fun i j hi hj => by rw [ho3 i j hi hj]; exact j1 _ _ (hFr i j hi hj)) (fun i j hi hj => j2 i j _ hi (by rw [(hsz i hi).1]; exact hj) (hrep i j hi hj)) hzs (grownCap_ge' _ _ _ _) hrun)
      · simp at he


include hT in
theorem does_append {g : G} {s : AS} {a : Act} {w : World} {ι : Iota} {Fr : Nat → Nat → Prop} (h : Rel g s a w ι Fr) {o : Oper} {c : Call} {x y : Operand} {t u : TypeId} {rest : List TypeId} (hop : o.op = .call c)
    (hcal : c.callee = .builtin .append) (hargs : c.args = #[x, y]) (hty : c.argTypes.toList = t :: u :: rest) (hu2 : ∃ ti, elemTI tt u = some ti)
    (hx : TRep w Fr ι (strip (aval s x)) (a.eval x)) (hy : TRep w Fr ι (strip (aval s y)) (a.eval y)) (hd : dstOk g.nt o = true) {site : Nat} (hf : FreshId s site)
    {e : Ef} (he : appendV tt s.S site t (strip (aval s x)) (strip (aval s y)) = some e) (ho : ∀ p ∈ e.ob, p) : Does P g (s.app o.dst e) a w o := by
  by_cases hc : ∃ id n sz n' F te, strip (aval s x) = .osl id n ∧ lk s.S id = some (.arr sz n' F te) ∧ 2 ≤ te ∧ te ≠ tagS
  · obtain ⟨id, n, sz, n', F, te, e1, e2, e3, e4⟩ := hc
    have hR : Rel g s a w ι (FrK Fr s.S ι [] te) := h.freezeL te [] (Or.inr rfl) (fun id hid => by cases hid)
    have up : ∀ {v z}, TRep w Fr ι v z → TRep w (FrK Fr s.S ι [] te) ι v z := fun hq => hq.world (fun t b hf => ⟨.inl hf, rfl⟩) (fun _ _ hs => hs)
    refine does_append0 (P := P) hT hR hop hcal hargs hty hu2 (up hx) (up hy) hd hf ?_ he ho
    intro id' n2 sz2 n3 F2 te2 q1 q2 q3 q4 t b ht hb
    rw [e1] at q1
    cases q1
    rw [e2] at q2
    cases q2
    refine .inr (.inr ⟨rfl, e3, e4, ?_⟩)
    rcases hb with hb | ⟨_, id2, hid2, _⟩ | ⟨_, _, _, t2, h2, hb⟩
    · exact ⟨t, ht, hb⟩
    · cases hid2
    · exact ⟨t2, h2, hb⟩
  · refine does_append0 (P := P) hT h hop hcal hargs hty hu2 hx hy hd hf ?_ he ho
    intro id n sz n' F te q1 q2 q3 q4
    exact absurd ⟨id, n, sz, n', F, te, q1, q2, q3, q4⟩ hc

end
end Go.Av

/- Maps from whole numbers to values that reach nothing: made, looked up, written. -/
namespace Go.Av
set_option linter.unusedVariables false
set_option linter.unusedSimpArgs false

theorem flat_prep {w : World} {Fr : Nat → Nat → Prop} {ι : Iota} {v : V} {x : Value} {A : Nat → Prop} (h : TRep w Fr ι v x) (hf : flatV v = true) : PRep w A v x := by
  have one : ∀ {c : V} {y : Value}, TRep w Fr ι c y → flatA c = true → PRep w A c y := by
    intro c y hc hfc
    cases hc with
    | atom hv hp => cases hp <;> first | exact .int _ _ | exact .bool _ | exact .str _ | simp [flatA] at hfc
    | _ => simp [flatA] at hfc
  cases v with
  | agg cs =>
    cases h with
    | atom hv _ => simp [isP] at hv
    | agg arr hs hr =>
      refine .agg arr hs fun j hj => one (hr j hj) ?_
      exact all_getD (p := flatA) hf hj
  | int => exact one h rfl
  | bool => exact one h rfl
  | str => exact one h rfl
  | _ => simp [flatV, V.cells, flatA] at hf

theorem veqA_eq {a b : V} (h : veqA a b = true) : a = b := by
  cases a <;> cases b <;> simp [veqA] at h
  · obtain ⟨h1, h2⟩ := h
    rw [kindB_eq h1, h2]
  · rw [h]
theorem veqL_eq : ∀ {as bs : List V}, veqL as bs = true → as = bs
  | [], [], _ => rfl
  | [], _ :: _, h => by simp [veqL] at h
  | _ :: _, [], h => by simp [veqL] at h
  | a :: r, b :: q, h => by
    simp only [veqL, Bool.and_eq_true] at h
    rw [veqA_eq h.1, veqL_eq h.2]
theorem veq_eq {a b : V} (h : veq a b = true) : a = b := by
  unfold veq at h
  split at h
  · rw [veqL_eq h]
  · exact veqA_eq h

/-- Where the first entry of a key stands. -/
def at_ : List MapEntry → Int → Nat → Option (Nat × Value)
  | [], _, _ => none
  | e :: es, k, i => match e.key with
    | .int .i64 k' => if k = k' then some (i, e.val) else at_ es k (i + 1)
    | _ => at_ es k (i + 1)

theorem findNow_at (q : IntKind) (n : Int) : ∀ (es : List MapEntry) (i : Nat), (∀ e ∈ es, ∃ k : Int, e.key = .int .i64 k) → Instr.findNow (.int q) (.int .i64 n) es i = some (at_ es n i)
  | [], _, _ => rfl
  | e :: es, i, h => by
    obtain ⟨k, hk⟩ := h e (List.mem_cons_self ..)
    have ih := findNow_at q n es (i + 1) fun x hx => h x (List.mem_cons_of_mem _ hx)
    by_cases e1 : n = k
    · subst e1; simp [Instr.findNow, Instr.sameNow, at_, hk]
    · have : (n == k) = false := by simpa using e1
      simp [Instr.findNow, Instr.sameNow, at_, hk, e1, ih, this]

theorem at_look (n : Int) : ∀ (es : List MapEntry) (i : Nat), (∀ e ∈ es, ∃ k : Int, e.key = .int .i64 k) → (at_ es n i).map Prod.snd = look es n
  | [], _, _ => rfl
  | e :: es, i, h => by
    obtain ⟨k, hk⟩ := h e (List.mem_cons_self ..)
    have ih := at_look n es (i + 1) fun x hx => h x (List.mem_cons_of_mem _ hx)
    by_cases e1 : n = k
    · simp [at_, look, hk, e1]
    · simp [at_, look, hk, e1, ih]

/-- An entry's value turned. -/
theorem look_modify {n : Int} {v : Value} : ∀ {es : List MapEntry} {i j : Nat} {x : Value}, (∀ e ∈ es, ∃ k : Int, e.key = .int .i64 k) → at_ es n i = some (j, x) →
    ∃ m, j = i + m ∧ m < es.length ∧ (es.getD m default).key = .int .i64 n ∧ ∀ k, look (es.modify m fun e => { e with key := .int .i64 n, val := v }) k = if k = n then some v else look es k
  | [], _, _, _, _, h => by simp [at_] at h
  | e :: es, i, j, x, hk, h => by
    obtain ⟨k0, hk0⟩ := hk e (List.mem_cons_self ..)
    by_cases e1 : n = k0
    · subst e1
      simp [at_, hk0] at h
      refine ⟨0, by omega, by simp, by simpa using hk0, fun k => ?_⟩
      by_cases e2 : k = n
      · subst e2; simp [look]
      · simp [look, hk0, e2]
    · simp [at_, hk0, e1] at h
      obtain ⟨m, h1, h2, h3, h4⟩ := look_modify (v := v) (fun y hy => hk y (List.mem_cons_of_mem _ hy)) h
      refine ⟨m + 1, by omega, by simpa using h2, by simpa using h3, fun k => ?_⟩
      have := h4 k
      by_cases e2 : k = k0
      · subst e2
        have e3 : k ≠ n := fun e => e1 e.symm
        simp [look, hk0, e3]
      · simp [look, hk0, e2]
        exact this

theorem look_none {es : List MapEntry} {n : Int} {i : Nat} (hk : ∀ e ∈ es, ∃ k : Int, e.key = .int .i64 k) (h : at_ es n i = none) : look es n = none := by
  have := at_look n es i hk
  rw [h] at this
  exact this.symm
theorem look_push {n : Int} {e : MapEntry} (he : e.key = .int .i64 n) : ∀ {es : List MapEntry}, look es n = none → (∀ x ∈ es, ∃ k : Int, x.key = .int .i64 k) → ∀ k, look (es ++ [e]) k = if k = n then some e.val else look es k
  | [], _, _, k => by
    by_cases e2 : k = n
    · simp [look, he, e2]
    · simp [look, he, e2]
  | x :: es, h, hk, k => by
    obtain ⟨k0, hk0⟩ := hk x (List.mem_cons_self ..)
    have hn : n ≠ k0 := fun e => by simp [look, hk0, e] at h
    have h' : look es n = none := by simpa [look, hk0, hn] using h
    have ih := look_push he h' (fun y hy => hk y (List.mem_cons_of_mem _ hy)) k
    by_cases e2 : k = k0
    · subst e2
      have e3 : k ≠ n := fun e => hn e.symm
      simp [look, hk0, e3]
    · simp only [List.cons_append, look, hk0, e2, if_false]
      exact ih

section
variable {P : Program} {tt : TT} (hT : TabOk P tt)

theorem mapTI_some {t : Nat} {ti : TI} (h : mapTI tt t = some ti) : ∃ k e ti1 tk q, lk tt t = some ti1 ∧ ti1.desc = .map k e ∧ lk tt k = some tk ∧ tk.desc = .int q ∧ lk tt e = some ti := by
  unfold mapTI at h
  split at h
  · rename_i k e _ _ _ _ _ h1
    split at h
    · rename_i q _ _ _ _ _ h2
      exact ⟨k, e, _, _, q, h1, rfl, h2, rfl, h⟩
    · simp at h
  · simp at h

include hT in
theorem run_checkKey {k : Nat} {tk : TI} {q : IntKind} (hk : lk tt k = some tk) (hd : tk.desc = .int q) (b : Bool) (n : Int) (w : World) : (Instr.checkKey b 10000 k (.int .i64 n)).run P w = .ok () w := by
  have h1 := run_und hT hk w
  rw [hd] at h1
  show (Instr.checkKey b (9999 + 1) k (.int .i64 n)).run P w = .ok () w
  rw [Instr.checkKey]
  simp [h1]

include hT in
theorem run_findKey {k : Nat} {tk : TI} {q : IntKind} (hk : lk tt k = some tk) (hd : tk.desc = .int q) {es : List MapEntry} (hes : ∀ e ∈ es, ∃ k : Int, e.key = .int .i64 k) (n : Int) (w : World) :
    (Instr.findKey k (.int .i64 n) es).run P w = .ok (at_ es n 0) w := by
  have h1 := run_und hT hk w
  rw [hd] at h1
  unfold Instr.findKey
  simp [h1, findNow_at q n es 0 hes]

theorem run_getMap {w : World} {b : Nat} {es : Array MapEntry} {c : Nat} (h : w.heap[b]? = some (.map es c)) : (getObj b).run P w = .ok (.map es c) w := by
  unfold getObj
  simp only [Sem.run, h]

theorem run_setMap {w : World} {b : Nat} {es es' : Array MapEntry} {c c' : Nat} (h : w.heap[b]? = some (.map es c)) : (setObj b (.map es' c')).run P w = .ok () { w with heap := w.heap.setIfInBounds b (.map es' c') } := by
  unfold setObj
  simp only [Sem.run, h]

theorem does_makeMap {g : G} {s : AS} {a : Act} {w : World} {ι : Iota} {Fr : Nat → Nat → Prop} (h : Rel g s a w ι Fr) {o : Oper} {t : TypeId} (hop : o.op = .makeMap t none) (hd : dstOk g.nt o = true) {site : Nat} (hf : FreshId s site)
    {e : Ef} (he : makeMapV tt site t = some e) : Does P g (s.app o.dst e) a w o := by
  unfold makeMapV at he
  split at he
  · rename_i ti hti
    split at he
    · simp only [Option.some.injEq] at he
      subst he
      have hb : ∀ b, b < w.heap.size → (w.alloc (.map #[] 0)).heap[b]? = w.heap[b]? := fun b hb => Go.RowKit.Below.heap_alloc _ _ _ hb
      have h1 := h.grow (w' := w.alloc (.map #[] 0)) rfl rfl rfl (by simp) hb
      have h2 := h1.addBlk (b := w.heap.size) (sz := 1) (m := 1) (blk := .mp ti.zero (fun _ => ti.zero) (fun _ => false)) hf ⟨#[], 0, heap_alloc_new w _, by simp, fun k => ⟨rfl, rfl⟩⟩ h.hsize
        (fun t ht => by have := (h.fr t _ ht).1; omega)
        (fun k c r hl hi e1 => by
          obtain ⟨b, sz', m'⟩ := r
          have := (h.own k c b sz' m' hl hi).1.lt
          simp only at e1; omega)
      refine does_mem (x := .map (some w.heap.size)) hd ?_ h2 (.omap (b := w.heap.size) (sz := 1) (m := 1) (by simp [updI]))
      unfold execOp
      rw [hop]
      simp [Instr.makeMap, newObj]
      rfl
    · simp at he
  · simp at he

theorem inv_omap {w : World} {Fr : Nat → Nat → Prop} {ι : Iota} {id : Nat} {x : Value} (h : TRep w Fr ι (.omap id) x) : ∃ b sz m, ι id = some (b, sz, m) ∧ x = .map (some b) := by
  cases h with
  | atom hv _ => simp [isP] at hv
  | omap hi => exact ⟨_, _, _, hi, rfl⟩

include hT in
theorem lookup_sim {g : G} {s : AS} {a : Act} {w : World} {ι : Iota} {Fr : Nat → Nat → Prop} (h : Rel g s a w ι Fr) {t : TypeId} {c : Bool} {xv iv : V} {xx xi : Value}
    (hx : TRep w Fr ι xv xx) (hi : TRep w Fr ι iv xi) {e : Ef} (he : lookupV tt s.S t xv iv c = some e) :
    e.upd = [] ∧ ∃ z, (Instr.lookup t xx xi c).run P w = .ok z w ∧ TRep w Fr ι e.v z := by
  unfold lookupV at he
  split at he
  · rename_i ti id k n hti
    split at he
    · rename_i z f hh hkb hl
      split at he
      · rename_i hz
        simp only [Option.some.injEq] at he
        subst he
        refine ⟨rfl, ?_⟩
        obtain ⟨b, sz, m, hi', rfl⟩ := inv_omap hx
        have e1 := inv_int hi
        rw [kindB_eq hkb] at e1
        subst e1
        obtain ⟨es, cl, hhp, hks, hr⟩ := (h.own id _ b sz m hl hi').1
        obtain ⟨kt, et, t1, tk, q, m1, m2, m3, m4, m5⟩ := mapTI_some hti
        have hu := run_und hT m1 w
        rw [m2] at hu
        obtain ⟨zv, hzv, hzr, _⟩ := run_zero hT m5 w
        have hrn := hr n
        have hal := at_look n es.toList 0 hks
        have hfind := run_findKey (P := P) hT m3 m4 hks n w
        have hck := run_checkKey (P := P) hT m3 m4 es.isEmpty n w
        have hget := run_getMap (P := P) hhp
        have fin : ∀ (v : Value) (ok : Bool), hh n = ok → PRep w (fun _ => False) (f n) v → TRep w Fr ι (match c with | true => V.tup [f n, .bool (hh n)] | false => f n) (if c then .tuple #[v, .bool ok] else v) := by
          intro v ok h1 h2
          cases c with
          | false => exact TRep.ofP h2
          | true =>
            refine .tup #[v, .bool ok] rfl fun j hj => ?_
            match j, hj with
            | 0, _ => exact TRep.ofP h2
            | 1, _ => rw [← h1]; exact .atom rfl (.bool _)
        cases hat : at_ es.toList n 0 with
        | some p =>
          obtain ⟨ix, v⟩ := p
          rw [hat] at hal hfind
          simp at hal
          rw [← hal] at hrn
          refine ⟨if c then .tuple #[v, .bool true] else v, ?_, fin v true hrn.1 hrn.2⟩
          unfold Instr.lookup
          simp [hu, hget, hck, hfind]
        | none =>
          rw [hat] at hal hfind
          simp at hal
          rw [← hal] at hrn
          refine ⟨if c then .tuple #[zv, .bool false] else zv, ?_, fin zv false hrn.1 (by rw [hrn.2, veq_eq hz]; exact hzr)⟩
          unfold Instr.lookup
          simp [hu, hget, hck, hfind, hzv]
      · simp at he
    · simp at he
  · simp at he

include hT in
theorem does_mapUpdate {g : G} {s : AS} {a : Act} {w : World} {ι : Iota} {Fr : Nat → Nat → Prop} (h : Rel g s a w ι Fr) {o : Oper} {t : TypeId} {x i v : Operand} (hop : o.op = .mapUpdate t x i v) (hd : dstOk g.nt o = true)
    (hx : TRep w Fr ι (strip (aval s x)) (a.eval x)) (hi : TRep w Fr ι (strip (aval s i)) (a.eval i)) (hv : TRep w Fr ι (strip (aval s v)) (a.eval v))
    {e : Ef} (he : mapUpdateV tt s.S t (strip (aval s x)) (strip (aval s i)) (strip (aval s v)) = some e) : Does P g (s.app o.dst e) a w o := by
  generalize strip (aval s x) = xv at *
  generalize strip (aval s i) = iv at *
  generalize strip (aval s v) = vv at *
  unfold mapUpdateV at he
  split at he
  · rename_i ti id k n hti
    split at he
    · rename_i z f hh hkb hl
      simp only [Option.some.injEq] at he
      subst he
      rw [Bool.and_eq_true] at hkb
      obtain ⟨hkb, hfl⟩ := hkb
      obtain ⟨b, sz, m, hi', ex⟩ := inv_omap hx
      have e1 := inv_int hi
      rw [kindB_eq hkb] at e1
      obtain ⟨es, cl, hhp, hks, hr⟩ := (h.own id _ b sz m hl hi').1
      obtain ⟨kt, et, t1, tk, q, m1, m2, m3, m4, m5⟩ := mapTI_some hti
      have hu := run_und hT m1 w
      rw [m2] at hu
      have hfind := run_findKey (P := P) hT m3 m4 hks n w
      have hck := run_checkKey (P := P) hT m3 m4 false n w
      have hget := run_getMap (P := P) hhp
      have hblt : b < w.heap.size := (h.own id _ b sz m hl hi').1.lt
      have hvp : PRep w (fun _ => False) vv (a.eval v) := flat_prep hv hfl
      -- the world behind it
      have fin : ∀ (es' : Array MapEntry) (c' : Nat), (∀ e ∈ es'.toList, ∃ k : Int, e.key = .int .i64 k) → (∀ k, look es'.toList k = if k = n then some (a.eval v) else look es.toList k) →
          (execOp a.eval o).run P w = .ok .skip { w with heap := w.heap.setIfInBounds b (.map es' c') } → Does P g (s.app o.dst ⟨.undef, [(id, some (.mp z (setF f n vv) (setF hh n true)))], [id], []⟩) a w o := by
        intro es' c' hk' hlk hrun
        have hne : ∀ k, k ≠ b → (w.heap.setIfInBounds b (.map es' c'))[k]? = w.heap[k]? := fun k hk => by rw [Array.getElem?_setIfInBounds]; simp [Ne.symm hk]
        have heq : (w.heap.setIfInBounds b (.map es' c'))[b]? = some (.map es' c') := by rw [Array.getElem?_setIfInBounds]; simp [hblt]
        refine does_skip (ι' := ι) (Fr' := Fr) hd hrun ?_ rfl
        refine h.setOwn (w' := { w with heap := w.heap.setIfInBounds b (.map es' c') }) hl hi' rfl rfl rfl (by simp) hne (fun k e hk => ?_) ⟨es', c', heq, hk', fun k => ?_⟩
        · unfold World.shape? at hk ⊢
          by_cases e2 : k = b
          · subst e2
            rw [hhp] at hk
            simp at hk
          · rw [show ({ w with heap := w.heap.setIfInBounds b (.map es' c') } : World).heap[k]? = w.heap[k]? from hne k e2]
            exact hk
        · rw [hlk k]
          by_cases e2 : k = n
          · subst e2
            simp only [if_true, setF]
            exact ⟨trivial, hvp.mono fun b hb => hb.elim⟩
          · simp only [e2, if_false, setF]
            have := hr k
            split at this
            · exact ⟨this.1, this.2.mono fun b hb => hb.elim⟩
            · exact this
      cases hat : at_ es.toList n 0 with
      | some p =>
        obtain ⟨ix, y⟩ := p
        rw [hat] at hfind
        obtain ⟨m', j1, j2, j3, j4⟩ := look_modify (v := a.eval v) hks hat
        have j1' : ix = m' := by omega
        subst j1'
        have hkk : ((es[ix]?).map (·.key)).getD (.int .i64 n) = .int .i64 n := by
          have hlt : ix < es.size := by simpa using j2
          have : es.toList.getD ix default = es[ix] := by simp [List.getD, hlt]
          rw [this] at j3
          simp [hlt, j3]
        refine fin (es.modify ix fun e => { e with key := .int .i64 n, val := a.eval v }) cl (fun e he => ?_) (fun k => ?_) ?_
        · rw [Array.toList_modify] at he
          obtain ⟨j, hj, rfl⟩ := List.getElem_of_mem he
          rw [List.getElem_modify]
          split
          · exact ⟨n, rfl⟩
          · exact hks _ (List.getElem_mem _)
        · rw [← j4 k]
          congr 1
          simp
        · unfold execOp
          rw [hop]
          refine run_u ?_
          rw [ex, e1]
          unfold Instr.mapUpdate
          simp only [hu, hget, hck, hfind, hkk, Instr.keyThatStays, Instr.sameBits, Sem.run_bind, Sem.run_pure, Result.andThen_ok]
          simp [run_setMap hhp]
      | none =>
        rw [hat] at hfind
        have hno := look_none hks hat
        refine fin (es.push { key := .int .i64 n, val := a.eval v, born := cl }) (cl + 1) (fun e he => ?_) (fun k => ?_) ?_
        · rw [Array.toList_push, List.mem_append] at he
          rcases he with he | he
          · exact hks e he
          · have : e = { key := .int .i64 n, val := a.eval v, born := cl } := by simpa using he
            rw [this]
            exact ⟨n, rfl⟩
        · rw [Array.toList_push]
          exact look_push rfl hno hks k
        · unfold execOp
          rw [hop]
          refine run_u ?_
          rw [ex, e1]
          unfold Instr.mapUpdate
          simp only [hu, hget, hck, hfind, Sem.run_bind, Sem.run_pure, Result.andThen_ok]
          simp [run_setMap hhp]
    · simp at he
  · simp at he
end

end Go.Av
