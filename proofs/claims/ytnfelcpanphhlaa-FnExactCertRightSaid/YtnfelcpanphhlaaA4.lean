/- Operations that make memory or write it: new variables, stores, rows written out, made, appended to. -/
import Derived.Test.YtnfelcpanphhlaaA3d
namespace Go.Av

theorem getD_map {f : V → V} {cs : List V} {j : Nat} (hj : j < cs.length) : (cs.map f).getD j .undef = f (cs.getD j .undef) := by
  simp [List.getD, hj]

theorem cells_map_frz (S : List (Nat × Blk)) (te : Nat) (x : V) : (frz S te x).cells = match x with
    | .agg cs => cs.map (frzA S te)
    | v => (frzA S te v).cells := by
  cases x <;> rfl

theorem frzA_cells (S : List (Nat × Blk)) (te : Nat) (v : V) : (frzA S te v).cells = [frzA S te v] := by
  cases v <;> simp only [frzA] <;> first | rfl | skip
  split
  · split <;> rfl
  · rfl

theorem all_of_getD {p : V → Bool} {cs : List V} (h : ∀ j, j < cs.length → p (cs.getD j .undef) = true) : cs.all p = true := by
  rw [List.all_eq_true]
  intro x hx
  obtain ⟨j, hj, rfl⟩ := List.mem_iff_getElem.1 hx
  have := h j hj
  simpa [List.getD, hj] using this

/-- What a row takes in, cell by cell. -/
def fitA (te : Nat) (c : V) : Bool := match tagOfA c with
  | some t => (Nat.beq t te && !(Nat.beq t tagS)) || Nat.beq te 0 || (Nat.ble 2 te && Nat.ble 2 t && !(Nat.beq te tagS))
  | none => match c with
    | .fn _ _ => false
    | .osl _ _ => false
    | .oref _ _ _ => false
    | _ => true

theorem fits_iff {te : Nat} {v : V} (h : fits te v = true) : solid v = true ∧ ∀ j, j < v.cells.length → fitA te (v.cells.getD j .undef) = true := by
  unfold fits at h
  rw [Bool.and_eq_true] at h
  exact ⟨h.1, fun j hj => all_getD (p := fitA te) h.2 hj⟩

theorem frzA_rep {g : G} {s : AS} {a : Act} {w : World} {ι : Iota} {Fr : Nat → Nat → Prop} (h : Rel g s a w ι Fr) {te : Nat} {ids : List Nat} {c : V} {v : Value}
    (hc : TRep w Fr ι c v) (hid : ∀ id ∈ c.ids, id ∈ ids) (hf : fitA te (frzA s.S te c) = true) (hs : solidA (frzA s.S te c) = true) :
    PRep w (FrK Fr s.S ι ids te te) (frzA s.S te c) v := by
  cases hc with
  | osl hi hn hcap hsh hcs =>
    rename_i id n b sz m cap cz e
    simp only [frzA] at hf hs ⊢
    split at hs
    · rename_i sz' m' f te' hl h64
      split at hs
      · rename_i h1 h2
        have hnm := natBeq.1 h2
        subst hnm
        obtain ⟨rfl, rfl, cells, e', hh, hsz, hlen, hr⟩ := (h.own id _ b sz m hl hi).1
        refine .sl (sz := sz') (off := 0) (fun i j => cells.getD (i * sz' + j) Go.undef) (.inr (.inl ⟨.inl rfl, id, hid id (by simp [V.ids]), _, _, hl, hi, rfl⟩)) hcap hlen (fun i j hin hj => ?_) (fun i j hin hj => ?_)
        · have hmul : i * sz' + sz' ≤ cells.size := by
            have h1 : i * sz' + sz' = (i + 1) * sz' := by rw [Nat.add_mul, Nat.one_mul]
            have h2 : (i + 1) * sz' ≤ n * sz' := Nat.mul_le_mul_right _ hin
            omega
          rw [Nat.zero_add]; exact cell_of hh (by omega)
        · refine (hr i j hin hj).weaken fun b' hb' => ?_
          simp only [Bool.or_eq_true, Bool.and_eq_true, Bool.not_eq_true', natBeq, natBeqF] at h1
          rcases h1 with ((rfl | rfl) | rfl) | ⟨⟨h5, h6⟩, h7⟩
          · exact .inl hb'
          · exact absurd hb' (h.frS b')
          · exact .inl (h.fr0 _ _ hb')
          · exact .inr (.inr ⟨rfl, Nat.le_of_ble_eq_true h6, h7, _, Nat.le_of_ble_eq_true h5, hb'⟩)
      · simp [solidA] at hs
    · simp [solidA] at hs
  | osl0 x hi =>
    rename_i id
    simp only [frzA] at hf hs ⊢
    split at hs
    · rename_i sz' m' f te' hl h64
      split at hs
      · rename_i h1 h2
        exact .sl0 _ _ _ _
      · simp [solidA] at hs
    · simp [solidA] at hs
  | oref => simp [frzA, solidA] at hs
  | agg => simp [frzA, solidA] at hs
  | tup => simp [frzA, solidA] at hs
  | fn => simp [frzA, solidA] at hs
  | cnd => simp [frzA, solidA] at hs
  | atom hv hp =>
    have he : frzA s.S te c = c := by cases c <;> first | rfl | (simp [isP] at hv; done)
    rw [he] at hf ⊢
    refine hp.weaken fun b' hb' => ?_
    unfold fitA at hf
    unfold tagD at hb'
    cases ht : tagOfA c with
    | none => rw [ht] at hb'; exact absurd hb' (h.frS b')
    | some t =>
      rw [ht] at hf hb'
      simp only [Bool.or_eq_true, Bool.and_eq_true, Bool.not_eq_true', natBeq, natBeqF] at hf
      rcases hf with (⟨rfl, _⟩ | rfl) | ⟨⟨h5, h6⟩, h7⟩
      · exact .inl hb'
      · exact .inl (h.fr0 _ _ hb')
      · exact .inr (.inr ⟨rfl, Nat.le_of_ble_eq_true h5, h7, _, Nat.le_of_ble_eq_true h6, hb'⟩)

theorem ids_cells {x : V} (hx : ∃ cs, x = .agg cs) : ∀ j, j < x.cells.length → ∀ id ∈ (x.cells.getD j .undef).ids, id ∈ x.ids := by
  obtain ⟨cs, rfl⟩ := hx
  simp only [V.cells, V.ids]
  intro j hj id hid
  induction cs generalizing j with
  | nil => simp at hj
  | cons c cs ih =>
    simp only [V.idsL, List.mem_append]
    cases j with
    | zero => left; simpa using hid
    | succ j => right; exact ih j (by simpa using hj) (by simpa using hid)

/-- A value goes into a row: its own blocks are given up; what stands there then is told by its cells. -/
theorem frz_rep {g : G} {s : AS} {a : Act} {w : World} {ι : Iota} {Fr : Nat → Nat → Prop} (h : Rel g s a w ι Fr) {te : Nat} {ids : List Nat} {x : V} {v : Value}
    (hx : TRep w Fr ι x v) (hid : ∀ id ∈ x.ids, id ∈ ids) (hf : fits te (frz s.S te x) = true) :
    v.cells.size = (frz s.S te x).cells.length ∧ (frz s.S te x).cells.length = x.cells.length ∧ (∀ j, j < v.cells.size → one (v.cells.getD j Go.undef) = true) ∧
      ∀ j, j < (frz s.S te x).cells.length → PRep w (FrK Fr s.S ι ids te te) ((frz s.S te x).cells.getD j .undef) (v.cells.getD j Go.undef) := by
  obtain ⟨hsol, hfit⟩ := fits_iff hf
  by_cases hag : ∃ cs, x = .agg cs
  · have hids := ids_cells hag
    obtain ⟨cs, rfl⟩ := hag
    obtain ⟨arr, rfl, hsz, hr⟩ := inv_agg hx
    simp only [frz, V.cells, List.length_map] at hfit hids ⊢
    have hsa : ∀ j, j < cs.length → solidA (frzA s.S te (cs.getD j .undef)) = true := by
      intro j hj
      have := all_getD (cs := cs.map (frzA s.S te)) hsol (j := j) (by simpa using hj)
      rwa [getD_map hj] at this
    have key : ∀ j, j < cs.length → PRep w (FrK Fr s.S ι ids te te) (frzA s.S te (cs.getD j .undef)) (arr.getD j Go.undef) := by
      intro j hj
      have h2 := hfit j hj
      rw [getD_map hj] at h2
      exact frzA_rep h (hr j hj) (fun id hi => hid id (hids j hj id hi)) h2 (hsa j hj)
    refine ⟨hsz, trivial, fun j hj => ?_, fun j hj => ?_⟩
    · have hj' : j < cs.length := by simpa [Value.cells, hsz] using hj
      have := (TRep.atom (Fr := fun _ => FrK Fr s.S ι ids te te) (ι := ι) (by
        have := hsa j hj'
        cases hfz : frzA s.S te (cs.getD j .undef) <;> first | rfl | (rw [hfz] at this; simp [solidA] at this; done) | skip
        all_goals
          exfalso
          have h2 := hfit j hj'
          rw [getD_map hj', hfz] at h2
          simp [fitA, tagOfA] at h2) (key j hj')).one (hsa j hj')
      exact this
    · rw [getD_map hj]; exact key j hj
  · have hfz : (frz s.S te x) = frzA s.S te x := by
      cases x <;> first | rfl | exact absurd ⟨_, rfl⟩ hag
    have hc1 := frzA_cells s.S te x
    rw [hfz] at hsol hfit ⊢
    rw [hc1] at hfit ⊢
    have hsa : solidA (frzA s.S te x) = true := by
      cases hy : frzA s.S te x <;> first | (rw [hy] at hsol; exact hsol) | skip
      rename_i cs
      rw [hy] at hc1
      simp only [V.cells] at hc1
      have : (V.agg cs) = V.undef := by
        exfalso
        cases x <;> simp only [frzA] at hy <;> first | cases hy | skip
        split at hy
        · split at hy <;> cases hy
        · cases hy
      cases this
    have hp := frzA_rep h hx hid (by simpa using hfit 0 (by simp)) hsa
    have hxc : x.cells = [x] := by
      cases x <;> first | rfl | exact absurd ⟨_, rfl⟩ hag
    have hone : one v = true := by
      refine hx.one ?_
      cases x <;> first | rfl | (simp [frzA, solidA] at hsa; done)
    rw [one_cells hone, hxc]
    refine ⟨by simp, by simp, fun j hj => ?_, fun j hj => ?_⟩
    · have : j = 0 := by simpa using hj
      subst this; simpa using hone
    · have : j = 0 := by simpa using hj
      subst this; simpa using hp

/-! ### Cells written one behind the other -/
def writeArr : Array Value → Nat → List Value → Array Value
  | arr, _, [] => arr
  | arr, o, v :: r => writeArr (arr.setIfInBounds o v) (o + 1) r

theorem writeArr_size : ∀ (l : List Value) (arr : Array Value) (o : Nat), (writeArr arr o l).size = arr.size
  | [], _, _ => rfl
  | v :: r, arr, o => by rw [writeArr, writeArr_size r]; simp

theorem writeArr_getD : ∀ (l : List Value) (arr : Array Value) (o j : Nat), o + l.length ≤ arr.size →
    (writeArr arr o l).getD j Go.undef = if o ≤ j ∧ j < o + l.length then l.getD (j - o) Go.undef else arr.getD j Go.undef
  | [], arr, o, j, _ => by
    have : ¬ (o ≤ j ∧ j < o + ([] : List Value).length) := by simp
    rw [if_neg this]; rfl
  | v :: r, arr, o, j, h => by
    simp only [List.length_cons] at h
    rw [writeArr, writeArr_getD r _ _ _ (by simp; omega), getD_set _ _ _ _ _ (by omega)]
    by_cases h1 : j = o
    · subst h1
      have e1 : ¬ (j + 1 ≤ j ∧ j < j + 1 + r.length) := by omega
      have e2 : j ≤ j ∧ j < j + (v :: r).length := by simp
      rw [if_neg e1, if_pos rfl, if_pos e2]; simp
    · by_cases h2 : o + 1 ≤ j ∧ j < o + 1 + r.length
      · have e2 : o ≤ j ∧ j < o + (v :: r).length := by simp only [List.length_cons]; omega
        rw [if_pos h2, if_pos e2]
        have : j - o = (j - (o + 1)) + 1 := by omega
        rw [this]; simp
      · have e2 : ¬ (o ≤ j ∧ j < o + (v :: r).length) := by simp only [List.length_cons]; omega
        rw [if_neg h2, if_neg e2, if_neg h1]

theorem setAt_length : ∀ (cs : List V) (off : Nat) (xs : List V), (setAt cs off xs).length = cs.length
  | [], _, _ => by simp [setAt]
  | _ :: _, 0, [] => rfl
  | _ :: cs, 0, _ :: xs => by simp [setAt, setAt_length cs]
  | _ :: cs, off + 1, xs => by simp [setAt, setAt_length cs]

theorem setAt_getD : ∀ (cs : List V) (off : Nat) (xs : List V) (j : Nat), off + xs.length ≤ cs.length →
    (setAt cs off xs).getD j .undef = if off ≤ j ∧ j < off + xs.length then xs.getD (j - off) .undef else cs.getD j .undef
  | [], off, xs, j, h => by
    have : ¬ (off ≤ j ∧ j < off + xs.length) := by simp only [List.length_nil] at h; omega
    rw [if_neg this]; rfl
  | c :: cs, 0, [], j, _ => by
    have : ¬ (0 ≤ j ∧ j < 0 + ([] : List V).length) := by simp
    rw [if_neg this]; rfl
  | c :: cs, 0, x :: xs, j, h => by
    simp only [List.length_cons] at h
    rw [setAt]
    cases j with
    | zero => simp
    | succ j =>
      have ih := setAt_getD cs 0 xs j (by omega)
      simp only [List.getD_cons_succ, ih]
      by_cases h2 : j < xs.length
      · rw [if_pos (by omega), if_pos (by simp; omega)]; simp
      · rw [if_neg (by omega), if_neg (by simp; omega)]
  | c :: cs, off + 1, xs, j, h => by
    simp only [List.length_cons] at h
    rw [setAt]
    cases j with
    | zero => rw [if_neg (by omega)]; simp
    | succ j =>
      have ih := setAt_getD cs off xs j (by omega)
      simp only [List.getD_cons_succ, ih]
      by_cases h2 : off ≤ j ∧ j < off + xs.length
      · rw [if_pos h2, if_pos (by omega)]; congr 1; omega
      · rw [if_neg h2, if_neg (by omega)]

section
variable {P : Program}

/-- The world in which the cells of one block are these. -/
def withCells (w : World) (b : Nat) (arr : Array Value) (e : TypeId) : World := { w with heap := w.heap.setIfInBounds b (.cells arr e (0, 0)) }

theorem setCell_withCells {w : World} {b o : Nat} {arr : Array Value} {e : TypeId} {v : Value} (h : w.heap[b]? = some (.cells arr e (0, 0))) :
    w.setCell ⟨b, o, none⟩ v = withCells w b (arr.setIfInBounds o v) e := by
  have hb : b < w.heap.size := by
    rcases Nat.lt_or_ge b w.heap.size with h' | h'
    · exact h'
    · simp [Array.getElem?_eq_none h'] at h
  unfold World.setCell withCells
  congr 1
  apply Array.ext_getElem?
  intro k
  rw [Array.getElem?_modify, Array.getElem?_setIfInBounds]
  by_cases hk : b = k
  · subst hk
    have hg : w.heap[b] = .cells arr e (0, 0) := by
      rw [Array.getElem?_eq_getElem hb] at h
      exact Option.some.inj h
    simp [hb, hg]
  · simp [hk]

theorem withCells_get {w : World} {b : Nat} {arr : Array Value} {e : TypeId} (hb : b < w.heap.size) : (withCells w b arr e).heap[b]? = some (.cells arr e (0, 0)) := by
  simp [withCells, hb]

theorem withCells_ne {w : World} {b k : Nat} {arr : Array Value} {e : TypeId} (hk : k ≠ b) : (withCells w b arr e).heap[k]? = w.heap[k]? := by
  have : b ≠ k := fun h => hk h.symm
  simp [withCells, Array.getElem?_setIfInBounds_ne this]

theorem withCells_with (w : World) (b : Nat) (arr arr' : Array Value) (e e' : TypeId) : withCells (withCells w b arr e) b arr' e' = withCells w b arr' e' := by
  simp [withCells]

theorem withCells_size {w : World} {b : Nat} {arr : Array Value} {e : TypeId} : (withCells w b arr e).heap.size = w.heap.size := by simp [withCells]

theorem run_storeCells {b : Nat} {e : TypeId} : ∀ (l : List Value) (w : World) (arr : Array Value) (o i : Nat), w.heap[b]? = some (.cells arr e (0, 0)) → o + i + l.length ≤ arr.size →
    (∀ v ∈ l, one v = true) → (storeCells ⟨b, o, none⟩ l i).run P w = .ok () (if l = [] then w else withCells w b (writeArr arr (o + i) l) e)
  | [], w, arr, o, i, _, _, _ => by simp [storeCells]
  | v :: r, w, arr, o, i, h, hsz, hone => by
    have hb : b < w.heap.size := by
      rcases Nat.lt_or_ge b w.heap.size with h' | h'
      · exact h'
      · simp [Array.getElem?_eq_none h'] at h
    simp only [List.length_cons] at hsz
    have hv : v.oneCell' = true := by
      have := hone v (List.mem_cons_self ..)
      cases v <;> first | rfl | (simp [one] at this; done)
    have hc := cell_of h (k := o + i) (by omega)
    have hfz : w.frozen? ⟨b, o + i, none⟩ = false := by simp [World.frozen?, h]
    have h1 : (store ((⟨b, o, none⟩ : Addr).add i) v).run P w = .ok () (withCells w b (arr.setIfInBounds (o + i) v) e) := by
      rw [add_none, run_store P w _ v .plain hv, hc]
      simp only [hfz, Bool.false_eq_true, if_false]
      rw [setCell_withCells h]
    have ih := run_storeCells r (withCells w b (arr.setIfInBounds (o + i) v) e) (arr.setIfInBounds (o + i) v) o (i + 1) (withCells_get hb) (by simp; omega) (fun v hv => hone v (List.mem_cons_of_mem _ hv))
    rw [storeCells, Sem.run_bind, h1]
    simp only [Result.andThen_ok, ih]
    congr 1
    simp only [reduceCtorEq, if_false, writeArr, withCells_with]
    split
    · rename_i hr; subst hr; simp [writeArr]
    · congr 1

theorem shape_with {w : World} {b k : Nat} {arr arr' : Array Value} {e : TypeId} {f : Nat × Nat} {s : TypeId × Nat} (h : w.heap[b]? = some (.cells arr e f)) (hs : arr'.size = arr.size)
    (hk : w.shape? k = some s) : (withCells w b arr' e).shape? k = some s := by
  have hb : b < w.heap.size := by
    rcases Nat.lt_or_ge b w.heap.size with h' | h'
    · exact h'
    · simp [Array.getElem?_eq_none h'] at h
  unfold World.shape? at hk ⊢
  by_cases e1 : k = b
  · subst e1
    rw [withCells_get hb]
    rw [h] at hk
    simpa [hs] using hk
  · rw [withCells_ne e1]; exact hk

end
end Go.Av
