/- New blocks and stores, by the machine and by the abstract effect. -/
import Derived.Test.YtnfelcpanphhlaaA4
namespace Go.Av

theorem fresh_aval {s : AS} {id : Nat} (h : FreshId s id) (x : Operand) : V.ment (fun k => Nat.beq k id) (strip (aval s x)) = false := by
  have key : V.ment (fun k => Nat.beq k id) (aval s x) = false := by
    cases x with
    | tmp t =>
      simp only [aval]
      cases hl : lk s.T t with
      | some v => exact h.T t v hl
      | none => rfl
    | const v =>
      simp only [aval]
      unfold ofConst
      have hcell : ∀ v, V.ment (fun k => Nat.beq k id) (ofCell v) = false := by
        intro v
        unfold ofCell
        split <;> rfl
      split
      · rename_i cs
        simp only [V.ment]
        induction cs.toList with
        | nil => rfl
        | cons c l ih => simp only [List.map, V.mentL, hcell, Bool.false_or]; exact ih
      · rfl
      · exact hcell _
    | global n => rfl
    | func f => rfl
  cases hv : aval s x with
  | cnd c v => rw [hv] at key; exact key
  | _ => rw [hv] at key; exact key

theorem mentL_cells {p : Nat → Bool} {v : V} (h : V.ment p v = false) : V.mentL p v.cells = false := by
  cases v with
  | agg cs => exact h
  | _ => simp only [V.cells, V.mentL, h, Bool.false_or]

/-- A new block of cells. -/
theorem Rel.newBlk {g : G} {s : AS} {a : Act} {w : World} {ι : Iota} {Fr : Nat → Nat → Prop} (h : Rel g s a w ι Fr) {id : Nat} (hf : FreshId s id) {arr : Array Value} {e : TypeId} {sz m : Nat} {blk : Blk}
    (hown : ∀ w' : World, w'.heap[w.heap.size]? = some (.cells arr e (0, 0)) → (∀ b, b < w.heap.size → w'.heap[b]? = w.heap[b]?) → (∀ b x, w.shape? b = some x → w'.shape? b = some x) →
      OwnB w' Fr (updI ι id (some (w.heap.size, sz, m))) w.heap.size sz m blk) :
    Rel g { s with S := Go.Av.put s.S id blk } a (w.alloc (.cells arr e (0, 0))) (updI ι id (some (w.heap.size, sz, m))) Fr := by
  have hb : ∀ b, b < w.heap.size → (w.alloc (.cells arr e (0, 0))).heap[b]? = w.heap[b]? := fun b hb => Go.RowKit.Below.heap_alloc _ _ _ hb
  have hsh : ∀ b x, w.shape? b = some x → (w.alloc (.cells arr e (0, 0))).shape? b = some x := by
    intro b x hx
    have hlt : b < w.heap.size := by
      rcases Nat.lt_or_ge b w.heap.size with h' | h'
      · exact h'
      · simp [World.shape?, Array.getElem?_eq_none h'] at hx
    unfold World.shape? at hx ⊢
    rw [hb b hlt]; exact hx
  have h1 := h.grow (w' := w.alloc (.cells arr e (0, 0))) rfl rfl rfl (by simp) hb
  refine h1.addBlk hf (hown _ (heap_alloc_new w _) hb hsh) h.hsize (fun t ht => ?_) (fun k c r hl hi e1 => ?_)
  · have := (h.fr t _ ht).1; omega
  · obtain ⟨b, sz', m'⟩ := r
    have := (h.own k c b sz' m' hl hi).1.lt
    simp only at e1; omega

/-- An operation that yields a value and has turned memory. -/
theorem does_mem {P : Program} {g : G} {s : AS} {a : Act} {w w' : World} {ι' : Iota} {Fr' : Nat → Nat → Prop} {o : Oper} {e : Ef} {x : Value}
    (hd : dstOk g.nt o = true) (hr : (execOp a.eval o).run P w = .ok (.value x) w') (h : Rel g { s with S := applyUpd s.S e.upd } a w' ι' Fr') (hv : TRep w' Fr' ι' e.v x) :
    Does P g (s.app o.dst e) a w o := by
  intro next Q hn
  unfold Oper.wp
  rw [hr]
  simp only [Oper.upon]
  unfold AS.app at hn
  cases hdst : o.dst with
  | none => rw [hdst] at hn; exact hn _ _ ι' Fr' h
  | some d =>
    rw [hdst] at hn
    have hlt : d < g.nt := by
      unfold dstOk at hd
      rw [hdst] at hd
      exact Nat.le_of_ble_eq_true hd
    exact hn _ _ ι' Fr' (h.put hlt hv)

/-- The same for one that yields nothing. -/
theorem does_skip {P : Program} {g : G} {s : AS} {a : Act} {w w' : World} {ι' : Iota} {Fr' : Nat → Nat → Prop} {o : Oper} {e : Ef}
    (hd : dstOk g.nt o = true) (hr : (execOp a.eval o).run P w = .ok .skip w') (h : Rel g { s with S := applyUpd s.S e.upd } a w' ι' Fr') (hv : e.v = .undef) :
    Does P g (s.app o.dst e) a w o := by
  intro next Q hn
  unfold Oper.wp
  rw [hr]
  simp only [Oper.upon]
  unfold AS.app at hn
  cases hdst : o.dst with
  | none => rw [hdst] at hn; exact hn _ _ ι' Fr' h
  | some d =>
    rw [hdst] at hn
    have hlt : d < g.nt := by
      unfold dstOk at hd
      rw [hdst] at hd
      exact Nat.le_of_ble_eq_true hd
    exact hn _ _ ι' Fr' (h.put hlt (by rw [hv]; exact .atom rfl (.undef _)))

section
variable {P : Program} {tt : TT} (hT : TabOk P tt)

theorem run_newVar (t : TypeId) (v : Value) (w : World) : (newVar t v).run P w = .ok ⟨w.heap.size, 0, none⟩ (w.alloc (.cells v.cells t (0, 0))) := by
  unfold newVar newRow
  simp

/-- A variable of its own, made of the cells of a value. -/
theorem box_rel {g : G} {s : AS} {a : Act} {w : World} {ι : Iota} {Fr : Nat → Nat → Prop} (h : Rel g s a w ι Fr) {id : Nat} (hf : FreshId s id) {cs : List V} {arr : Array Value} (t : TypeId)
    (hs : arr.size = cs.length) (hr : ∀ j, j < cs.length → TRep w Fr ι (cs.getD j .undef) (arr.getD j Go.undef)) (hm : V.mentL (fun k => Nat.beq k id) cs = false) :
    Rel g { s with S := put s.S id (.box cs) } a (w.alloc (.cells arr t (0, 0))) (updI ι id (some (w.heap.size, 1, 1))) Fr ∧
      TRep (w.alloc (.cells arr t (0, 0))) Fr (updI ι id (some (w.heap.size, 1, 1))) (.oref id 0 0) (.pointer (some ⟨w.heap.size, 0, none⟩)) := by
  refine ⟨h.newBlk (blk := .box cs) (sz := 1) (m := 1) hf fun w' hw hb hsh => ?_, ?_⟩
  · refine ⟨arr, t, hw, hs, fun j hj => ?_⟩
    exact (hr j hj).mono (p := fun k => Nat.beq k id) (fun t b hb' => ⟨hb', hb b (h.fr t b hb').1⟩) (fun k hk => updI_ne hk) (mentL_getD hm hj) (fun _ r e _ _ hs => hsh _ _ hs)
  · have := TRep.oref (w := w.alloc (.cells arr t (0, 0))) (Fr := Fr) (ι := updI ι id (some (w.heap.size, 1, 1))) (id := id) (i := 0) (off := 0) (b := w.heap.size) (sz := 1) (m := 1) (by simp [updI]) (by omega)
    simpa using this

include hT in
theorem does_alloc {g : G} {s : AS} {a : Act} {w : World} {ι : Iota} {Fr : Nat → Nat → Prop} (h : Rel g s a w ι Fr) {o : Oper} {el : TypeId} {ti : TI} (hop : o.op = .alloc el) (hl : lk tt el = some ti)
    {id : Nat} (hf : FreshId s id) (hd : dstOk g.nt o = true) : Does P g (s.app o.dst ⟨.oref id 0 0, [(id, some (.box ti.zero.cells))], [], []⟩) a w o := by
  obtain ⟨z, hz, hzr, hzc, hzs, _⟩ := run_zero hT hl w
  have hcells : z.cells.size = ti.zero.cells.length ∧ ∀ j, j < ti.zero.cells.length → TRep w Fr ι (ti.zero.cells.getD j .undef) (z.cells.getD j Go.undef) := by
    refine ⟨by rw [hzs, hzc], fun j hj => ?_⟩
    by_cases hag : ∃ cs, ti.zero = .agg cs
    · obtain ⟨cs, hcs⟩ := hag
      rw [hcs] at hzr hj ⊢
      cases hzr with
      | agg arr h1 h2 => exact TRep.ofP (h2 j hj)
    · have hc : ti.zero.cells = [ti.zero] := by
        cases hv : ti.zero <;> first | rfl | exact absurd ⟨_, hv⟩ hag
      rw [hc] at hj hzc ⊢
      have hj0 : j = 0 := by simpa using hj
      subst hj0
      have h1 : z.cells.size = 1 := by rw [hzs, ← hzc]; rfl
      have : z.cells.getD 0 Go.undef = z ∨ ti.zero = .undef := by
        cases hzv : z with
        | agg cs => right; rw [hzv] at hzr; cases hv : ti.zero <;> rw [hv] at hzr <;> first | rfl | (exfalso; cases hzr; done) | skip
                    exact absurd ⟨_, hv⟩ hag
        | _ => left; rfl
      rcases this with h2 | h2
      · rw [h2]; exact TRep.ofP hzr
      · rw [h2]; exact .atom rfl (.undef _)
  have hm : V.mentL (fun k => Nat.beq k id) ti.zero.cells = false := by
    have hno : ∀ {v : V} {x : Value}, PRep w (fun _ => False) v x → ∀ p, V.ment p v = false := by
      intro v x hp p
      induction hp with
      | @agg cs arr hs _ ih =>
        simp only [V.ment]
        have : ∀ (l : List V), (∀ j, j < l.length → V.ment p (l.getD j .undef) = false) → V.mentL p l = false := by
          intro l
          induction l with
          | nil => intro _; rfl
          | cons c l ih => intro h; simp only [V.mentL, Bool.or_eq_false_iff]; exact ⟨by simpa using h 0 (by simp), ih fun j hj => by simpa using h (j + 1) (by simpa using hj)⟩
        exact this cs ih
      | @tup cs arr hs _ ih =>
        simp only [V.ment]
        have : ∀ (l : List V), (∀ j, j < l.length → V.ment p (l.getD j .undef) = false) → V.mentL p l = false := by
          intro l
          induction l with
          | nil => intro _; rfl
          | cons c l ih => intro h; simp only [V.mentL, Bool.or_eq_false_iff]; exact ⟨by simpa using h 0 (by simp), ih fun j hj => by simpa using h (j + 1) (by simpa using hj)⟩
        exact this cs ih
      | @fn _ cs arr hs _ ih =>
        simp only [V.ment]
        have : ∀ (l : List V), (∀ j, j < l.length → V.ment p (l.getD j .undef) = false) → V.mentL p l = false := by
          intro l
          induction l with
          | nil => intro _; rfl
          | cons c l ih => intro h; simp only [V.mentL, Bool.or_eq_false_iff]; exact ⟨by simpa using h 0 (by simp), ih fun j hj => by simpa using h (j + 1) (by simpa using hj)⟩
        exact this cs ih
      | _ => rfl
    exact mentL_cells (hno hzr _)
  obtain ⟨h1, h2⟩ := box_rel h hf el hcells.1 hcells.2 hm
  refine does_mem (x := .pointer (some ⟨w.heap.size, 0, none⟩)) hd ?_ h1 h2
  unfold execOp
  rw [hop]
  refine run_v ?_
  unfold Instr.alloc
  simp [hz, run_newVar]

theorem does_box {g : G} {s : AS} {a : Act} {w : World} {ι : Iota} {Fr : Nat → Nat → Prop} (h : Rel g s a w ι Fr) {o : Oper} {el : TypeId} {x : Operand} (hop : o.op = .box el x)
    (hx : TRep w Fr ι (strip (aval s x)) (a.eval x)) (hs : solid (strip (aval s x)) = true)
    {id : Nat} (hf : FreshId s id) (hd : dstOk g.nt o = true) : Does P g (s.app o.dst ⟨.oref id 0 0, [(id, some (.box (strip (aval s x)).cells))], [], []⟩) a w o := by
  obtain ⟨h1, h2⟩ := hx.cells hs
  obtain ⟨h3, h4⟩ := box_rel h hf el h1 (fun j hj => (h2 j hj).1) (mentL_cells (fresh_aval hf x))
  refine does_mem (x := .pointer (some ⟨w.heap.size, 0, none⟩)) hd ?_ h3 h4
  unfold execOp
  rw [hop]
  refine run_v ?_
  unfold Instr.box
  simp [run_newVar]

theorem writeV_some {cs cs' : List V} {off : Nat} {xs : List V} (h : writeV cs off xs = some cs') : off + xs.length ≤ cs.length ∧ cs' = setAt cs off xs := by
  unfold writeV at h
  split at h
  · rename_i hb
    exact ⟨Nat.le_of_ble_eq_true hb, by simpa using h.symm⟩
  · simp at h

include hT in
theorem run_storeVar {t : Nat} {ti : TI} (hl : lk tt t = some ti) {w : World} {b o : Nat} {arr : Array Value} {e : TypeId} {v : Value} (hb : w.heap[b]? = some (.cells arr e (0, 0)))
    (hsz : v.cells.size = ti.size) (hle : o + ti.size ≤ arr.size) (hone : ∀ j, j < v.cells.size → one (v.cells.getD j Go.undef) = true) :
    (Instr.storeAt t (.pointer (some ⟨b, o, none⟩)) v).run P w = .ok () (if v.cells.toList = [] then w else withCells w b (writeArr arr o v.cells.toList) e) := by
  unfold Instr.storeAt Instr.sureAddr storeVar
  have h1 : ∀ x ∈ v.cells.toList, one x = true := by
    intro x hx
    obtain ⟨j, hj, rfl⟩ := List.mem_iff_getElem.1 hx
    have := hone j (by simpa using hj)
    simpa [show j < v.cells.size by simpa using hj] using this
  have := run_storeCells (P := P) v.cells.toList w arr o 0 hb (by simp; omega) h1
  simp only [Sem.run_bind, Sem.run_pure, Result.andThen_ok, run_size hT hl, hsz, ne_eq, not_true_eq_false, if_false, Nat.add_zero] at this ⊢
  exact this

end
end Go.Av
