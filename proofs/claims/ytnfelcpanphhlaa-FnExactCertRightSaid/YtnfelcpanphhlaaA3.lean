/- Operations that leave memory alone: what the machine does at them is what the abstract effect says. -/
import Derived.Test.YtnfelcpanphhlaaA2
import Derived.Orders
import Derived.Laws.Cells
namespace Go.Av

structure TabOk (P : Program) (tt : TT) : Prop where
  und : ∀ t ti, lk tt t = some ti → P.underlying t = some ti.desc
  cmp : ∀ t ti, lk tt t = some ti → ti.cmp = true → P.stoodInHeld t = false ∧ P.eqGuardType P.depth t = false ∧ ∀ fs, ti.desc = .struct fs → ∀ f ∈ fs.toList, f.name ≠ "_"
  info : ∀ t ti, lk tt t = some ti → ∃ i, P.info? t = some i ∧ i.size = ti.size ∧ i.bytes = ti.bytes ∧
    ∃ z, i.zero = some z ∧ (∀ w, PRep w (fun _ => False) ti.zero z) ∧ ti.zero.cells.length = ti.size ∧ z.cells.size = ti.size ∧ (isAggD ti.desc = true ↔ ∃ cs, ti.zero = .agg cs)

section
variable {P : Program} {tt : TT} (hT : TabOk P tt)

theorem run_underlying {t : Nat} {d : TypeDesc} (h : P.underlying t = some d) (w : World) : (underlying t).run P w = .ok d w := by
  simp [underlying, h]

include hT in
theorem run_und {t : Nat} {ti : TI} (h : lk tt t = some ti) (w : World) : (underlying t).run P w = .ok ti.desc w := run_underlying (hT.und t ti h) w

include hT in
theorem run_size {t : Nat} {ti : TI} (h : lk tt t = some ti) (w : World) : (sizeOf t).run P w = .ok ti.size w := by
  obtain ⟨i, hi, hs, _⟩ := hT.info t ti h
  simp [sizeOf, typeInfo, hi, hs]

include hT in
theorem run_bytes {t : Nat} {ti : TI} (h : lk tt t = some ti) (w : World) : ∃ i, (typeInfo t).run P w = .ok i w ∧ i.bytes = ti.bytes ∧ i.size = ti.size := by
  obtain ⟨i, hi, hs, hb, _⟩ := hT.info t ti h
  exact ⟨i, by simp [typeInfo, hi], hb, hs⟩

include hT in
theorem run_zero {t : Nat} {ti : TI} (h : lk tt t = some ti) (w : World) : ∃ z, (zeroValue t).run P w = .ok z w ∧ PRep w (fun _ => False) ti.zero z ∧ ti.zero.cells.length = ti.size ∧ z.cells.size = ti.size ∧ (isAggD ti.desc = true ↔ ∃ cs, ti.zero = .agg cs) := by
  obtain ⟨i, hi, _, _, z, hz, hr, hc, hzc, ha⟩ := hT.info t ti h
  exact ⟨z, by simp [zeroValue, typeInfo, hi, hz], hr w, hc, hzc, ha⟩

include hT in
theorem run_isAgg {t : Nat} {ti : TI} (h : lk tt t = some ti) (w : World) : (isAgg t).run P w = .ok (isAggD ti.desc) w := by
  unfold isAgg
  rw [Sem.run_bind, run_und hT h]
  simp only [Result.andThen_ok]
  cases ti.desc <;> rfl
end

/-! ### Values and their cells -/
theorem TRep.ofP {w : World} {Fr : Nat → Nat → Prop} {ι : Iota} {v : V} {x : Value} (h : PRep w (fun _ => False) v x) : TRep w Fr ι v x := by
  induction h with
  | int k n => exact .atom rfl (.int k n)
  | bool b => exact .atom rfl (.bool b)
  | str s => exact .atom rfl (.str s)
  | nil a => exact .atom rfl (.nil a)
  | sl0 a c g t => exact .atom rfl (.sl0 a c g t)
  | sl _ hA => exact hA.elim
  | ptr _ hA => exact hA.elim
  | agg arr hs _ ih => exact .agg arr hs ih
  | tup arr hs _ ih => exact .tup arr hs ih
  | fn arr hs _ ih => exact .fn arr hs ih
  | undef x => exact .atom rfl (.undef x)

/-- A value of one cell. -/
def one : Value → Bool
  | .agg _ => false
  | .tuple _ => false
  | _ => true

theorem one_cells {x : Value} (h : one x = true) : x.cells = #[x] := by
  cases x <;> first | rfl | simp [one] at h

theorem TRep.one {w : World} {Fr : Nat → Nat → Prop} {ι : Iota} {v : V} {x : Value} (h : TRep w Fr ι v x) (hs : solidA v = true) : Go.Av.one x = true := by
  cases h with
  | atom hv hp => cases hp <;> first | rfl | (simp [solidA] at hs; done)
  | osl => rfl
  | osl0 => rfl
  | oref => rfl
  | agg => simp [solidA] at hs
  | tup => simp [solidA] at hs
  | fn => rfl
  | cnd => simp [solidA] at hs

theorem all_getD {p : V → Bool} {cs : List V} {j : Nat} (h : cs.all p = true) (hj : j < cs.length) : p (cs.getD j .undef) = true := by
  rw [List.all_eq_true] at h
  have : cs.getD j .undef = cs[j] := by simp [List.getD, List.getElem?_eq_getElem hj]
  rw [this]; exact h _ (List.getElem_mem hj)

/-- A solid value's cells, one by one. -/
theorem TRep.cells {w : World} {Fr : Nat → Nat → Prop} {ι : Iota} {v : V} {x : Value} (h : TRep w Fr ι v x) (hs : solid v = true) :
    x.cells.size = v.cells.length ∧ ∀ j, j < v.cells.length → TRep w Fr ι (v.cells.getD j .undef) (x.cells.getD j Go.undef) ∧ solidA (v.cells.getD j .undef) = true := by
  by_cases hv : ∃ cs, v = .agg cs
  · obtain ⟨cs, rfl⟩ := hv
    cases h with
    | atom hv _ => simp [isP] at hv
    | agg arr h1 h2 =>
      refine ⟨h1, fun j hj => ⟨h2 j hj, ?_⟩⟩
      exact all_getD (cs := cs) hs hj
  · have hA : solidA v = true := by
      cases v <;> first | exact hs | exact absurd ⟨_, rfl⟩ hv
    have hc : v.cells = [v] := by
      cases v <;> first | rfl | exact absurd ⟨_, rfl⟩ hv
    rw [one_cells (h.one hA), hc]
    refine ⟨rfl, fun j hj => ?_⟩
    have hj0 : j = 0 := by simpa using hj
    subst hj0
    exact ⟨by simpa using h, by simpa using hA⟩

/-! ### Operands -/
theorem ofCell_rep {w : World} {Fr : Nat → Nat → Prop} {ι : Iota} (x : Value) : TRep w Fr ι (ofCell x) x := by
  unfold ofCell
  split
  · exact .atom rfl (.int _ _)
  · exact .atom rfl (.bool _)
  · exact .atom rfl (.str _)
  · exact .atom rfl (.nil _)
  · exact .atom rfl (.undef _)

theorem ofConst_rep {w : World} {Fr : Nat → Nat → Prop} {ι : Iota} (x : Value) : TRep w Fr ι (ofConst x) x := by
  unfold ofConst
  split
  · rename_i cs
    refine .agg cs (by simp) fun j hj => ?_
    have hj' : j < cs.size := by simpa using hj
    have : (List.map ofCell cs.toList).getD j .undef = ofCell (cs.getD j Go.undef) := by simp [hj']
    rw [this]; exact ofCell_rep _
  · exact .fn #[] rfl fun j hj => by simp at hj
  · exact ofCell_rep _

theorem aval_rep {g : G} {s : AS} {a : Act} {w : World} {ι : Iota} {Fr : Nat → Nat → Prop} (h : Rel g s a w ι Fr) (x : Operand) : TRep w Fr ι (aval s x) (a.eval x) := by
  cases x with
  | tmp t =>
    simp only [aval, Act.eval]
    cases hl : lk s.T t with
    | some v => exact h.tmp t v hl
    | none => exact .atom rfl (.undef _)
  | const v => exact ofConst_rep v
  | global n => exact .atom rfl (.undef _)
  | func f => exact .fn #[] rfl fun j hj => by simp at hj

theorem strip_rep {w : World} {Fr : Nat → Nat → Prop} {ι : Iota} {v : V} {x : Value} (h : TRep w Fr ι v x) (g : Bool) (hg : g = true) (ho : ∀ p ∈ stripO g v, p) : TRep w Fr ι (strip v) x := by
  cases v with
  | cnd c v =>
    cases h with
    | atom hv _ => simp [isP] at hv
    | cnd ht _ => exact ht (ho (g = true → c = true) (by simp [stripO]) hg)
  | _ => exact h

/-! ### What an operation does -/
/-- Whatever is wanted of the related state behind it holds behind the operation. -/
def Does (P : Program) (g : G) (s' : AS) (a : Act) (w : World) (o : Oper) : Prop :=
  ∀ (next : Act → World → Prop) (Q : Exit → Act → World → Prop), (∀ a' w' ι' Fr', Rel g s' a' w' ι' Fr' → next a' w') → o.wp P a w next Q

theorem app_nil {s : AS} {dst : Option Tmp} {v : V} {rd : List Nat} {ob : List Prop} :
    s.app dst ⟨v, [], rd, ob⟩ = match dst with
      | some d => { s with T := put s.T d v }
      | none => s := by
  cases dst <;> rfl

theorem does_value {P : Program} {g : G} {s : AS} {a : Act} {w : World} {ι : Iota} {Fr : Nat → Nat → Prop} {o : Oper} {v : V} {x : Value} {rd : List Nat} {ob : List Prop}
    (h : Rel g s a w ι Fr) (hd : dstOk g.nt o = true) (hr : (execOp a.eval o).run P w = .ok (.value x) w) (hv : TRep w Fr ι v x) :
    Does P g (s.app o.dst ⟨v, [], rd, ob⟩) a w o := by
  intro next Q hn
  unfold Oper.wp
  rw [hr]
  simp only [Oper.upon]
  rw [app_nil] at hn
  cases hdst : o.dst with
  | none => rw [hdst] at hn; exact hn _ _ ι Fr h
  | some d =>
    rw [hdst] at hn
    have hlt : d < g.nt := by
      unfold dstOk at hd
      rw [hdst] at hd
      exact Nat.le_of_ble_eq_true hd
    exact hn _ _ ι Fr (h.put hlt hv)

section
variable {P : Program} {a : Act} {w : World} {o : Oper}
theorem run_move' (x : Operand) (h : o.op = .move x ∨ o.op = .assign x) : (execOp a.eval o).run P w = .ok (.value (a.eval x)) w := by
  rcases h with h | h <;> (unfold execOp; rw [h]; rfl)
end

/-- The run of an operation that yields a value by a Sem. -/
theorem run_v {P : Program} {w w' : World} {s : Sem Value} {x : Value} (h : s.run P w = .ok x w') : (do pure (.value (← s)) : Sem Next).run P w = .ok (.value x) w' := by
  simp [h]

theorem run_u {P : Program} {w w' : World} {s : Sem Unit} (h : s.run P w = .ok () w') : (do s; pure .skip : Sem Next).run P w = .ok .skip w' := by
  simp [h]

/-! ### Numbers, bools, texts -/
theorem kindB_eq {k k' : IntKind} (h : kindB k k' = true) : k = k' := by
  cases k <;> cases k' <;> first | rfl | simp [kindB] at h

theorem inv_int {w : World} {Fr : Nat → Nat → Prop} {ι : Iota} {k : IntKind} {n : Int} {x : Value} (h : TRep w Fr ι (.int k n) x) : x = .int k n := by
  cases h with
  | atom _ hp => cases hp; rfl
theorem inv_bool {w : World} {Fr : Nat → Nat → Prop} {ι : Iota} {b : Bool} {x : Value} (h : TRep w Fr ι (.bool b) x) : x = .bool b := by
  cases h with
  | atom _ hp => cases hp; rfl
theorem inv_str {w : World} {Fr : Nat → Nat → Prop} {ι : Iota} {s : ByteArray} {x : Value} (h : TRep w Fr ι (.str s) x) : x = .string s := by
  cases h with
  | atom _ hp => cases hp; rfl

theorem binInt_run {P : Program} {w : World} {op : BinOp} {k : IntKind} {m n : Int} {t : TypeId} {e : Ef} (he : binInt op k m n = some e) (ho : ∀ p ∈ e.ob, p) :
    e.upd = [] ∧ ∃ x, (binOp op t (.int k m) (.int k n)).run P w = .ok x w ∧ ∀ Fr ι, TRep w Fr ι e.v x := by
  have R : ∀ (v : Value) (u : V), (∀ Fr ι, TRep w Fr ι u v) → ∀ (y : Sem Value), y.run P w = .ok v w → e = ⟨u, [], [], e.ob⟩ → binOp op t (.int k m) (.int k n) = y →
      e.upd = [] ∧ ∃ x, (binOp op t (.int k m) (.int k n)).run P w = .ok x w ∧ ∀ Fr ι, TRep w Fr ι e.v x := by
    intro v u hu y hy hev hb
    refine ⟨by rw [hev], v, by rw [hb]; exact hy, ?_⟩
    rw [hev]; exact hu
  cases op <;> simp only [binInt, ok, okO, Option.some.injEq, reduceCtorEq] at he
  case add =>
    subst he
    exact R (.int k (m + n)) _ (fun _ _ => .atom rfl (.int _ _)) (pure (.int k (k.wrap (m + n)))) (by have := ho (inK k (m + n)) (by simp); rw [show k.wrap (m + n) = m + n from this]; rfl) rfl (by simp [binOp, Op.intArith])
  case sub =>
    subst he
    exact R (.int k (m - n)) _ (fun _ _ => .atom rfl (.int _ _)) (pure (.int k (k.wrap (m - n)))) (by have := ho (inK k (m - n)) (by simp); rw [show k.wrap (m - n) = m - n from this]; rfl) rfl (by simp [binOp, Op.intArith])
  case mul =>
    subst he
    exact R (.int k (m * n)) _ (fun _ _ => .atom rfl (.int _ _)) (pure (.int k (k.wrap (m * n)))) (by have := ho (inK k (m * n)) (by simp); rw [show k.wrap (m * n) = m * n from this]; rfl) rfl (by simp [binOp, Op.intArith])
  case quo =>
    subst he
    have h0 := ho (n ≠ 0) (by simp)
    exact R (.int k (m.tdiv n)) _ (fun _ _ => .atom rfl (.int _ _)) (pure (.int k (k.wrap (m.tdiv n)))) (by have := ho (inK k (m.tdiv n)) (by simp); rw [show k.wrap (m.tdiv n) = m.tdiv n from this]; rfl) rfl (by simp [binOp, Op.intDiv, h0])
  case rem =>
    subst he
    have h0 := ho (n ≠ 0) (by simp)
    exact R (.int k (m.tmod n)) _ (fun _ _ => .atom rfl (.int _ _)) (pure (.int k (m.tmod n))) rfl rfl (by simp [binOp, Op.intDiv, h0])
  all_goals
    subst he
    exact R (.bool _) _ (fun _ _ => .atom rfl (.bool _)) (pure (.bool _)) rfl rfl (by simp [binOp, Op.intCmp])

theorem binStr_run {P : Program} {w : World} {op : BinOp} {m n : ByteArray} {t : TypeId} {e : Ef} (he : binStr op m n = some e) (ho : ∀ p ∈ e.ob, p) :
    e.upd = [] ∧ ∃ x, (binOp op t (.string m) (.string n)).run P w = .ok x w ∧ ∀ Fr ι, TRep w Fr ι e.v x := by
  cases op <;> simp only [binStr, ok, okO, Option.some.injEq, reduceCtorEq] at he
  case add =>
    subst he
    have h0 := ho _ (List.mem_singleton.2 rfl)
    refine ⟨rfl, .string (m ++ n), ?_, fun _ _ => .atom rfl (.str _)⟩
    have hm : IntKind.i64.max = 9223372036854775807 := by decide
    have h1 : ¬ ((m.size + n.size : Nat) : Int) > IntKind.i64.max := by rw [hm]; omega
    simp only [binOp, Op.stringOp, h1, if_false]
    rfl
  all_goals
    subst he
    exact ⟨rfl, .bool _, rfl, fun _ _ => .atom rfl (.bool _)⟩

end Go.Av
