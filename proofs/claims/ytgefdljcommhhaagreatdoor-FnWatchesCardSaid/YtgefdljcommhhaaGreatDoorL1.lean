/- Values, states and what they say of memory; operations that leave memory alone. -/
import Derived.Calls
import Derived.Laws.BytesArg
import Derived.Below
import Derived.Orders
import Derived.Laws.Cells
import Derived.Laws.StructEq
/- The abstract values, the abstract state and the abstract weakest condition over the model's code: definitions alone, nothing is claimed here. -/
namespace Go.Av
set_option backward.match.sparseCases false

/-- Abstract values. 'sl n g t': a frozen slice of n elements; 'ptr cs off t': a place in a frozen object of cells cs; 'osl', 'oref': a slice, a place of one's own; 'cnd c v': v where c holds, else nothing. -/
inductive V where
  | int (k : IntKind) (n : Int)
  | bool (b : Bool)
  | str (s : ByteArray)
  | nil
  | sl (n : Nat) (g : Nat → V) (t : Nat)
  | ptr (cs : List V) (off : Nat) (t : Nat)
  | agg (cs : List V)
  | tup (vs : List V)
  | fn (f : FuncId) (caps : List V)
  | osl (id n : Nat)
  | oref (id i off : Nat)
  | omap (id : Nat)
  | cnd (c : Bool) (v : V)
  | undef

instance : Inhabited V := ⟨.undef⟩

def V.cells : V → List V
  | .agg cs => cs
  | v => [v]

/-- Blocks of one's own: a row of elements (sz cells each; te: the tag of what the elements reach), or one object. -/
inductive Blk where
  | arr (sz n : Nat) (g : Nat → V) (te : Nat)
  | box (cs : List V)
  | mp (z : V) (f : Int → V) (h : Int → Bool)

def lk {α : Type} : List (Nat × α) → Nat → Option α
  | [], _ => none
  | (k, x) :: r, n => match Nat.beq k n with
    | true => some x
    | false => lk r n

def del {α : Type} : List (Nat × α) → Nat → List (Nat × α)
  | [], _ => []
  | (k, x) :: r, n => match Nat.beq k n with
    | true => del r n
    | false => (k, x) :: del r n

def put {α : Type} (l : List (Nat × α)) (n : Nat) (x : α) : List (Nat × α) := (n, x) :: del l n

def mem (n : Nat) : List Nat → Bool
  | [] => false
  | k :: r => Nat.beq k n || mem n r

structure AS where
  T : List (Nat × V)
  S : List (Nat × Blk)

/-- What a type is, as the seat's table tells it. -/
structure TI where
  desc : TypeDesc
  size : Nat
  bytes : Nat
  zero : V
  flat : Bool
  cmp : Bool

abbrev TT := List (Nat × TI)

def ofCell : Value → V
  | .int k n => .int k n
  | .bool b => .bool b
  | .string s => .str s
  | .slice _ 0 0 => .nil
  | _ => .undef

def ofConst : Value → V
  | .agg cs => .agg (cs.toList.map ofCell)
  | .func (.func f) ⟨[]⟩ ⟨[]⟩ => .fn f []
  | v => ofCell v

/-! ### Mentions, renamings, tags -/
mutual
/-- Does the value name a block of one's own whose id the test takes? -/
def V.ment (p : Nat → Bool) : V → Bool
  | .osl id _ => p id
  | .oref id _ _ => p id
  | .omap id => p id
  | .agg cs => V.mentL p cs
  | .tup cs => V.mentL p cs
  | .fn _ cs => V.mentL p cs
  | .cnd _ v => V.ment p v
  | _ => false
def V.mentL (p : Nat → Bool) : List V → Bool
  | [] => false
  | v :: r => V.ment p v || V.mentL p r
end

mutual
/-- The ids that a value names, in order. -/
def V.ids : V → List Nat
  | .osl id _ => [id]
  | .oref id _ _ => [id]
  | .omap id => [id]
  | .agg cs => V.idsL cs
  | .tup cs => V.idsL cs
  | .fn _ cs => V.idsL cs
  | .cnd _ v => V.ids v
  | _ => []
def V.idsL : List V → List Nat
  | [] => []
  | v :: r => V.ids v ++ V.idsL r
end

mutual
def V.ren (f : Nat → Nat) : V → V
  | .osl id n => .osl (f id) n
  | .oref id i off => .oref (f id) i off
  | .omap id => .omap (f id)
  | .agg cs => .agg (V.renL f cs)
  | .tup cs => .tup (V.renL f cs)
  | .fn g cs => .fn g (V.renL f cs)
  | .cnd c v => .cnd c (V.ren f v)
  | v => v
def V.renL (f : Nat → Nat) : List V → List V
  | [] => []
  | v :: r => V.ren f v :: V.renL f r
end

mutual
/-- All tags turned. -/
def V.tag (f : Nat → Nat) : V → V
  | .sl n g t => .sl n g (f t)
  | .ptr cs o t => .ptr cs o (f t)
  | .agg cs => .agg (V.tagL f cs)
  | .tup cs => .tup (V.tagL f cs)
  | .fn g cs => .fn g (V.tagL f cs)
  | .cnd c v => .cnd c (V.tag f v)
  | v => v
def V.tagL (f : Nat → Nat) : List V → List V
  | [] => []
  | v :: r => V.tag f v :: V.tagL f r
end

mutual
/-- All that the value reaches in frozen memory was made by the call that told it. -/
def V.closed : V → Bool
  | .sl _ _ t => Nat.ble 2 t
  | .ptr _ _ t => Nat.ble 2 t
  | .agg cs => V.closedL cs
  | .tup cs => V.closedL cs
  | .fn _ cs => V.closedL cs
  | .cnd _ v => V.closed v
  | _ => true
def V.closedL : List V → Bool
  | [] => true
  | v :: r => V.closed v && V.closedL r
end

def Blk.closed : Blk → Bool
  | .arr _ _ _ te => Nat.ble 2 te
  | .box cs => V.closedL cs
  | .mp _ _ _ => false

def Blk.ids : Blk → List Nat
  | .arr _ _ _ _ => []
  | .box cs => V.idsL cs
  | .mp _ _ _ => []

def Blk.ment (p : Nat → Bool) : Blk → Bool
  | .arr _ _ _ _ => false
  | .box cs => V.mentL p cs
  | .mp _ _ _ => false

/-! ### What is handed to a callee for reading; what is frozen -/
/-- One cell, read only. -/
def lendA (S : List (Nat × Blk)) : V → V
  | .osl id n => match lk S id with
    | some (.arr _ _ g _) => .sl n g 1
    | _ => .undef
  | .oref id i off => match lk S id with
    | some (.arr _ _ g _) => .ptr (g i).cells off 1
    | _ => .undef
  | .sl n g _ => .sl n g 1
  | .ptr cs o _ => .ptr cs o 1
  | .agg _ => .undef
  | .tup _ => .undef
  | .fn _ _ => .undef
  | .cnd _ _ => .undef
  | .omap _ => .undef
  | v => v

/-- What a function value holds, itself held in a box: what reaches no block of one's own. -/
def lendC : V → V
  | .sl n g _ => .sl n g 1
  | .ptr cs o _ => .ptr cs o 1
  | .int k n => .int k n
  | .bool b => .bool b
  | .str s => .str s
  | .nil => .nil
  | _ => .undef

def lendX (S : List (Nat × Blk)) : V → V
  | .fn f cs => .fn f (cs.map lendC)
  | v => lendA S v

def lendB (S : List (Nat × Blk)) : V → V
  | .oref id i off => match lk S id with
    | some (.arr _ _ g _) => .ptr (g i).cells off 1
    | some (.box cs) => match i with
      | 0 => .ptr (cs.map (lendX S)) off 1
      | _ => .undef
    | _ => .undef
  | v => lendA S v

def lend (S : List (Nat × Blk)) : V → V
  | .agg cs => .agg (cs.map (lendB S))
  | .fn f cs => .fn f (cs.map (lendB S))
  | v => lendB S v

/-- The ids that 'lend' looks up. -/
def lendIds (S : List (Nat × Blk)) (vs : List V) : List Nat :=
  V.idsL vs ++ (V.idsL vs).flatMap fun id => match lk S id with
    | some b => b.ids
    | none => []

/-- One cell frozen for good (its block is given up by the caller of this). -/
def frzA (S : List (Nat × Blk)) (t : Nat) : V → V
  | .osl id n => match lk S id, Nat.ble 64 id with
    | some (.arr _ _ g te), true => match Nat.beq te t || Nat.beq te 100 || Nat.beq t 0 || (Nat.ble 2 te && Nat.ble 2 t && !(Nat.beq t 100)) with
      | true => .sl n g t
      | false => .undef
    | _, _ => .undef
  | .oref _ _ _ => .undef
  | .omap _ => .undef
  | .agg _ => .undef
  | .tup _ => .undef
  | .fn _ _ => .undef
  | .cnd _ _ => .undef
  | v => v

def frz (S : List (Nat × Blk)) (t : Nat) : V → V
  | .agg cs => .agg (cs.map (frzA S t))
  | v => frzA S t v

/-- The tag that covers a frozen value (for the elements of a row). -/
def tagOfA : V → Option Nat
  | .sl _ _ t => some t
  | .ptr _ _ t => some t
  | _ => none

/-- One cell that can be stored. -/
def solidA : V → Bool
  | .agg _ => false
  | .tup _ => false
  | .cnd _ _ => false
  | .undef => false
  | .omap _ => false
  | _ => true

def solid : V → Bool
  | .agg cs => cs.all solidA
  | v => solidA v

/-- A cell that is a number, a bool, a text: it reaches nothing. -/
def flatA : V → Bool
  | .int _ _ => true
  | .bool _ => true
  | .str _ => true
  | _ => false

def flatV (v : V) : Bool := v.cells.all flatA

/-- The tag of what reaches nothing at all. -/
def tagS : Nat := 100

/-- May a value stand in a row whose elements reach te? -/
def fits (te : Nat) (v : V) : Bool := solid v && v.cells.all fun c => match tagOfA c with
  | some t => (Nat.beq t te && !(Nat.beq t tagS)) || Nat.beq te 0 || (Nat.ble 2 te && Nat.ble 2 t && !(Nat.beq te tagS))
  | none => match c with
    | .fn _ _ => false
    | .osl _ _ => false
    | .oref _ _ _ => false
    | _ => true

def strip : V → V
  | .cnd _ v => v
  | v => v

def aval (s : AS) : Operand → V
  | .tmp t => match lk s.T t with
    | some v => v
    | none => .undef
  | .const v => ofConst v
  | .global _ => .undef
  | .func f => .fn f []

/-- The number of a kind is in its bounds. -/
def inK (k : IntKind) (n : Int) : Prop := k.wrap n = n

def isAggD : TypeDesc → Bool
  | .struct _ => true
  | .array _ _ => true
  | _ => false

def applyUpd (S : List (Nat × Blk)) : List (Nat × Option Blk) → List (Nat × Blk)
  | [] => S
  | (id, some b) :: r => applyUpd (put S id b) r
  | (id, none) :: r => applyUpd (del S id) r

/-- n cells from off on, as a value of a type. -/
def readV (ti : TI) (cs : List V) (off : Nat) : Option V :=
  match Nat.ble (off + ti.size) cs.length with
  | true => match isAggD ti.desc with
    | true => some (.agg ((cs.drop off).take ti.size))
    | false => match ti.size with
      | 1 => cs[off]?
      | _ => none
  | false => none

def setAt : List V → Nat → List V → List V
  | [], _, _ => []
  | c :: cs, 0, [] => c :: cs
  | _ :: cs, 0, x :: xs => x :: setAt cs 0 xs
  | c :: cs, off + 1, xs => c :: setAt cs off xs

/-- cells written into cells. -/
def writeV (cs : List V) (off : Nat) (xs : List V) : Option (List V) :=
  match Nat.ble (off + xs.length) cs.length with
  | true => some (setAt cs off xs)
  | false => none

def isAggV : V → Bool
  | .agg _ => true
  | _ => false

/-- The cells as one element of a row. -/
def elemV (agg : Bool) (cs : List V) : V :=
  match agg with
  | true => .agg cs
  | false => cs.headD .undef

def appg (n : Nat) (g h : Nat → V) : Nat → V := fun i => if i < n then g i else h (i - n)
/-- The one or the other, told cell by cell where the kinds agree (so that what stands there can be read without knowing which). -/
def ifA (c : Bool) : V → V → V
  | .int k a, .int k' b => match decide (k = k') with
    | true => .int k' (cond c a b)
    | false => cond c (.int k a) (.int k' b)
  | .bool a, .bool b => .bool (cond c a b)
  | .str a, .str b => .str (cond c a b)
  | a, b => cond c a b
def ifL (c : Bool) : List V → List V → List V
  | a :: r, b :: r' => ifA c a b :: ifL c r r'
  | as, bs => cond c as bs
def ifV (c : Bool) : V → V → V
  | .agg as, .agg bs => .agg (ifL c as bs)
  | a, b => ifA c a b
theorem ifA_eq (c : Bool) (a b : V) : ifA c a b = cond c a b := by
  unfold ifA
  split
  · split
    · rename_i h
      have := of_decide_eq_true h
      subst this
      cases c <;> rfl
    · rfl
  · cases c <;> rfl
  · cases c <;> rfl
  · rfl
theorem ifL_eq (c : Bool) : ∀ as bs : List V, ifL c as bs = cond c as bs
  | [], [] => by cases c <;> rfl
  | [], _ :: _ => by cases c <;> rfl
  | _ :: _, [] => by cases c <;> rfl
  | a :: r, b :: r' => by
    rw [ifL, ifA_eq, ifL_eq c r r']
    cases c <;> rfl
theorem ifV_eq (c : Bool) (a b : V) : ifV c a b = cond c a b := by
  unfold ifV
  split
  · rw [ifL_eq]
    cases c <;> rfl
  · exact ifA_eq _ _ _
def setg (g : Nat → V) (i : Nat) (v : V) : Nat → V := fun j => ifV (Nat.beq j i) v (g j)
theorem setg_eq (g : Nat → V) (i : Nat) (v : V) (j : Nat) : setg g i v j = if j = i then v else g j := by
  unfold setg
  rw [ifV_eq]
  by_cases h : j = i
  · subst h
    rw [if_pos rfl, Nat.beq_refl]
    rfl
  · have : Nat.beq j i = false := by
      cases e : Nat.beq j i
      · rfl
      · exact absurd (Nat.eq_of_beq_eq_true e) h
    rw [if_neg h, this]
    rfl
def listg (l : List V) : Nat → V := fun i => l.getD i .undef
def dropg (g : Nat → V) (l : Nat) : Nat → V := fun i => g (l + i)

def byteAt (s : ByteArray) (i : Int) : Int := (s.data.getD i.toNat 0).toNat

def elemTI (tt : TT) (t : Nat) : Option TI :=
  match lk tt t with
  | some ⟨.slice e, _, _, _, _, _⟩ => lk tt e
  | _ => none

end Go.Av

/- The abstract effects of operations and the abstract weakest condition: definitions alone. -/
namespace Go.Av
set_option backward.match.sparseCases false

/-- A callee as the caller knows it: what it asks, what it tells, what becomes of the blocks that it may write. -/
abbrev FSpec := List V → List Blk → Option (Prop × V × List Blk)

/-- One loop's head: the slots that are kept (some sz: a slice of one's own), and the boxes, each with its cells that hold slices of one's own. -/
structure LK where
  ts : List (Nat × Option Nat)
  bs : List (Nat × List (Nat × Nat))

/-- What is told of a loop: the states at its head, which of them fit, what falls at each round. -/
structure LoopInv where
  α : Type
  st : α → AS
  I : α → Prop
  μ : α → Nat

/-- A function that writes into a row and all that its elements reach: what it asks and the number that it tells. -/
abbrev MSpec := Nat → (Nat → V) → Int → Option (Prop × Int)

structure Cx where
  tt : TT
  D : Nat → Option (Bool × FSpec)
  nt : Nat
  keep : List Nat
  lks : List (Nat × LK)
  cuts : List Nat
  invs : Nat → Option LoopInv
  ms : List Nat
  M : Nat → Option MSpec
  nest : List Nat

/-- The effect of an operation as it is reckoned: the value, the blocks, the ids that were read, what is owed. -/
structure Ef where
  v : V
  upd : List (Nat × Option Blk)
  rd : List Nat
  ob : List Prop

def ok (v : V) : Option Ef := some ⟨v, [], [], []⟩
def okO (v : V) (ob : List Prop) : Option Ef := some ⟨v, [], [], ob⟩

def obs : List Prop → Prop → Prop
  | [], K => K
  | p :: r, K => p ∧ obs r K

def AS.app (s : AS) (dst : Option Tmp) (e : Ef) : AS :=
  { T := match dst with
      | some d => put s.T d e.v
      | none => s.T
    S := applyUpd s.S e.upd }

def stripO (g : Bool) : V → List Prop
  | .cnd c _ => [g = true → c = true]
  | _ => []

def opndsO : Option Operand → List Operand
  | some x => [x]
  | none => []

def calleeO : Callee → List Operand
  | .value f => [f]
  | .invoke r _ => [r]
  | .builtin _ => []

def opnds : Op → List Operand
  | .move x | .assign x | .box _ x | .load _ x | .nilCheck x | .unOp _ _ x | .convert _ _ x | .fieldAddr _ x _ | .field _ x _ | .extract x _ => [x]
  | .build _ ps | .buildSlice _ _ ps => ps.toList.map (·.2)
  | .store _ a v | .binOp _ _ a v _ | .makeSlice _ a v | .indexAddr _ a v | .index _ a v | .lookup _ a v _ => [a, v]
  | .mapUpdate _ a k v => [a, k, v]
  | .makeFunc _ first captured => first.toList ++ captured.toList
  | .slice _ x l h m => x :: (opndsO l ++ opndsO h ++ opndsO m)
  | .call c => calleeO c.callee ++ c.args.toList
  | _ => []

/-! ### Whole numbers, bools, strings -/
def bitI (op : BinOp) (k : IntKind) (x y : Int) : Int := match op with
  | .and => k.wrap (BitVec.ofInt k.bits x &&& BitVec.ofInt k.bits y).toNat
  | .or => k.wrap (BitVec.ofInt k.bits x ||| BitVec.ofInt k.bits y).toNat
  | _ => k.wrap (BitVec.ofInt k.bits x ^^^ BitVec.ofInt k.bits y).toNat

def isSh : BinOp → Bool
  | .shl | .shr => true
  | _ => false

/-- Shifts by fewer places than the kind has. -/
def shV (op : BinOp) (k : IntKind) (a b : Int) : Option Ef :=
  match op with
  | .shl => okO (.int k (a * 2 ^ b.toNat)) [0 ≤ b ∧ b.toNat ≤ k.bits, inK k (a * 2 ^ b.toNat)]
  | .shr => okO (.int k (a.fdiv (2 ^ b.toNat))) [0 ≤ b ∧ b.toNat ≤ k.bits]
  | _ => none

def binInt (op : BinOp) (k : IntKind) (a b : Int) : Option Ef :=
  match op with
  | .add => okO (.int k (a + b)) [inK k (a + b)]
  | .sub => okO (.int k (a - b)) [inK k (a - b)]
  | .mul => okO (.int k (a * b)) [inK k (a * b)]
  | .quo => okO (.int k (a.tdiv b)) [b ≠ 0, inK k (a.tdiv b)]
  | .rem => okO (.int k (a.tmod b)) [b ≠ 0]
  | .and => ok (.int k (bitI .and k a b))
  | .or => ok (.int k (bitI .or k a b))
  | .xor => ok (.int k (bitI .xor k a b))
  | .eql => ok (.bool (a == b))
  | .neq => ok (.bool (a != b))
  | .lss => ok (.bool (decide (a < b)))
  | .leq => ok (.bool (decide (a ≤ b)))
  | .gtr => ok (.bool (decide (a > b)))
  | .geq => ok (.bool (decide (a ≥ b)))
  | _ => none

def strEq (a b : ByteArray) : Bool := a.toList == b.toList
def strLt (a b : ByteArray) : Bool := Op.bytesLess a.toList b.toList

def binStr (op : BinOp) (a b : ByteArray) : Option Ef :=
  match op with
  | .add => okO (.str (a ++ b)) [a.size + b.size ≤ 2 ^ 62]
  | .eql => ok (.bool (strEq a b))
  | .neq => ok (.bool (!strEq a b))
  | .lss => ok (.bool (strLt a b))
  | .leq => ok (.bool (strLt a b || strEq a b))
  | .gtr => ok (.bool (!(strLt a b || strEq a b)))
  | .geq => ok (.bool (!strLt a b))
  | _ => none

def kindB : IntKind → IntKind → Bool
  | .i8, .i8 | .i16, .i16 | .i32, .i32 | .i64, .i64 | .u8, .u8 | .u16, .u16 | .u32, .u32 | .u64, .u64 => true
  | _, _ => false

/-- Equality of the fields of two structs, in order. -/
def eqFs (tt : TT) (E : Nat → V → V → Option Bool) (as bs : List V) : List Field → Option Bool
  | [] => some true
  | f :: fs => match lk tt f.type with
    | some ti => match readV ti as f.offset, readV ti bs f.offset with
      | some x, some y => match E f.type x y with
        | some p => match fs with
          | [] => some p
          | _ :: _ => match eqFs tt E as bs fs with
            | some q => some (p && q)
            | none => none
        | none => none
      | _, _ => none
    | none => none

/-- Equality of two values of a type, down to a depth. -/
def eqT (tt : TT) : Nat → Nat → V → V → Option Bool
  | 0, _, _, _ => none
  | d + 1, t, x, y => match lk tt t, x, y with
    | some ⟨.int _, _, _, _, _, _⟩, .int k a, .int k' b => match kindB k k' with
      | true => some (a == b)
      | false => none
    | some ⟨.bool, _, _, _, _, _⟩, .bool a, .bool b => some (a == b)
    | some ⟨.string, _, _, _, _, _⟩, .str a, .str b => some (strEq a b)
    | some ⟨.struct fs, _, _, _, _, true⟩, .agg as, .agg bs => eqFs tt (eqT tt d) as bs fs.toList
    | _, _, _ => none

def binV (tt : TT) (op : BinOp) (t : Nat) (x y : V) : Option Ef :=
  match x, y with
  | .int k a, .int k' b => match isSh op with
    | true => shV op k a b
    | false => match kindB k k' with
      | true => binInt op k a b
      | false => none
  | .str a, .str b => binStr op a b
  | .bool _, .bool _ => match op, eqT tt 5 t x y with
    | .eql, some p => ok (.bool p)
    | .neq, some p => ok (.bool (!p))
    | _, _ => none
  | .agg _, .agg _ => match op, eqT tt 5 t x y with
    | .eql, some p => ok (.bool p)
    | .neq, some p => ok (.bool (!p))
    | _, _ => none
  | _, _ => none

/-! ### Memory -/
def box1 (site : Nat) (cs : List V) : Option Ef := some ⟨.oref site 0 0, [(site, some (.box cs))], [], []⟩

/-- The cells of an element, so many. -/
def cellsN (n : Nat) (v : V) : List V := (List.range n).map fun j => v.cells.getD j .undef
def aggF (sz : Nat) (v : V) : Bool := match Nat.beq sz 1 with
  | true => isAggV v
  | false => true

theorem cellsN_eq {n : Nat} {v : V} (h : v.cells.length = n) : cellsN n v = v.cells := by
  subst h
  unfold cellsN
  refine List.ext_getElem (by simp) fun i h1 h2 => ?_
  simp [h2]

def loadV (S : List (Nat × Blk)) (ti : TI) (a : V) : Option Ef :=
  match a with
  | .ptr cs off _ => match readV ti cs off with
    | some v => match a with
      | .ptr _ _ t => ok (v.tag fun _ => t)
      | _ => none
    | none => none
  | .oref id i off => match lk S id with
    | some (.box cs) => match i, readV ti cs off with
      | 0, some v => some ⟨v, [], [id], []⟩
      | _, _ => none
    | some (.arr sz n g te) => match readV ti (cellsN sz (g i)) off with
      | some v => some ⟨v.tag fun _ => te, [], [id], [i < n]⟩
      | none => none
    | _ => none
  | _ => none

def kills (v : V) : List (Nat × Option Blk) := v.ids.map fun id => (id, none)

def allGe : List Nat → Bool
  | [] => true
  | id :: r => Nat.ble 64 id && allGe r

def storeV (S : List (Nat × Blk)) (ti : TI) (a x : V) : Option Ef :=
  match a, Nat.beq x.cells.length ti.size && solid x with
  | .oref id i off, true => match lk S id with
    | some (.box cs) => match i, writeV cs off x.cells with
      | 0, some cs' => some ⟨.undef, [(id, some (.box cs'))], [id], []⟩
      | _, _ => none
    | some (.arr sz n g te) =>
      let y := frz S te x
      match writeV (cellsN sz (g i)) off y.cells, fits te y && !(mem id x.ids) && allGe x.ids && (x.ids.isEmpty || !(Nat.beq te 1)) with
      | some cs', true => some ⟨.undef, (id, some (.arr sz n (setg g i (elemV (aggF sz (g i)) cs')) te)) :: kills x, id :: x.ids, [i < n]⟩
      | _, _ => none
    | _ => none
  | _, _ => none

def fieldOff (tt : TT) (s f : Nat) : Option (Nat × TI) :=
  match lk tt s with
  | some ⟨.struct fs, _, _, _, _, _⟩ => match fs.toList[f]? with
    | some fd => match lk tt fd.type with
      | some ti => some (fd.offset, ti)
      | none => none
    | none => none
  | _ => none

def fieldAddrV (tt : TT) (s f : Nat) (a : V) : Option Ef :=
  match fieldOff tt s f with
  | some (off', ti) => match ti.size with
    | 0 => none
    | _ + 1 => match a with
      | .ptr cs off t => ok (.ptr cs (off + off') t)
      | .oref id i off => ok (.oref id i (off + off'))
      | _ => none
  | none => none

def fieldV (tt : TT) (s f : Nat) (x : V) : Option Ef :=
  match fieldOff tt s f, x with
  | some (off', ti), .agg cs => match readV ti cs off' with
    | some v => ok v
    | none => none
  | _, _ => none

def indexAddrV (tt : TT) (S : List (Nat × Blk)) (t : Nat) (x ix : V) : Option Ef :=
  match elemTI tt t, x, ix with
  | some ti, .sl n g tg, .int _ i => match Nat.beq (g i.toNat).cells.length ti.size with
    | true => okO (.ptr (g i.toNat).cells 0 tg) [0 ≤ i ∧ i < (n : Int)]
    | false => none
  | some ti, .osl id n, .int _ i => match lk S id with
    | some (.arr sz _ _ _) => match Nat.beq sz ti.size with
      | true => some ⟨.oref id i.toNat 0, [], [id], [0 ≤ i ∧ i < (n : Int)]⟩
      | false => none
    | _ => none
  | _, _, _ => none

def natOf : V → Option Int
  | .int _ i => some i
  | _ => none

/-- A bound of a slice expression: absent, or a whole number. -/
def boundV : Option V → Option (Option Int)
  | none => some none
  | some (.int _ i) => some (some i)
  | _ => none

def sizedL (size m : Nat) (h : Nat → V) : Prop := ∀ i, i < m → (h i).cells.length = size ∧ solid (h i) = true

def isStrT (tt : TT) (t : Nat) : Bool := match lk tt t with
  | some ⟨.string, _, _, _, _, _⟩ => true
  | _ => false

def isSlT (tt : TT) (t : Nat) : Bool := match elemTI tt t with
  | some _ => true
  | none => false

def sliceV (tt : TT) (t : Nat) (x : V) (lo hi mx : Option V) : Option Ef :=
  match x, boundV lo, boundV hi, mx with
  | .str s, some lo, some hi, none => match isStrT tt t with
    | true =>
      let l := lo.getD 0
      let h := hi.getD s.size
      okO (.str (s.extract l.toNat h.toNat)) [0 ≤ l ∧ l ≤ h ∧ h ≤ (s.size : Int)]
    | false => none
  | .sl n g tg, some lo, some hi, none => match isSlT tt t, elemTI tt t with
    | true, some ti =>
      let l := lo.getD 0
      let h := hi.getD n
      okO (.sl (h.toNat - l.toNat) (match lo with | none => g | some _ => dropg g l.toNat) tg) [0 ≤ l ∧ l ≤ h ∧ h ≤ (n : Int), sizedL ti.size n g]
    | _, _ => none
  | .osl id n, some none, some (some h), none => match isSlT tt t with
    | true => okO (.osl id h.toNat) [0 ≤ h ∧ h ≤ (n : Int)]
    | false => none
  | .nil, some none, some (some h), none => match isSlT tt t with
    | true => okO .nil [h = 0]
    | false => none
  | x, some lo, some (some 0), some (.int _ 0) => match x, lo, isSlT tt t with
    | .sl _ _ _, none, true => ok .nil
    | .osl _ _, none, true => ok .nil
    | .nil, none, true => ok .nil
    | .sl _ _ _, some 0, true => ok .nil
    | .osl _ _, some 0, true => ok .nil
    | .nil, some 0, true => ok .nil
    | _, _, _ => none
  | _, _, _, _ => none

def allStr : List V → Option (List ByteArray)
  | [] => some []
  | .str s :: r => match allStr r with
    | some l => some (s :: l)
    | none => none
  | _ => none
def allInt (k : IntKind) : List V → Option (List Int)
  | [] => some []
  | .int k' n :: r => match kindB k k', allInt k r with
    | true, some l => some (n :: l)
    | _, _ => none
  | _ => none
/-- A written-out row as a function of the place. -/
def rowg : List V → (Nat → V)
  | .str s :: r => match allStr r with
    | some l => fun i => .str ((s :: l).getD i default)
    | none => listg (.str s :: r)
  | .int k n :: r => match allInt k r with
    | some l => fun i => .int k ((n :: l).getD i 0)
    | none => listg (.int k n :: r)
  | l => listg l

def lenV (tt : TT) (t : Nat) (x : V) : Option Ef :=
  match x, isStrT tt t, isSlT tt t with
  | .str s, true, _ => ok (.int .i64 s.size)
  | .nil, _, true => ok (.int .i64 0)
  | .sl n _ _, _, true => ok (.int .i64 n)
  | .osl _ n, _, true => ok (.int .i64 n)
  | _, _, _ => none

/-- What is appended: how many, which, and what their elements reach. -/
def srcV (S : List (Nat × Blk)) : V → Option (Nat × (Nat → V) × Nat × List Nat)
  | .nil => some (0, fun _ => .undef, tagS, [])
  | .sl n g t => some (n, g, t, [])
  | .osl id n => match lk S id with
    | some (.arr _ _ g te) => some (n, g, te, [id])
    | _ => none
  | _ => none

/-- The tag behind an append, and what is owed for it. -/
def joinTag (flat : Bool) (a b m : Nat) (h : Nat → V) : Nat × List Prop :=
  match flat with
  | true => match Nat.beq a tagS, Nat.beq b tagS with
    | true, true => (tagS, [])
    | true, false => (tagS, [∀ i, i < m → flatV (h i) = true])
    | _, _ => (0, [])
  | false => match Nat.beq a b with
    | true => (a, [])
    | false => match Nat.ble 2 a && Nat.ble 2 b && !(Nat.beq a tagS) with
      | true => (a, [])
      | false => (0, [])

/-- No list of a program grows past this, or the walk owes it. -/
def most : Nat := 2 ^ 30

/-- What makes a row of elements of a type. -/
def newTag (ti : TI) : Nat := match ti.flat with
  | true => tagS
  | false => 2

def appendV (tt : TT) (S : List (Nat × Blk)) (site t : Nat) (s x : V) : Option Ef :=
  match elemTI tt t, srcV S x with
  | some ti, some (m, h, th, rd) => match Nat.ble ti.bytes 1024 && Nat.ble 1 ti.bytes with
    | true => match s with
      | .nil => match joinTag ti.flat tagS th m h with
        | (_, jo) => some ⟨.osl site m, [(site, some (.arr ti.size m h (match ti.flat with | true => tagS | false => th)))], rd, (m ≤ most) :: sizedL ti.size m h :: jo⟩
      | .osl id n => match lk S id with
        | some (.arr sz n' g te) => match Nat.beq sz ti.size, joinTag ti.flat te th m h with
          | true, (tj, jo) => match Nat.ble 64 id with
           | true => some ⟨.osl site (n + m), [(id, none), (site, some (.arr ti.size (n + m) (appg n g h) tj))], id :: rd, (n = n') :: (n + m ≤ most) :: sizedL ti.size m h :: jo⟩
           | false => none
          | false, _ => none
        | _ => none
      | _ => none
    | false => none
  | _, _ => none

/-! ### Calls -/
def site0 (d : Nat) : Nat := 64 * (d + 1)

/-- The place of an id in a list. -/
def idxOf (id : Nat) : List Nat → Nat
  | [] => 0
  | k :: r => match Nat.beq k id with
    | true => 0
    | false => idxOf id r + 1

def nodupB : List Nat → Bool
  | [] => true
  | k :: r => !mem k r && nodupB r

def undup : List Nat → List Nat
  | [] => []
  | k :: r => match mem k r with
    | true => undup r
    | false => k :: undup r

def blks (S : List (Nat × Blk)) : List Nat → Option (List Blk)
  | [] => some []
  | id :: r => match lk S id, blks S r with
    | some b, some l => some (b :: l)
    | _, _ => none

/-- New blocks behind a call, with the caller's own names. -/
def newUpd (d m : Nat) : List Blk → List (Nat × Option Blk)
  | [] => []
  | b :: r => (site0 d + m, some b) :: newUpd d (m + 1) r

def retag (d : Nat) (t : Nat) : Nat := match t with
  | 0 => 0
  | 1 => 0
  | _ => match Nat.beq t tagS with
    | true => tagS
    | false => d + 200

/-- Tags as a callee sees them. -/
def downtag (t : Nat) : Nat := match Nat.beq t tagS with
  | true => tagS
  | false => 1

def Blk.down : Blk → Blk
  | .arr sz n g te => .arr sz n g (downtag te)
  | .box cs => .box (V.tagL (fun _ => 1) cs)
  | .mp z f h => .mp z f h

def sameLen : List Blk → List Blk → List Prop
  | .arr _ n _ _ :: r, .arr _ m _ _ :: q => (n = m) :: sameLen r q
  | .box _ :: r, .box _ :: q => sameLen r q
  | _, _ => []

def Blk.retag (d : Nat) : Blk → Blk
  | .arr sz n g te => .arr sz n g (Go.Av.retag d te)
  | .box cs => .box (V.tagL (Go.Av.retag d) cs)
  | .mp z f h => .mp z f h

def Blk.ren (f : Nat → Nat) : Blk → Blk
  | .arr sz n g te => .arr sz n g te
  | .box cs => .box (V.renL f cs)
  | .mp z f h => .mp z f h

/-- Blocks that come back are of the kinds in which they went. -/
def shapesB : List Blk → List Blk → Bool
  | [], [] => true
  | .arr sz _ _ _ :: r, .arr sz' _ _ _ :: q => Nat.beq sz sz' && shapesB r q
  | .box cs :: r, .box ds :: q => Nat.beq cs.length ds.length && shapesB r q
  | _, _ => false

def allLt (m : Nat) : List Nat → Bool
  | [] => true
  | k :: r => Nat.blt k m && allLt m r

/-- The names that new blocks get. -/
def nmN (d : Nat) (j : Nat) : Nat := site0 d + j

/-- The same, where the first ones are the caller's own. -/
def nmI (d : Nat) (ids : List Nat) (j : Nat) : Nat := match Nat.blt j ids.length with
  | true => ids.getD j 0
  | false => site0 d + (j - ids.length)

def backUpd (f : Nat → Nat) (d : Nat) : List Nat → List Blk → List (Nat × Option Blk)
  | id :: r, b :: q => (id, some ((b.ren f).retag d)) :: backUpd f d r q
  | _, _ => []

def callV (cx : Cx) (S : List (Nat × Blk)) (d f : Nat) (args : List V) : Option Ef :=
  match cx.D f with
  | some (false, D) =>
    match D (args.map (lend S)) [] with
    | some (ob, r, bs) =>
      match (V.idsL args).isEmpty || (V.closed r && bs.all Blk.closed), allLt bs.length r.ids && bs.all (fun b => allLt bs.length b.ids), Nat.blt bs.length 63 with
      | true, true, true => some ⟨(r.ren (nmN d)).tag (retag d), newUpd d 0 (bs.map fun b => (b.ren (nmN d)).retag d), lendIds S args, [ob]⟩
      | _, _, _ => none
    | none => none
  | some (true, D) =>
    let ids := undup (V.idsL args)
    match blks S ids with
    | some bin =>
      let inn := fun id => idxOf id ids
      match D ((args.map (V.ren inn)).map (V.tag fun _ => 1)) (bin.map fun b => (b.ren inn).down) with
      | some (ob, r, bs) =>
        match shapesB bin (bs.take ids.length) && Nat.blt bs.length 63, allLt bs.length r.ids && bs.all (fun b => allLt bs.length b.ids), bin.all (fun b => b.ids.all fun k => mem k ids) with
        | true, true, true => some ⟨(r.ren (nmI d ids)).tag (retag d), backUpd (nmI d ids) d ids bs ++ newUpd d 0 ((bs.drop ids.length).map fun b => (b.ren (nmI d ids)).retag d), ids, ob :: sameLen bin bs⟩
        | _, _, _ => none
      | none => none
    | none => none
  | none => none

/-! ### One operation -/
def buildParts (fs : List (Nat × TI)) : List V → List (Nat × V) → Option (List V)
  | cs, [] => some cs
  | cs, (i, x) :: r => match fs[i]? with
    | some (off, ti) => match Nat.beq x.cells.length ti.size && solid x, writeV cs off x.cells with
      | true, some cs' => buildParts fs cs' r
      | _, _ => none
    | none => none

def fieldTIs (tt : TT) : List Field → Option (List (Nat × TI))
  | [] => some []
  | f :: r => match lk tt f.type, fieldTIs tt r with
    | some ti, some l => some ((f.offset, ti) :: l)
    | _, _ => none

def buildV (tt : TT) (t : Nat) (parts : List (Nat × V)) : Option Ef :=
  match lk tt t with
  | some ⟨.struct fs, _, _, z, _, _⟩ => match fieldTIs tt fs.toList with
    | some l => match buildParts l z.cells parts with
      | some cs => ok (.agg cs)
      | none => none
    | none => none
  | _ => none

def setParts (size te : Nat) (S : List (Nat × Blk)) : List V → List (Nat × V) → Option (List V)
  | es, [] => some es
  | es, (i, x) :: r => match Nat.blt i es.length, Nat.beq x.cells.length size, fits te (frz S te x) with
    | true, true, true => setParts size te S (es.set i (frz S te x)) r
    | _, _, _ => none

def tagOfL : List V → Nat
  | [] => 2
  | c :: r => match tagOfA c with
    | some t => t
    | none => tagOfL r

/-- The tag for the elements of a row that is written out: that of the first part that has one. -/
def partsTag : List (Nat × V) → Nat
  | [] => 2
  | (_, x) :: r => match x.cells.all fun c => (tagOfA c).isNone with
    | true => partsTag r
    | false => tagOfL x.cells

def rowTag (ti : TI) (parts : List (Nat × V)) : Nat := match ti.flat with
  | true => tagS
  | false => partsTag parts

def buildSliceV (tt : TT) (S : List (Nat × Blk)) (site t len : Nat) (parts : List (Nat × V)) : Option Ef :=
  match elemTI tt t with
  | some ti => match Nat.ble (len * ti.size) 16777216 with
    | true =>
     match setParts ti.size (rowTag ti parts) S (List.replicate len ti.zero) parts, allGe (parts.flatMap fun p => p.2.ids) && ((parts.flatMap fun p => p.2.ids).isEmpty || (!(Nat.beq (rowTag ti parts) tagS) && !(Nat.beq (rowTag ti parts) 1))) with
     | some es, true => some ⟨.osl site len, (site, some (.arr ti.size len (rowg es) (rowTag ti parts))) :: (parts.flatMap fun p => p.2.ids).map (fun id => (id, none)), parts.flatMap (fun p => p.2.ids), []⟩
     | _, _ => none
    | false => none
  | none => none

def makeV (tt : TT) (site t : Nat) (l c : V) : Option Ef :=
  match elemTI tt t, l, c with
  | some ti, .int _ n, .int _ m => match Nat.ble ti.bytes 1024 with
    | true => some ⟨.osl site n.toNat, [(site, some (.arr ti.size n.toNat (fun _ => ti.zero) (newTag ti)))], [], [0 ≤ n ∧ n ≤ m ∧ m ≤ (most : Int)]⟩
    | false => none
  | _, _, _ => none

/-! ### Maps from whole numbers to values that reach nothing -/
def mapTI (tt : TT) (t : Nat) : Option TI :=
  match lk tt t with
  | some ⟨.map k e, _, _, _, _, _⟩ => match lk tt k with
    | some ⟨.int _, _, _, _, _, _⟩ => lk tt e
    | _ => none
  | _ => none

def veqA : V → V → Bool
  | .int k a, .int k' b => kindB k k' && decide (a = b)
  | .bool a, .bool b => a == b
  | _, _ => false
def veqL : List V → List V → Bool
  | [], [] => true
  | a :: r, b :: q => veqA a b && veqL r q
  | _, _ => false
def veq : V → V → Bool
  | .agg as, .agg bs => veqL as bs
  | a, b => veqA a b

def setF {α : Type} (f : Int → α) (n : Int) (v : α) : Int → α := fun j => if j = n then v else f j

def makeMapV (tt : TT) (site t : Nat) : Option Ef :=
  match mapTI tt t with
  | some ti => match flatV ti.zero with
    | true => some ⟨.omap site, [(site, some (.mp ti.zero (fun _ => ti.zero) (fun _ => false)))], [], []⟩
    | false => none
  | none => none

def lookupV (tt : TT) (S : List (Nat × Blk)) (t : Nat) (x ix : V) (c : Bool) : Option Ef :=
  match mapTI tt t, x, ix with
  | some ti, .omap id, .int k n => match kindB k .i64, lk S id with
    | true, some (.mp z f h) => match veq z ti.zero with
      | true => some ⟨(match c with | true => .tup [f n, .bool (h n)] | false => f n), [], [id], []⟩
      | false => none
    | _, _ => none
  | _, _, _ => none

def mapUpdateV (tt : TT) (S : List (Nat × Blk)) (t : Nat) (x ix v : V) : Option Ef :=
  match mapTI tt t, x, ix with
  | some _, .omap id, .int k n => match kindB k .i64 && flatV v, lk S id with
    | true, some (.mp z f h) => some ⟨.undef, [(id, some (.mp z (setF f n v) (setF h n true)))], [id], []⟩
    | _, _ => none
  | _, _, _ => none

def convV (tt : TT) (src dst : Nat) (x : V) : Option Ef :=
  match lk tt src, lk tt dst, x with
  | some ⟨.int _, _, _, _, _, _⟩, some ⟨.int k, _, _, _, _, _⟩, .int _ n => okO (.int k n) [inK k n]
  | some ⟨.string, _, _, _, _, _⟩, some ⟨.string, _, _, _, _, _⟩, .str s => ok (.str s)
  | _, _, _ => none

/-- A row of bytes of one's own, as a text. -/
def isU8E (tt : TT) (t : Nat) : Bool := match elemTI tt t with
  | some ⟨.int .u8, _, _, _, _, _⟩ => true
  | _ => false
def intA : V → Int
  | .int _ n => n
  | _ => 0
def isU8V : V → Bool
  | .int .u8 _ => true
  | _ => false
def bytesV (n : Nat) (g : Nat → V) : ByteArray := strOfNums ((List.range n).map fun i => intA (g i))
def convX (tt : TT) (S : List (Nat × Blk)) (src dst : Nat) (x : V) : Option Ef :=
  match x with
  | .osl id n => match isU8E tt src && isStrT tt dst, lk S id with
    | true, some (.arr sz _ g _) => match Nat.beq sz 1 with
      | true => some ⟨.str (bytesV n g), [], [id], [∀ i, i < n → isU8V (g i) = true]⟩
      | false => none
    | _, _ => none
  | x => convV tt src dst x

def maxV (x y : V) : Option V :=
  match x, y with
  | .int k a, .int k' b => match kindB k k' with
    | true => some (.int k (if b > a then b else a))
    | false => none
  | _, _ => none
def minV (x y : V) : Option V :=
  match x, y with
  | .int k a, .int k' b => match kindB k k' with
    | true => some (.int k (if b < a then b else a))
    | false => none
  | _, _ => none
def foldV (f : V → V → Option V) : V → List V → Option V
  | x, [] => some x
  | x, y :: r => match f x y with
    | some z => foldV f z r
    | none => none

def okV : Option V → Option Ef
  | some v => ok v
  | none => none

def coreOp (cx : Cx) (S : List (Nat × Blk)) (d : Nat) (ρ : Operand → V) : Op → Option Ef
  | .move x | .assign x => ok (ρ x)
  | .alloc e => match lk cx.tt e with
    | some ti => box1 (site0 d) ti.zero.cells
    | none => none
  | .box _ x => match solid (ρ x) with
    | true => box1 (site0 d) (ρ x).cells
    | false => none
  | .build t ps => buildV cx.tt t (ps.toList.map fun p => (p.1, ρ p.2))
  | .buildSlice t len ps => buildSliceV cx.tt S (site0 d) t len (ps.toList.map fun p => (p.1, ρ p.2))
  | .load t a => match lk cx.tt t with
    | some ti => loadV S ti (ρ a)
    | none => none
  | .store t a x => match lk cx.tt t with
    | some ti => storeV S ti (ρ a) (ρ x)
    | none => none
  | .nilCheck x => match ρ x with
    | .ptr cs o t => ok (.ptr cs o t)
    | .oref id i o => ok (.oref id i o)
    | _ => none
  | .binOp op t x y _ => binV cx.tt op t (ρ x) (ρ y)
  | .unOp op _ x => match op, ρ x with
    | .not, .bool b => ok (.bool (!b))
    | .neg, .int k n => okO (.int k (0 - n)) [inK k (0 - n)]
    | _, _ => none
  | .convert s t x => convX cx.tt S s t (ρ x)
  | .makeFunc (.func f) first caps => match first.toList with
    | [] => ok (.fn f (caps.toList.map ρ))
    | _ => none
  | .makeSlice t l c => makeV cx.tt (site0 d) t (ρ l) (ρ c)
  | .slice t x lo hi mx => sliceV cx.tt t (ρ x) (lo.map ρ) (hi.map ρ) (mx.map ρ)
  | .fieldAddr s x f => fieldAddrV cx.tt s f (ρ x)
  | .field s x f => fieldV cx.tt s f (ρ x)
  | .indexAddr t x i => indexAddrV cx.tt S t (ρ x) (ρ i)
  | .index t x i => match ρ x, ρ i, isStrT cx.tt t with
    | .str s, .int _ n, true => okO (.int .u8 (byteAt s n)) [0 ≤ n ∧ n < (s.size : Int)]
    | _, _, _ => none
  | .makeMap t none => makeMapV cx.tt (site0 d) t
  | .lookup t x i c => lookupV cx.tt S t (ρ x) (ρ i) c
  | .mapUpdate t x i v => mapUpdateV cx.tt S t (ρ x) (ρ i) (ρ v)
  | .extract x i => match ρ x with
    | .tup vs => match vs[i]? with
      | some v => ok v
      | none => none
    | _ => none
  | .call c => match c.callee with
    | .builtin .len => match c.args.toList, c.argTypes.toList with
      | [x], t :: _ => lenV cx.tt t (ρ x)
      | _, _ => none
    | .builtin .append => match c.args.toList, c.argTypes.toList with
      | [s, x], t :: u :: _ => match elemTI cx.tt u with
        | some _ => appendV cx.tt S (site0 d) t (ρ s) (ρ x)
        | none => none
      | _, _ => none
    | .builtin .max => match c.args.toList with
      | x :: r => okV (foldV maxV (ρ x) (r.map ρ))
      | [] => none
    | .builtin .min => match c.args.toList with
      | x :: r => okV (foldV minV (ρ x) (r.map ρ))
      | [] => none
    | .value f => match ρ f with
      | .fn n caps => callV cx S d n (c.args.toList.map ρ ++ caps)
      | _ => none
    | _ => none
  | _ => none

def raw (s : AS) (x : Operand) : V := aval s x

/-- 'a && b', 'a || b' at their end: one of two bools. -/
def pickV (g cb : Bool) (a b : V) : Option Ef :=
  match a, b with
  | .bool p, .bool q => ok (.bool (cond cb p q))
  | .cnd c (.bool p), .bool q => okO (.bool (cond cb p q)) [g = true → cb = true → c = true]
  | .bool p, .cnd c (.bool q) => okO (.bool (cond cb p q)) [g = true → cb = false → c = true]
  | _, _ => none

def withO (l : List Prop) : Option Ef → Option Ef
  | some e => some { e with ob := l ++ e.ob }
  | none => none

def opE (cx : Cx) (s : AS) (g : Bool) (d : Nat) : Op → Option Ef
  | .pick c a b => match strip (aval s c) with
    | .bool cb => withO (stripO g (aval s c)) (pickV g cb (aval s a) (aval s b))
    | _ => none
  | op => withO ((opnds op).flatMap fun x => stripO g (aval s x)) (coreOp cx s.S d (fun x => strip (aval s x)) op)

/-- Is the operation carried out? 'some none': always. -/
def guardOf (ops : List Oper) (s : AS) (o : Oper) : Option (Option Bool) :=
  match o.guard with
  | none => some none
  | some (j, want) => match ops[j]? with
    | some oj => match oj.dst with
      | some t => match lk s.T t with
        | some (.bool b) => match want with
          | true => some (some b)
          | false => some (some (!b))
        | some (.cnd c (.bool b)) => match want with
          | true => some (some (c && b))
          | false => some (some (c && !b))
        | _ => none
      | none => none
    | none => none

def dstN (nt : Nat) (o : Oper) : Nat := match o.dst with
  | some d => d
  | none => nt

def dstOk (nt : Nat) (o : Oper) : Bool := match o.dst with
  | some d => Nat.blt d nt
  | none => true

/-- Cells of a box behind a write that is carried out just where g holds: of the old ones and the new ones. -/
def mergeC (g : Bool) : V → V → Option (V × List Prop)
  | .int k a, .int k' b => match decide (k = k') with
    | true => some (.int k' (cond g b a), [])
    | false => none
  | .sl n f t, .sl n' f' t' => some (.sl n' f' (match Nat.beq t t' with | true => t' | false => 0), [g = false → V.sl n f 0 = V.sl n' f' 0])
  | _, _ => none

def mergeCs (g : Bool) : List V → List V → Option (List V × List Prop)
  | [], [] => some ([], [])
  | a :: r, b :: r' => match mergeC g a b, mergeCs g r r' with
    | some (c, p), some (cs, ps) => some (c :: cs, p ++ ps)
    | _, _ => none
  | _, _ => none

def operE (cx : Cx) (ops : List Oper) (s : AS) (o : Oper) : Option Ef :=
  match guardOf ops s o, dstOk cx.nt o with
  | some none, true => opE cx s true (dstN cx.nt o) o.op
  | some (some g), true => match opE cx s g (dstN cx.nt o) o.op with
    | some ⟨v, [], rd, ob⟩ => some ⟨.cnd g v, [], rd, ob.map fun p => g = true → p⟩
    | some ⟨v, [(id, some (.box new))], rd, ob⟩ => match lk s.S id with
      | some (.box old) => match mergeCs g old new with
        | some (m, ps) => some ⟨.cnd g v, [(id, some (.box m))], id :: rd, (ob.map fun p => g = true → p) ++ ps⟩
        | none => none
      | _ => none
    | _ => none
  | _, _ => none

/-! ### Regions -/
def dstsOf (nt : Nat) : List Oper → List Nat
  | [] => []
  | o :: r => (dstN nt o + 1) :: dstsOf nt r

def offIf (p : Nat → Bool) (v : V) : V := match V.ment p v with
  | true => .undef
  | false => v

def clearBlk (p : Nat → Bool) : Blk → Blk
  | .arr sz n g te => .arr sz n g te
  | .box cs => .box (cs.map (offIf p))
  | .mp z f h => .mp z f h

/-- All that names one of these ids is forgotten. -/
def purge (p : Nat → Bool) (s : AS) : AS :=
  { T := s.T.map fun e => (e.1, offIf p e.2)
    S := (s.S.filter fun e => !(p e.1)).map fun e => (e.1, clearBlk p e.2) }

def atSites (ds : List Nat) (id : Nat) : Bool := mem (id / 64) ds

def AS.only (s : AS) (keep : List Nat) : AS := { s with T := s.T.filter fun e => mem e.1 keep }

/-- The ids that an effect names. -/
def Ef.names (e : Ef) : List Nat :=
  e.v.ids ++ e.rd ++ e.upd.flatMap fun p => p.1 :: (match p.2 with
    | some b => b.ids
    | none => [])

/-- The ids whose blocks an effect looks at or writes. -/
def Ef.touch (e : Ef) : List Nat := e.rd ++ e.upd.map (·.1)

def offSites (nt : Nat) (r : List Oper) (e : Ef) : Bool := e.names.all fun id => !(atSites (dstsOf nt r) id)

/-- What '&&', '||' give is called by a name from there on. -/
def nameB (o : Oper) (e : Ef) (K : Ef → Prop) : Prop := match o.op, e with
  | .pick _ _ _, ⟨.bool x, upd, rd, ob⟩ => ∀ b : Bool, b = x → K ⟨.bool b, upd, rd, ob⟩
  | .pick _ _ _, ⟨.cnd g (.bool x), upd, rd, ob⟩ => ∀ b : Bool, b = x → K ⟨.cnd g (.bool b), upd, rd, ob⟩
  | _, e => K e

theorem nameB_at {o : Oper} {e : Ef} {K : Ef → Prop} (h : nameB o e K) : K e := by
  unfold nameB at h
  split at h
  · exact h _ rfl
  · exact h _ rfl
  · exact h

def runOps (cx : Cx) (ops : List Oper) : List Oper → AS → List Ef → (AS → List Ef → Prop) → Prop
  | [], s, es, K => K s es
  | o :: r, s, es, K => match operE cx ops s o with
    | some e => match offSites cx.nt r e with
      | true => obs e.ob (nameB o e fun e => runOps cx ops r (s.app o.dst e) (e :: es) K)
      | false => False
    | none => False

/-! Calls that write into a row and all that its elements reach: what is known behind them. -/
def keepA : V → Bool
  | .int _ _ => true
  | .bool _ => true
  | .str _ => true
  | .nil => true
  | .undef => true
  | .sl _ _ t => Nat.beq t 1
  | .ptr _ _ t => Nat.beq t 1
  | _ => false

def keepC (id : Nat) : V → Bool
  | .osl k _ => !(Nat.beq k id)
  | .oref k _ _ => !(Nat.beq k id)
  | v => keepA v

def keepV (id : Nat) : V → Bool
  | .agg cs => cs.all (keepC id)
  | v => keepC id v

def keepB (id : Nat) : Blk → Bool
  | .arr _ _ _ te => Nat.beq te tagS || Nat.beq te 1
  | .box cs => cs.all (keepC id)
  | .mp _ _ _ => true

def keepOr (id : Nat) (v : V) : V := match keepV id v with
  | true => v
  | false => .undef

def badIds (id : Nat) : List (Nat × Blk) → List Nat
  | [] => []
  | (k, b) :: r => match !(Nat.beq k id) && keepB id b with
    | true => badIds id r
    | false => k :: badIds id r

def forget (id : Nat) (s : AS) : AS :=
  { T := s.T.map fun e => (e.1, keepOr id e.2), S := applyUpd s.S ((badIds id s.S).map fun k => (k, none)) }

def markOf (cx : Cx) (s : AS) (o : Oper) : Option (Prop × AS) :=
  match o.guard, o.dst, o.op with
  | none, some d, .call c => match c.callee, c.args.toList with
    | .value (.func f), [x, k] => match aval s x, aval s k, cx.M f with
      | .osl id n, .int .i64 m, some M => match lk s.S id, Nat.ble 64 id && Nat.blt d cx.nt with
        | some (.arr _ _ g te), true => match Nat.ble 2 te, M n g m with
          | true, some (ob, r) => some (ob, { forget id s with T := put (forget id s).T d (.int .i64 r) })
          | _, _ => none
        | _, _ => none
      | _, _, _ => none
    | _, _ => none
  | _, _, _ => none

/-- Is the row nil? True of an empty row alone; an empty row may answer either way. -/
def nilT (cx : Cx) (s : AS) (o : Oper) : Option (Nat × Nat) :=
  match o.guard, o.dst, o.op with
  | none, some d, .binOp .eql t x (.const (.slice none 0 0)) _ => match Nat.blt d cx.nt && isSlT cx.tt t, aval s x with
    | true, .sl n _ _ => some (d, n)
    | true, .osl _ n => some (d, n)
    | true, .nil => some (d, 0)
    | _, _ => none
  | _, _, _ => none

def runM (cx : Cx) (ops : List Oper) : List Oper → AS → (AS → Prop) → Prop
  | [], s, K => K s
  | o :: r, s, K => match markOf cx s o with
    | some (ob, s') => ob ∧ runM cx ops r s' K
    | none => match nilT cx s o with
      | some (d, n) => ∀ b : Bool, (b = true → n = 0) → runM cx ops r { s with T := put s.T d (.bool b) } K
      | none => match operE cx ops s o with
        | some e => match offSites cx.nt r e with
          | true => obs e.ob (nameB o e fun e => runM cx ops r (s.app o.dst e) K)
          | false => False
        | none => False

/-! The orders of a region: which operations wait for which. -/
def edgesOf (o : Oper) : List Nat := o.after.toList.filterMap fun e => match Region.binds .any e with
  | true => some e.on
  | false => none

/-- For each operation all those that stand ahead of it in every order. -/
def closures : List Oper → List (List Nat) → List (List Nat)
  | [], acc => acc
  | o :: r, acc => closures r (acc ++ [undup ((edgesOf o) ++ (edgesOf o).flatMap fun i => acc.getD i [])])

def tmpsOf (l : List Operand) : List Nat := l.filterMap fun x => match x with
  | .tmp t => some t
  | _ => none

def lookO : Op → List Operand
  | .pick c a b => [c, a, b]
  | op => opnds op

def looksOf (ops : List Oper) (o : Oper) : List Nat :=
  tmpsOf (lookO o.op) ++
  (match o.guard with
    | some (j, _) => match (ops[j]?).bind (·.dst) with
      | some t => [t]
      | none => []
    | none => [])

def Blk.names : Blk → List Nat := Blk.ids

def apartL : List Nat → List Nat → Bool
  | [], _ => true
  | k :: r, l => !mem k l && apartL r l

def dstL (o : Oper) : List Nat := match o.dst with
  | some d => [d]
  | none => []

def offSite (nt : Nat) (o : Oper) (e : Ef) : Bool := e.names.all fun id => !(Nat.beq (id / 64) (dstN nt o + 1))

/-- Two operations that may stand in either order do not touch each other. -/
def indep2 (nt : Nat) (ops : List Oper) (a : Oper) (ea : Ef) (b : Oper) (eb : Ef) : Bool :=
  apartL (dstL a) (dstL b ++ looksOf ops b) && apartL (dstL b) (looksOf ops a) &&
  apartL (ea.upd.map (·.1)) eb.touch && apartL (eb.upd.map (·.1)) ea.touch && offSite nt a eb && offSite nt b ea

def indepRow (nt : Nat) (ops : List Oper) (o : Oper) (e : Ef) (cl : List Nat) : List (Oper × Ef) → Nat → Bool
  | [], _ => true
  | (o', e') :: r, j => (mem j cl || indep2 nt ops o e o' e') && indepRow nt ops o e cl r (j + 1)

/-- Every pair of operations of the region: ordered, or apart. -/
def indepAll (nt : Nat) (ops : List Oper) (cls : List (List Nat)) : List (Oper × Ef) → List (Oper × Ef) → Nat → Bool
  | _, [], _ => true
  | past, (o, e) :: r, i => indepRow nt ops o e (cls.getD i []) past 0 && indepAll nt ops cls (past ++ [(o, e)]) r (i + 1)

def backEdges : List Oper → Nat → Bool
  | [], _ => true
  | o :: r, i => (edgesOf o).all (fun j => Nat.blt j i) && backEdges r (i + 1)

def region (cx : Cx) (ops : List Oper) (draw : Bool) (s : AS) (K : AS → Prop) : Prop :=
  runOps cx ops ops (purge (atSites (dstsOf cx.nt ops)) s) [] fun s' es =>
    match draw with
    | false => K (s'.only cx.keep)
    | true => match backEdges ops 0 && indepAll cx.nt ops (closures ops []) [] (ops.zip es.reverse) 0 with
      | true => K (s'.only cx.keep)
      | false => False

def regionM (cx : Cx) (ops : List Oper) (draw : Bool) (s : AS) (K : AS → Prop) : Prop :=
  match draw with
  | true => False
  | false => runM cx ops ops (purge (atSites (dstsOf cx.nt ops)) s) fun s' => K (s'.only cx.keep)

/-! ### Loop heads -/
def renId (a b : Nat) (s : AS) : AS :=
  let f := fun x => match Nat.beq x a with
    | true => b
    | false => x
  { T := s.T.map fun e => (e.1, e.2.ren f)
    S := s.S.map fun e => (f e.1, e.2.ren f) }

/-- The id 'a' is called 'b' from here on. -/
def moveId (a b : Nat) (s : AS) : AS := match Nat.beq a b || Nat.blt a 64 with
  | true => s
  | false => renId a b (purge (fun x => Nat.beq x b) s)

def canonT (t : Nat) : Nat := 64 * (t + 500001)
def canonB (id i : Nat) : Nat := 64 * (1000000 + id * 64 + i)

def ownT (t sz : Nat) (s : AS) : AS :=
  match lk s.T t with
  | some (.osl id _) => moveId id (canonT t) s
  | some .nil =>
    let s := purge (fun x => Nat.beq x (canonT t)) s
    { T := put s.T t (.osl (canonT t) 0), S := put s.S (canonT t) (.arr sz 0 (fun _ => .undef) tagS) }
  | _ => s

def ownB (id i sz : Nat) (s : AS) : AS :=
  match lk s.S id with
  | some (.box cs) => match cs[i]? with
    | some (.osl x _) => moveId x (canonB id i) s
    | some .nil =>
      let s := purge (fun x => Nat.beq x (canonB id i)) s
      match lk s.S id with
      | some (.box cs) => { s with S := put (put s.S id (.box (cs.set i (.osl (canonB id i) 0)))) (canonB id i) (.arr sz 0 (fun _ => .undef) tagS) }
      | _ => s
    | _ => s
  | _ => s

def ownTs : List (Nat × Option Nat) → AS → AS
  | [], s => s
  | (t, some sz) :: r, s => ownTs r (ownT t sz s)
  | (_, none) :: r, s => ownTs r s

def ownBs1 (id : Nat) : List (Nat × Nat) → AS → AS
  | [], s => s
  | (i, sz) :: r, s => ownBs1 id r (ownB id i sz s)

def ownBs : List (Nat × List (Nat × Nat)) → AS → AS
  | [], s => s
  | (id, l) :: r, s => ownBs r (ownBs1 id l s)

def pickT (T : List (Nat × V)) : List (Nat × Option Nat) → List (Nat × V)
  | [] => []
  | (t, _) :: r => match lk T t with
    | some v => (t, v) :: pickT T r
    | none => pickT T r

def keepIds (l : LK) : List Nat :=
  (l.ts.filterMap fun p => match p.2 with
    | some _ => some (canonT p.1)
    | none => none) ++ l.bs.flatMap fun p => p.1 :: p.2.map fun q => canonB p.1 q.1

def pickS (S : List (Nat × Blk)) : List Nat → List (Nat × Blk)
  | [] => []
  | id :: r => match lk S id with
    | some b => (id, b) :: pickS S r
    | none => pickS S r

def maskTo (l : LK) (s : AS) : AS :=
  let s := ownBs l.bs (ownTs l.ts s)
  { T := pickT s.T l.ts, S := pickS s.S (keepIds l) }

def firstRegion : Code → Nat
  | .region id _ _ => id
  | .seq a _ => firstRegion a
  | .block _ a => firstRegion a
  | .loop a => firstRegion a
  | .cond _ a _ => firstRegion a
  | _ => 0

def mask (cx : Cx) (c : Code) (s : AS) : AS := match lk cx.lks (firstRegion c) with
  | some l => maskTo l s
  | none => s

def thenQ (next : AS → Prop) (Q : Exit → AS → Prop) : Exit → AS → Prop
  | .normal, s => next s
  | e, s => Q e s

def blockQ (id : Nat) (Q : Exit → AS → Prop) : Exit → AS → Prop
  | .exit j, s => match Nat.beq j id with
    | true => Q .normal s
    | false => Q (.exit j) s
  | e, s => Q e s

/-! ### Functions -/
def resOne (tt : TT) (s : AS) : ResultVar → Option V
  | .tmp t => some (aval s (.tmp t))
  | .cell a t => match lk tt t with
    | some ti => match loadV s.S ti (aval s (.tmp a)) with
      | some ⟨v, _, _, []⟩ => some v
      | _ => none
    | none => none

def resL (tt : TT) (s : AS) : List ResultVar → Option (List V)
  | [] => some []
  | x :: r => match resOne tt s x, resL tt s r with
    | some v, some l => some (v :: l)
    | _, _ => none

def resV (tt : TT) (s : AS) (rs : List ResultVar) : Option V := match resL tt s rs with
  | some [v] => some v
  | some l => some (.tup l)
  | none => none

/-- A cell as a result: all frozen, under the tag c; what has a lower tag than lim is not told. -/
def frzXA (S : List (Nat × Blk)) (lim c : Nat) : V → V
  | .osl id n => match lk S id, Nat.ble 64 id with
    | some (.arr _ _ g te), true => match Nat.ble lim te with
      | true => .sl n g c
      | false => .undef
    | _, _ => .undef
  | .oref id i off => match lk S id, Nat.ble 64 id with
    | some (.arr _ _ g te), true => match Nat.ble lim te with
      | true => .ptr (g i).cells off c
      | false => .undef
    | _, _ => .undef
  | .sl n g t => match Nat.ble lim t with
    | true => .sl n g c
    | false => .undef
  | .ptr cs o t => match Nat.ble lim t with
    | true => .ptr cs o c
    | false => .undef
  | .agg _ => .undef
  | .tup _ => .undef
  | .fn _ _ => .undef
  | .cnd _ _ => .undef
  | .omap _ => .undef
  | v => v

def frzXB (S : List (Nat × Blk)) (lim c : Nat) : V → V
  | .oref id i off => match lk S id, Nat.ble 64 id with
    | some (.box cs), true => match i with
      | 0 => .ptr (cs.map (frzXA S lim c)) off c
      | _ => .undef
    | _, _ => frzXA S lim c (.oref id i off)
  | .agg cs => .agg (cs.map (frzXA S lim c))
  | .fn f cs => .fn f (cs.map (frzXA S lim c))
  | v => frzXA S lim c v

def frzX (S : List (Nat × Blk)) (lim c : Nat) : V → V
  | .tup vs => .tup (vs.map (frzXB S lim c))
  | v => frzXB S lim c v

/-- How a result is told, where no blocks were handed in: 0: all frozen, of whatever memory; else: all frozen, made by the call. -/
def exportV (pol : Nat) (s : AS) (r : V) : V := match pol with
  | 0 => frzX s.S 0 0 r
  | _ => frzX s.S 2 2 r

def enterT : List V → Nat → List (Nat × V)
  | [], _ => []
  | v :: r, i => (i, v) :: enterT r (i + 1)

def enterS : List Blk → Nat → List (Nat × Blk)
  | [], _ => []
  | b :: r, i => (i, b) :: enterS r (i + 1)

end Go.Av

/- What an abstract value says of a value and of memory, and that it stays so while memory that it does not reach is written. -/
namespace Go.Av
set_option linter.unusedVariables false
set_option linter.unusedSimpArgs false

/-- A value without blocks of one's own; all that it reaches lies in blocks of A. -/
inductive PRep (w : World) (A : Nat → Prop) : V → Value → Prop where
  | int (k : IntKind) (n : Int) : PRep w A (.int k n) (.int k n)
  | bool (b : Bool) : PRep w A (.bool b) (.bool b)
  | str (s : ByteArray) : PRep w A (.str s) (.string s)
  | nil (a : Option Addr) : PRep w A .nil (.slice a 0 0)
  | sl0 (a : Option Addr) (cap : Nat) (g : Nat → V) (t : Nat) : PRep w A (.sl 0 g t) (.slice a 0 cap)
  | sl {n : Nat} {g : Nat → V} {t b off cap sz : Nat} (cv : Nat → Nat → Value) (hA : A b) (hcap : n ≤ cap)
      (hsz : ∀ i, i < n → (g i).cells.length = sz)
      (hc : ∀ i j, i < n → j < sz → w.cell? ⟨b, off + i * sz + j, none⟩ = some (cv i j))
      (hr : ∀ i j, i < n → j < sz → PRep w A ((g i).cells.getD j .undef) (cv i j)) :
      PRep w A (.sl n g t) (.slice (some ⟨b, off, none⟩) n cap)
  | ptr {cs : List V} {off t b base : Nat} (cv : Nat → Value) (hA : A b)
      (hc : ∀ j, j < cs.length → w.cell? ⟨b, base + j, none⟩ = some (cv j))
      (hr : ∀ j, j < cs.length → PRep w A (cs.getD j .undef) (cv j)) :
      PRep w A (.ptr cs off t) (.pointer (some ⟨b, base + off, none⟩))
  | agg {cs : List V} (arr : Array Value) (hs : arr.size = cs.length)
      (hr : ∀ j, j < cs.length → PRep w A (cs.getD j .undef) (arr.getD j Go.undef)) : PRep w A (.agg cs) (.agg arr)
  | tup {cs : List V} (arr : Array Value) (hs : arr.size = cs.length)
      (hr : ∀ j, j < cs.length → PRep w A (cs.getD j .undef) (arr.getD j Go.undef)) : PRep w A (.tup cs) (.tuple arr)
  | fn {f : FuncId} {cs : List V} (arr : Array Value) (hs : arr.size = cs.length)
      (hr : ∀ j, j < cs.length → PRep w A (cs.getD j .undef) (arr.getD j Go.undef)) : PRep w A (.fn f cs) (.func (.func f) #[] arr)
  | undef (x : Value) : PRep w A .undef x

theorem PRep.mono {w w' : World} {A A' : Nat → Prop} {v : V} {x : Value} (h : PRep w A v x)
    (hA : ∀ b, A b → A' b ∧ w'.heap[b]? = w.heap[b]?) : PRep w' A' v x := by
  induction h with
  | int => exact .int _ _
  | bool => exact .bool _
  | str => exact .str _
  | nil => exact .nil _
  | sl0 => exact .sl0 _ _ _ _
  | sl cv hb hcap hsz hc _ ih =>
    exact .sl cv (hA _ hb).1 hcap hsz (fun i j hi hj => by rw [World.cell?_of_block (w := w) (hA _ hb).2]; exact hc i j hi hj) ih
  | ptr cv hb hc _ ih =>
    exact .ptr cv (hA _ hb).1 (fun j hj => by rw [World.cell?_of_block (w := w) (hA _ hb).2]; exact hc j hj) ih
  | agg arr hs _ ih => exact .agg arr hs ih
  | tup arr hs _ ih => exact .tup arr hs ih
  | fn arr hs _ ih => exact .fn arr hs ih
  | undef => exact .undef _

theorem PRep.weaken {w : World} {A A' : Nat → Prop} {v : V} {x : Value} (h : PRep w A v x) (hA : ∀ b, A b → A' b) : PRep w A' v x :=
  h.mono fun b hb => ⟨hA b hb, rfl⟩

/-- Where the blocks of one's own lie: block, cells of an element, elements; none: there is no block (an empty slice without memory). -/
abbrev Iota := Nat → Option (Nat × Nat × Nat)

def isP : V → Bool
  | .osl _ _ => false
  | .oref _ _ _ => false
  | .omap _ => false
  | .agg _ => false
  | .tup _ => false
  | .fn _ _ => false
  | .cnd _ _ => false
  | _ => true

def tagD (v : V) : Nat := match tagOfA v with
  | some t => t
  | none => tagS

inductive TRep (w : World) (Fr : Nat → Nat → Prop) (ι : Iota) : V → Value → Prop where
  | atom {v : V} {x : Value} (hv : isP v = true) (h : PRep w (Fr (tagD v)) v x) : TRep w Fr ι v x
  | osl {id n b sz m cap c : Nat} {e : TypeId} (hi : ι id = some (b, sz, m)) (hn : n ≤ m) (hc : n ≤ cap)
      (hs : w.shape? b = some (e, c)) (hcs : cap * sz ≤ c) : TRep w Fr ι (.osl id n) (.slice (some ⟨b, 0, none⟩) n cap)
  | osl0 {id : Nat} (a : Option Addr) (hi : ι id = none) : TRep w Fr ι (.osl id 0) (.slice a 0 0)
  | oref {id i off b sz m : Nat} (hi : ι id = some (b, sz, m)) (him : i < m) : TRep w Fr ι (.oref id i off) (.pointer (some ⟨b, i * sz + off, none⟩))
  | omap {id b sz m : Nat} (hi : ι id = some (b, sz, m)) : TRep w Fr ι (.omap id) (.map (some b))
  | agg {cs : List V} (arr : Array Value) (hs : arr.size = cs.length)
      (hr : ∀ j, j < cs.length → TRep w Fr ι (cs.getD j .undef) (arr.getD j Go.undef)) : TRep w Fr ι (.agg cs) (.agg arr)
  | tup {cs : List V} (arr : Array Value) (hs : arr.size = cs.length)
      (hr : ∀ j, j < cs.length → TRep w Fr ι (cs.getD j .undef) (arr.getD j Go.undef)) : TRep w Fr ι (.tup cs) (.tuple arr)
  | fn {f : FuncId} {cs : List V} (arr : Array Value) (hs : arr.size = cs.length)
      (hr : ∀ j, j < cs.length → TRep w Fr ι (cs.getD j .undef) (arr.getD j Go.undef)) : TRep w Fr ι (.fn f cs) (.func (.func f) #[] arr)
  | cnd {c : Bool} {v : V} {x : Value} (ht : c = true → TRep w Fr ι v x) (hf : c = false → x = Go.undef) : TRep w Fr ι (.cnd c v) x

theorem mentL_getD {p : Nat → Bool} : ∀ {cs : List V} {j : Nat}, V.mentL p cs = false → j < cs.length → V.ment p (cs.getD j .undef) = false
  | [], _, _, h => by simp at h
  | c :: cs, 0, h, _ => by simp [V.mentL] at h; simpa using h.1
  | c :: cs, j + 1, h, hj => by
    simp [V.mentL] at h
    have := mentL_getD (cs := cs) (j := j) (by simpa using h.2) (by simpa using hj)
    simpa using this

/-- It stays so: what it reaches in frozen memory is as it was, the ids that it names lie where they lay, rows have kept their sizes. -/
theorem TRep.mono {w w' : World} {Fr Fr' : Nat → Nat → Prop} {ι ι' : Iota} {p : Nat → Bool} {v : V} {x : Value} (h : TRep w Fr ι v x)
    (hF : ∀ t b, Fr t b → Fr' t b ∧ w'.heap[b]? = w.heap[b]?) (hι : ∀ id, p id = false → ι' id = ι id) (hm : V.ment p v = false)
    (hsh : ∀ id r e, p id = false → ι id = some r → w.shape? r.1 = some e → w'.shape? r.1 = some e) : TRep w' Fr' ι' v x := by
  induction h with
  | atom hv hp => exact .atom hv (hp.mono fun b hb => hF _ b hb)
  | osl hi hn hc hs hcs =>
    have hp := hm
    simp only [V.ment] at hp
    exact .osl (by rw [hι _ hp]; exact hi) hn hc (hsh _ _ _ hp hi hs) hcs
  | osl0 a hi =>
    have hp := hm
    simp only [V.ment] at hp
    exact .osl0 a (by rw [hι _ hp]; exact hi)
  | omap hi =>
    have hp := hm
    simp only [V.ment] at hp
    exact .omap (by rw [hι _ hp]; exact hi)
  | oref hi him =>
    have hp := hm
    simp only [V.ment] at hp
    exact .oref (by rw [hι _ hp]; exact hi) him
  | agg arr hs _ ih => exact .agg arr hs fun j hj => ih j hj (mentL_getD (by simpa [V.ment] using hm) hj)
  | tup arr hs _ ih => exact .tup arr hs fun j hj => ih j hj (mentL_getD (by simpa [V.ment] using hm) hj)
  | fn arr hs _ ih => exact .fn arr hs fun j hj => ih j hj (mentL_getD (by simpa [V.ment] using hm) hj)
  | cnd _ hf ih => exact .cnd (fun hc => ih hc (by simpa [V.ment] using hm)) hf

mutual
theorem ment_false : ∀ v : V, V.ment (fun _ => false) v = false
  | .osl _ _ => rfl
  | .oref _ _ _ => rfl
  | .omap _ => rfl
  | .agg cs => mentL_false cs
  | .tup cs => mentL_false cs
  | .fn _ cs => mentL_false cs
  | .cnd _ v => ment_false v
  | .int _ _ => rfl
  | .bool _ => rfl
  | .str _ => rfl
  | .nil => rfl
  | .sl _ _ _ => rfl
  | .ptr _ _ _ => rfl
  | .undef => rfl
theorem mentL_false : ∀ l : List V, V.mentL (fun _ => false) l = false
  | [] => rfl
  | v :: r => by simp [V.mentL, ment_false v, mentL_false r]
end

/-- The same places, more memory. -/
theorem TRep.world {w w' : World} {Fr Fr' : Nat → Nat → Prop} {ι : Iota} {v : V} {x : Value} (h : TRep w Fr ι v x)
    (hF : ∀ t b, Fr t b → Fr' t b ∧ w'.heap[b]? = w.heap[b]?) (hsh : ∀ b e, w.shape? b = some e → w'.shape? b = some e) : TRep w' Fr' ι v x :=
  h.mono (p := fun _ => false) hF (fun _ _ => rfl) (ment_false v) fun _ r e _ _ hs => hsh r.1 e hs

/-- A block of one's own. -/
def look : List MapEntry → Int → Option Value
  | [], _ => none
  | e :: es, k => match e.key with
    | .int .i64 k' => if k = k' then some e.val else look es k
    | _ => look es k

def OwnB (w : World) (Fr : Nat → Nat → Prop) (ι : Iota) (b sz m : Nat) : Blk → Prop
  | .arr sz' n g te => sz' = sz ∧ n = m ∧ ∃ cells e, w.heap[b]? = some (.cells cells e (0, 0)) ∧ n * sz ≤ cells.size ∧
      (∀ i, i < n → (g i).cells.length = sz) ∧
      ∀ i j, i < n → j < sz → PRep w (Fr te) ((g i).cells.getD j .undef) (cells.getD (i * sz + j) Go.undef)
  | .box cs => ∃ cells e, w.heap[b]? = some (.cells cells e (0, 0)) ∧ cells.size = cs.length ∧
      ∀ j, j < cs.length → TRep w Fr ι (cs.getD j .undef) (cells.getD j Go.undef)
  | .mp z f h => ∃ es clock, w.heap[b]? = some (.map es clock) ∧ (∀ e ∈ es.toList, ∃ k : Int, e.key = .int .i64 k) ∧
      ∀ k, match look es.toList k with
        | some x => h k = true ∧ PRep w (fun _ => False) (f k) x
        | none => h k = false ∧ f k = z

theorem OwnB.mono {w w' : World} {Fr Fr' : Nat → Nat → Prop} {ι ι' : Iota} {p : Nat → Bool} {b sz m : Nat} {blk : Blk} (h : OwnB w Fr ι b sz m blk)
    (hb : w'.heap[b]? = w.heap[b]?) (hF : ∀ t b, Fr t b → Fr' t b ∧ w'.heap[b]? = w.heap[b]?) (hι : ∀ id, p id = false → ι' id = ι id)
    (hm : blk.ment p = false) (hsh : ∀ id r e, p id = false → ι id = some r → w.shape? r.1 = some e → w'.shape? r.1 = some e) : OwnB w' Fr' ι' b sz m blk := by
  cases blk with
  | arr sz' n g te =>
    obtain ⟨h1, h2, cells, e, hh, hsz, hg, hr⟩ := h
    exact ⟨h1, h2, cells, e, hb.trans hh, hsz, hg, fun i j hi hj => (hr i j hi hj).mono fun b hb => hF _ b hb⟩
  | box cs =>
    obtain ⟨cells, e, hh, hsz, hr⟩ := h
    exact ⟨cells, e, hb.trans hh, hsz, fun j hj => (hr j hj).mono hF hι (mentL_getD (by simpa [Blk.ment] using hm) hj) hsh⟩
  | mp z f hm' =>
    obtain ⟨es, c, hh, hk, hr⟩ := h
    refine ⟨es, c, hb.trans hh, hk, fun k => ?_⟩
    have := hr k
    split at this
    · exact ⟨this.1, this.2.mono fun b hb => absurd hb id⟩
    · exact this

theorem OwnB.mapTo {w w' : World} {Fr Fr' : Nat → Nat → Prop} {ι ι' : Iota} {b sz m sz' m' : Nat} {z : V} {f : Int → V} {hh : Int → Bool} (h : OwnB w Fr ι b sz m (.mp z f hh))
    (hb : w'.heap[b]? = w.heap[b]?) : OwnB w' Fr' ι' b sz' m' (.mp z f hh) := by
  obtain ⟨es, c, h1, hk, hr⟩ := h
  refine ⟨es, c, hb.trans h1, hk, fun k => ?_⟩
  have := hr k
  split at this
  · exact ⟨this.1, this.2.mono fun b hb => absurd hb id⟩
  · exact this

theorem Blk.ment_false (b : Blk) : b.ment (fun _ => false) = false := by
  cases b with
  | arr => rfl
  | box cs => exact mentL_false cs
  | mp => rfl

/-- What a call is in. -/
structure G where
  w0 : World
  X0 : Nat → Prop
  io : Nat → Prop
  nt : Nat
  ι0 : Iota

structure Rel (g : G) (s : AS) (a : Act) (w : World) (ι : Iota) (Fr : Nat → Nat → Prop) : Prop where
  defers : a.defers = []
  size : a.tmps.size = g.nt
  tmp : ∀ t v, lk s.T t = some v → TRep w Fr ι v (a.tmps.getD t Go.undef)
  own : ∀ id blk b sz m, lk s.S id = some blk → ι id = some (b, sz, m) → OwnB w Fr ι b sz m blk ∧ (g.w0.heap.size ≤ b ∨ (g.io b ∧ id < 64))
  nob : ∀ id blk, lk s.S id = some blk → ι id = none → ∃ sz h te, blk = .arr sz 0 h te
  inj : ∀ id id' blk blk' r r', lk s.S id = some blk → lk s.S id' = some blk' → ι id = some r → ι id' = some r' → r.1 = r'.1 → id = id'
  fr : ∀ t b, Fr t b → b < w.heap.size ∧ ¬ g.X0 b ∧ ∀ id blk r, lk s.S id = some blk → ι id = some r → r.1 ≠ b
  frS : ∀ b, ¬ Fr tagS b
  fr0 : ∀ t b, Fr t b → Fr 0 b
  fr2 : ∀ t b, 2 ≤ t → Fr t b → g.w0.heap.size ≤ b
  fr1 : ∀ b, Fr 1 b → b < g.w0.heap.size
  cl : ∀ t b, 2 ≤ t → Fr t b → ∃ arr e, w.heap[b]? = some (.cells arr e (0, 0))
  low : ∀ id, id < 64 → ι id = g.ι0 id
  x0 : ∀ b, g.X0 b → b < g.w0.heap.size ∧ ¬ g.io b
  io0 : ∀ b, g.io b → b < g.w0.heap.size
  os : w.os = g.w0.os
  tape : w.tape = g.w0.tape
  output : w.output = g.w0.output
  hsize : g.w0.heap.size ≤ w.heap.size
  frame : ∀ b, b < g.w0.heap.size → ¬ g.io b → w.heap[b]? = g.w0.heap[b]?
  shape : ∀ b e, g.w0.shape? b = some e → w.shape? b = some e

/-- Only what is looked up counts. -/
theorem Rel.congr {g : G} {s s' : AS} {a : Act} {w : World} {ι : Iota} {Fr : Nat → Nat → Prop} (h : Rel g s a w ι Fr)
    (hT : ∀ t, lk s'.T t = lk s.T t) (hS : ∀ id, lk s'.S id = lk s.S id) : Rel g s' a w ι Fr :=
  { h with
    tmp := fun t v ht => h.tmp t v (by rw [← hT]; exact ht)
    own := fun id blk b sz m hl => h.own id blk b sz m (by rw [← hS]; exact hl)
    nob := fun id blk hl => h.nob id blk (by rw [← hS]; exact hl)
    inj := fun id id' blk blk' r r' h1 h2 => h.inj id id' blk blk' r r' (by rw [← hS]; exact h1) (by rw [← hS]; exact h2)
    fr := fun t b hb => ⟨(h.fr t b hb).1, (h.fr t b hb).2.1, fun id blk r hl => (h.fr t b hb).2.2 id blk r (by rw [← hS]; exact hl)⟩ }

/-- What is known less. -/
theorem Rel.less {g : G} {s s' : AS} {a : Act} {w : World} {ι : Iota} {Fr : Nat → Nat → Prop} (h : Rel g s a w ι Fr)
    (hT : ∀ t v, lk s'.T t = some v → lk s.T t = some v) (hS : ∀ id b, lk s'.S id = some b → lk s.S id = some b) : Rel g s' a w ι Fr :=
  { h with
    tmp := fun t v ht => h.tmp t v (hT _ _ ht)
    own := fun id blk b sz m hl => h.own id blk b sz m (hS _ _ hl)
    nob := fun id blk hl => h.nob id blk (hS _ _ hl)
    inj := fun id id' blk blk' r r' h1 h2 => h.inj id id' blk blk' r r' (hS _ _ h1) (hS _ _ h2)
    fr := fun t b hb => ⟨(h.fr t b hb).1, (h.fr t b hb).2.1, fun id blk r hl => (h.fr t b hb).2.2 id blk r (hS _ _ hl)⟩ }

/-! ### Tables -/
theorem natBeq {a b : Nat} : Nat.beq a b = true ↔ a = b := by
  constructor
  · exact Nat.eq_of_beq_eq_true
  · rintro rfl; exact Nat.beq_refl a

theorem natBeqF {a b : Nat} : Nat.beq a b = false ↔ a ≠ b := by
  rw [← Bool.not_eq_true, natBeq]

theorem lk_del {α : Type} (l : List (Nat × α)) (n m : Nat) : lk (del l n) m = if m = n then none else lk l m := by
  induction l with
  | nil => simp [del, lk]
  | cons p r ih =>
    obtain ⟨k, x⟩ := p
    cases hk : Nat.beq k n with
    | true =>
      have := natBeq.1 hk
      subst this
      simp only [del, hk, ih]
      by_cases hm : m = k
      · simp [hm]
      · simp only [hm, if_false, lk]
        rw [natBeqF.2 (fun h => hm h.symm)]
    | false =>
      have hkn := natBeqF.1 hk
      simp only [del, hk, lk]
      cases hkm : Nat.beq k m with
      | true =>
        have := natBeq.1 hkm
        subst this
        simp [hkn]
      | false => simp only [ih]

theorem lk_put {α : Type} (l : List (Nat × α)) (n m : Nat) (x : α) : lk (put l n x) m = if m = n then some x else lk l m := by
  unfold put
  simp only [lk]
  cases hk : Nat.beq n m with
  | true => have := natBeq.1 hk; subst this; simp
  | false =>
    have := natBeqF.1 hk
    simp only [lk_del]
    have h : m ≠ n := fun h => this h.symm
    simp [h]

theorem mem_iff {n : Nat} : ∀ {l : List Nat}, mem n l = true ↔ n ∈ l
  | [] => by simp [mem]
  | k :: r => by
    simp only [mem, Bool.or_eq_true, natBeq, mem_iff, List.mem_cons]
    constructor
    · rintro (h | h)
      · exact .inl h.symm
      · exact .inr h
    · rintro (h | h)
      · exact .inl h.symm
      · exact .inr h

theorem mem_false {n : Nat} {l : List Nat} : mem n l = false ↔ n ∉ l := by
  rw [← Bool.not_eq_true, mem_iff]

theorem lk_map {α β : Type} (f : α → β) : ∀ (l : List (Nat × α)) (n : Nat), lk (l.map fun e => (e.1, f e.2)) n = (lk l n).map f
  | [], _ => rfl
  | (k, x) :: r, n => by
    simp only [List.map, lk]
    cases Nat.beq k n with
    | true => rfl
    | false => exact lk_map f r n

theorem lk_filter {α : Type} (q : Nat → Bool) : ∀ (l : List (Nat × α)) (n : Nat), lk (l.filter fun e => q e.1) n = if q n then lk l n else none
  | [], n => by simp [lk]
  | (k, x) :: r, n => by
    have ih := lk_filter q r n
    cases hk : Nat.beq k n with
    | true =>
      have hkn := natBeq.1 hk
      subst hkn
      cases hq : q k with
      | true => simp [List.filter, hq, lk, hk]
      | false => simp [List.filter, hq, lk] at ih ⊢; exact ih
    | false =>
      cases hq : q k with
      | true => simp only [List.filter, hq, lk, hk]; exact ih
      | false => simp only [List.filter, hq, lk, hk]; exact ih

/-! ### Steps of the relation -/
def updI (ι : Iota) (id : Nat) (r : Option (Nat × Nat × Nat)) : Iota := fun k => if k = id then r else ι k

theorem getD_set {α : Type} (a : Array α) (d t : Nat) (x y : α) (hd : d < a.size) : (a.setIfInBounds d x).getD t y = if t = d then x else a.getD t y := by
  by_cases h : t = d
  · subst h; simp [hd]
  · have : d ≠ t := fun e => h e.symm
    simp [h, Array.getElem?_setIfInBounds_ne this]

/-- A slot is written. -/
theorem Rel.put {g : G} {s : AS} {a : Act} {w : World} {ι : Iota} {Fr : Nat → Nat → Prop} (h : Rel g s a w ι Fr) {d : Nat} {v : V} {x : Value}
    (hd : d < g.nt) (hv : TRep w Fr ι v x) : Rel g { s with T := put s.T d v } (a.put (some d) x) w ι Fr :=
  { h with
    defers := h.defers
    size := by simp [Act.put, h.size]
    tmp := fun t u ht => by
      simp only [lk_put] at ht
      simp only [Act.put]
      rw [getD_set _ _ _ _ _ (by rw [h.size]; exact hd)]
      by_cases e : t = d
      · simp only [e, if_true] at ht ⊢
        rw [← Option.some.inj ht]; exact hv
      · simp only [e, if_false] at ht ⊢
        exact h.tmp t u ht }

/-- More memory. -/
theorem Rel.grow {g : G} {s : AS} {a : Act} {w w' : World} {ι : Iota} {Fr : Nat → Nat → Prop} (h : Rel g s a w ι Fr)
    (hos : w'.os = w.os) (ht : w'.tape = w.tape) (ho : w'.output = w.output) (hsz : w.heap.size ≤ w'.heap.size)
    (hb : ∀ b, b < w.heap.size → w'.heap[b]? = w.heap[b]?) : Rel g s a w' ι Fr := by
  have hsh : ∀ b e, w.shape? b = some e → w'.shape? b = some e := by
    intro b e he
    have hlt : b < w.heap.size := by
      rcases Nat.lt_or_ge b w.heap.size with h' | h'
      · exact h'
      · simp [World.shape?, Array.getElem?_eq_none h'] at he
    unfold World.shape? at he ⊢
    rw [hb b hlt]; exact he
  have hF : ∀ t b, Fr t b → Fr t b ∧ w'.heap[b]? = w.heap[b]? := fun t b hf => ⟨hf, hb b (h.fr t b hf).1⟩
  exact
    { h with
      tmp := fun t v hv => (h.tmp t v hv).world hF hsh
      own := fun id blk b sz m hl hi => by
        obtain ⟨h1, h2⟩ := h.own id blk b sz m hl hi
        have hlt : b < w.heap.size := by
          rcases Nat.lt_or_ge b w.heap.size with h' | h'
          · exact h'
          · cases blk with
            | arr => obtain ⟨_, _, c, e, hh, _⟩ := h1; simp [Array.getElem?_eq_none h'] at hh
            | box => obtain ⟨c, e, hh, _⟩ := h1; simp [Array.getElem?_eq_none h'] at hh
            | mp => obtain ⟨c, e, hh, _⟩ := h1; simp [Array.getElem?_eq_none h'] at hh
        exact ⟨h1.mono (p := fun _ => false) (hb b hlt) hF (fun _ _ => rfl) (Blk.ment_false blk) (fun _ r e _ _ hs => hsh r.1 e hs), h2⟩
      fr := fun t b hf => ⟨Nat.lt_of_lt_of_le (h.fr t b hf).1 hsz, (h.fr t b hf).2⟩
      cl := fun t b h2 hf => by rw [(hF t b hf).2]; exact h.cl t b h2 hf
      os := hos.trans h.os
      tape := ht.trans h.tape
      output := ho.trans h.output
      hsize := Nat.le_trans h.hsize hsz
      frame := fun b hlt hio => (hb b (Nat.lt_of_lt_of_le hlt h.hsize)).trans (h.frame b hlt hio)
      shape := fun b e he => hsh b e (h.shape b e he) }

theorem OwnB.lt {w : World} {Fr : Nat → Nat → Prop} {ι : Iota} {b sz m : Nat} {blk : Blk} (h : OwnB w Fr ι b sz m blk) : b < w.heap.size := by
  rcases Nat.lt_or_ge b w.heap.size with h' | h'
  · exact h'
  · cases blk with
    | arr => obtain ⟨_, _, c, e, hh, _⟩ := h; simp [Array.getElem?_eq_none h'] at hh
    | box => obtain ⟨c, e, hh, _⟩ := h; simp [Array.getElem?_eq_none h'] at hh
    | mp => obtain ⟨c, e, hh, _⟩ := h; simp [Array.getElem?_eq_none h'] at hh

/-- A block of cells: not a map. -/
def isC : Blk → Bool
  | .mp _ _ _ => false
  | _ => true

theorem OwnB.cl {w : World} {Fr : Nat → Nat → Prop} {ι : Iota} {b sz m : Nat} {blk : Blk} (h : OwnB w Fr ι b sz m blk) (hc : isC blk = true) : ∃ arr e, w.heap[b]? = some (.cells arr e (0, 0)) := by
  cases blk with
  | mp => simp [isC] at hc
  | arr => obtain ⟨_, _, c, e, hh, _⟩ := h; exact ⟨c, e, hh⟩
  | box cs => obtain ⟨c, e, hh, _⟩ := h; exact ⟨c, e, hh⟩

/-- An id that nothing names. -/
structure FreshId (s : AS) (id : Nat) : Prop where
  ge : 64 ≤ id
  no : lk s.S id = none
  T : ∀ t v, lk s.T t = some v → V.ment (fun k => Nat.beq k id) v = false
  S : ∀ k blk, lk s.S k = some blk → blk.ment (fun k => Nat.beq k id) = false

theorem updI_ne {ι : Iota} {id k : Nat} {r : Option (Nat × Nat × Nat)} (h : Nat.beq k id = false) : updI ι id r k = ι k := by
  simp [updI, natBeqF.1 h]

/-- A block that nobody reaches becomes one's own, under a name that nothing names. -/
theorem Rel.addBlk {g : G} {s : AS} {a : Act} {w : World} {ι : Iota} {Fr : Nat → Nat → Prop} (h : Rel g s a w ι Fr) {id : Nat} (hf : FreshId s id)
    {b sz m : Nat} {blk : Blk} (hown : OwnB w Fr (updI ι id (some (b, sz, m))) b sz m blk) (hb : g.w0.heap.size ≤ b)
    (hFr : ∀ t, ¬ Fr t b) (hno : ∀ k c r, lk s.S k = some c → ι k = some r → r.1 ≠ b) :
    Rel g { s with S := Go.Av.put s.S id blk } a w (updI ι id (some (b, sz, m))) Fr := by
  have hF : ∀ t b, Fr t b → Fr t b ∧ w.heap[b]? = w.heap[b]? := fun t b hf => ⟨hf, rfl⟩
  refine
    { h with
      tmp := fun t v hv => (h.tmp t v hv).mono (p := fun k => Nat.beq k id) hF (fun k hk => updI_ne hk) (hf.T t v hv) (fun _ _ _ _ _ hs => hs)
      low := fun k hk => by rw [updI_ne (natBeqF.2 (by have := hf.ge; omega))]; exact h.low k hk
      own := ?_, nob := ?_, inj := ?_, fr := ?_ }
  · intro k c b' sz' m' hl hi
    simp only [lk_put] at hl
    by_cases e : k = id
    · subst e
      simp only [if_true, Option.some.injEq] at hl
      simp only [updI, if_true, Option.some.injEq, Prod.mk.injEq] at hi
      obtain ⟨rfl, rfl, rfl⟩ := hi
      subst hl
      exact ⟨hown, .inl hb⟩
    · simp only [e, if_false] at hl
      rw [updI_ne (natBeqF.2 e)] at hi
      obtain ⟨h1, h2⟩ := h.own k c b' sz' m' hl hi
      exact ⟨h1.mono (p := fun k => Nat.beq k id) rfl hF (fun k hk => updI_ne hk) (hf.S k c hl) (fun _ _ _ _ _ hs => hs), h2⟩
  · intro k c hl hi
    simp only [lk_put] at hl
    by_cases e : k = id
    · subst e; simp [updI] at hi
    · simp only [e, if_false] at hl
      rw [updI_ne (natBeqF.2 e)] at hi
      exact h.nob k c hl hi
  · intro k k' c c' r r' h1 h2 h3 h4 h5
    simp only [lk_put] at h1 h2
    by_cases e : k = id <;> by_cases e' : k' = id
    · rw [e, e']
    · subst e
      simp only [e', if_false] at h2
      rw [updI_ne (natBeqF.2 e')] at h4
      simp only [updI, if_true, Option.some.injEq] at h3
      subst h3
      exact absurd h5.symm (hno k' c' r' h2 h4)
    · subst e'
      simp only [e, if_false] at h1
      rw [updI_ne (natBeqF.2 e)] at h3
      simp only [updI, if_true, Option.some.injEq] at h4
      subst h4
      exact absurd h5 (hno k c r h1 h3)
    · simp only [e, e', if_false] at h1 h2
      rw [updI_ne (natBeqF.2 e)] at h3
      rw [updI_ne (natBeqF.2 e')] at h4
      exact h.inj k k' c c' r r' h1 h2 h3 h4 h5
  · intro t b' hfb
    refine ⟨(h.fr t b' hfb).1, (h.fr t b' hfb).2.1, ?_⟩
    intro k c r hl hi
    simp only [lk_put] at hl
    by_cases e : k = id
    · subst e
      simp only [updI, if_true, Option.some.injEq] at hi
      subst hi
      rintro rfl
      exact hFr t hfb
    · simp only [e, if_false] at hl
      rw [updI_ne (natBeqF.2 e)] at hi
      exact (h.fr t b' hfb).2.2 k c r hl hi

/-- An empty row without memory becomes one's own. -/
theorem Rel.addNil {g : G} {s : AS} {a : Act} {w : World} {ι : Iota} {Fr : Nat → Nat → Prop} (h : Rel g s a w ι Fr) {id : Nat} (hf : FreshId s id)
    {sz te : Nat} {f : Nat → V} : Rel g { s with S := Go.Av.put s.S id (.arr sz 0 f te) } a w (updI ι id none) Fr := by
  have hF : ∀ t b, Fr t b → Fr t b ∧ w.heap[b]? = w.heap[b]? := fun t b hf => ⟨hf, rfl⟩
  refine
    { h with
      tmp := fun t v hv => (h.tmp t v hv).mono (p := fun k => Nat.beq k id) hF (fun k hk => updI_ne hk) (hf.T t v hv) (fun _ _ _ _ _ hs => hs)
      low := fun k hk => by rw [updI_ne (natBeqF.2 (by have := hf.ge; omega))]; exact h.low k hk
      own := ?_, nob := ?_, inj := ?_, fr := ?_ }
  · intro k c b' sz' m' hl hi
    simp only [lk_put] at hl
    by_cases e : k = id
    · subst e; simp [updI] at hi
    · simp only [e, if_false] at hl
      rw [updI_ne (natBeqF.2 e)] at hi
      obtain ⟨h1, h2⟩ := h.own k c b' sz' m' hl hi
      exact ⟨h1.mono (p := fun k => Nat.beq k id) rfl hF (fun k hk => updI_ne hk) (hf.S k c hl) (fun _ _ _ _ _ hs => hs), h2⟩
  · intro k c hl hi
    simp only [lk_put] at hl
    by_cases e : k = id
    · subst e; simp only [if_true, Option.some.injEq] at hl; exact ⟨sz, f, te, hl.symm⟩
    · simp only [e, if_false] at hl
      rw [updI_ne (natBeqF.2 e)] at hi
      exact h.nob k c hl hi
  · intro k k' c c' r r' h1 h2 h3 h4 h5
    simp only [lk_put] at h1 h2
    by_cases e : k = id
    · subst e; simp [updI] at h3
    · by_cases e' : k' = id
      · subst e'; simp [updI] at h4
      · simp only [e, e', if_false] at h1 h2
        rw [updI_ne (natBeqF.2 e)] at h3
        rw [updI_ne (natBeqF.2 e')] at h4
        exact h.inj k k' c c' r r' h1 h2 h3 h4 h5
  · intro t b' hfb
    refine ⟨(h.fr t b' hfb).1, (h.fr t b' hfb).2.1, ?_⟩
    intro k c r hl hi
    simp only [lk_put] at hl
    by_cases e : k = id
    · subst e; simp [updI] at hi
    · simp only [e, if_false] at hl
      rw [updI_ne (natBeqF.2 e)] at hi
      exact (h.fr t b' hfb).2.2 k c r hl hi

/-- A name is given up. -/
theorem Rel.drop {g : G} {s : AS} {a : Act} {w : World} {ι : Iota} {Fr : Nat → Nat → Prop} (h : Rel g s a w ι Fr) (id : Nat) : Rel g { s with S := del s.S id } a w ι Fr :=
  h.less (fun _ _ h => h) fun k b hl => by
    simp only [lk_del] at hl
    by_cases e : k = id <;> simp [e] at hl
    simpa [e] using hl

theorem lk_kills : ∀ (ids : List Nat) (S : List (Nat × Blk)) (k : Nat), lk (applyUpd S (ids.map fun id => (id, none))) k = if k ∈ ids then none else lk S k
  | [], S, k => by simp [applyUpd]
  | id :: r, S, k => by
    simp only [List.map, applyUpd]
    rw [lk_kills r, lk_del]
    by_cases h1 : k ∈ r <;> by_cases h2 : k = id <;> simp [h1, h2]

/-- The tags of memory when some blocks of one's own are frozen. -/
def FrK (Fr : Nat → Nat → Prop) (S : List (Nat × Blk)) (ι : Iota) (ids : List Nat) (te : Nat) : Nat → Nat → Prop := fun t b =>
  Fr t b ∨ ((t = te ∨ t = 0) ∧ ∃ id ∈ ids, ∃ blk r, lk S id = some blk ∧ ι id = some r ∧ r.1 = b ∧ isC blk = true) ∨ (t = te ∧ 2 ≤ te ∧ te ≠ tagS ∧ ∃ t', 2 ≤ t' ∧ Fr t' b)

/-- Blocks of one's own are given up and frozen under a tag. -/
theorem Rel.freezeL {g : G} {s : AS} {a : Act} {w : World} {ι : Iota} {Fr : Nat → Nat → Prop} (h : Rel g s a w ι Fr) (te : Nat) (ids : List Nat)
    (ht : (te ≠ tagS ∧ te ≠ 1) ∨ ids = []) (h64 : ∀ id ∈ ids, 64 ≤ id) :
    Rel g { s with S := applyUpd s.S (ids.map fun id => (id, none)) } a w ι (FrK Fr s.S ι ids te) := by
  have hF : ∀ t b, Fr t b → FrK Fr s.S ι ids te t b ∧ w.heap[b]? = w.heap[b]? := fun t b hf => ⟨.inl hf, rfl⟩
  have hS : ∀ k blk, lk (applyUpd s.S (ids.map fun id => (id, none))) k = some blk → k ∉ ids ∧ lk s.S k = some blk := by
    intro k blk hk
    rw [lk_kills] at hk
    by_cases e : k ∈ ids
    · simp [e] at hk
    · simp only [e, if_false] at hk; exact ⟨e, hk⟩
  have hmine : ∀ id ∈ ids, ∀ blk r, lk s.S id = some blk → ι id = some r → g.w0.heap.size ≤ r.1 ∧ r.1 < w.heap.size := by
    intro id hid blk r hl hi
    obtain ⟨b, sz, m⟩ := r
    obtain ⟨h1, h2⟩ := h.own id blk b sz m hl hi
    rcases h2 with h2 | ⟨_, h2⟩
    · exact ⟨h2, h1.lt⟩
    · have := h64 id hid; omega
  refine
    { h with
      tmp := fun t v hv => (h.tmp t v hv).world hF (fun _ _ hs => hs)
      own := fun id blk b sz m hl hi => ⟨(h.own id blk b sz m (hS _ _ hl).2 hi).1.mono (p := fun _ => false) rfl hF (fun _ _ => rfl) (Blk.ment_false blk) (fun _ _ _ _ _ hs => hs), (h.own id blk b sz m (hS _ _ hl).2 hi).2⟩
      nob := fun id blk hl => h.nob id blk (hS _ _ hl).2
      inj := fun id id' blk blk' r r' h1 h2 => h.inj id id' blk blk' r r' (hS _ _ h1).2 (hS _ _ h2).2
      fr := ?_, frS := ?_, fr0 := ?_, fr2 := ?_, fr1 := ?_, cl := ?_ }
  · rintro t b (hf | ⟨_, id, hid, blk, r, hl, hi, rfl, hcc⟩ | ⟨_, _, _, t', _, hf⟩)
    · exact ⟨(h.fr t b hf).1, (h.fr t b hf).2.1, fun id blk r hl => (h.fr t b hf).2.2 id blk r (hS _ _ hl).2⟩
    rotate_left
    · exact ⟨(h.fr t' b hf).1, (h.fr t' b hf).2.1, fun id blk r hl => (h.fr t' b hf).2.2 id blk r (hS _ _ hl).2⟩
    · obtain ⟨h1, h2⟩ := hmine id hid blk r hl hi
      refine ⟨h2, fun hx => ?_, fun k c r' hl' hi' e => ?_⟩
      · have := (h.x0 _ hx).1; omega
      · have := h.inj k id c blk r' r (hS _ _ hl').2 hl hi' hi e
        exact (hS _ _ hl').1 (this ▸ hid)
  · rintro b (hf | ⟨e, id, hid, _⟩ | ⟨e, _, h7, _⟩)
    · exact h.frS b hf
    rotate_left
    · exact h7 e.symm
    · rcases ht with ⟨ht, _⟩ | rfl
      · rcases e with e | e
        · exact ht e.symm
        · exact absurd e (by decide)
      · cases hid
  · rintro t b (hf | ⟨_, hid⟩ | ⟨_, _, _, t', _, hf⟩)
    · exact .inl (h.fr0 t b hf)
    · exact .inr (.inl ⟨.inr rfl, hid⟩)
    · exact .inl (h.fr0 t' b hf)
  · rintro t b h2' (hf | ⟨_, id, hid, blk, r, hl, hi, rfl, hcc⟩ | ⟨_, _, _, t', h8, hf⟩)
    · exact h.fr2 t b h2' hf
    · exact (hmine id hid blk r hl hi).1
    · exact h.fr2 t' b h8 hf
  · rintro b (hf | ⟨e, id, hid, _⟩ | ⟨e, h7, _⟩)
    · exact h.fr1 b hf
    · rcases ht with ⟨_, ht⟩ | rfl
      · rcases e with e | e
        · exact absurd e.symm ht
        · exact absurd e (by decide)
      · cases hid
    · omega
  · rintro t b h2' (hf | ⟨_, id, hid, blk, r, hl, hi, rfl, hcc⟩ | ⟨_, _, _, t', h8, hf⟩)
    · exact h.cl t b h2' hf
    · exact (h.own id blk r.1 r.2.1 r.2.2 hl hi).1.cl hcc
    · exact h.cl t' b h8 hf

/-- One's own block is written: nothing else lies in it. -/
theorem Rel.setOwn {g : G} {s : AS} {a : Act} {w w' : World} {ι : Iota} {Fr : Nat → Nat → Prop} (h : Rel g s a w ι Fr) {id b sz m : Nat} {old new : Blk}
    (hl : lk s.S id = some old) (hi : ι id = some (b, sz, m)) (hos : w'.os = w.os) (ht : w'.tape = w.tape) (ho : w'.output = w.output) (hsz : w'.heap.size = w.heap.size)
    (hb : ∀ k, k ≠ b → w'.heap[k]? = w.heap[k]?) (hsh : ∀ k e, w.shape? k = some e → w'.shape? k = some e) (hnew : OwnB w' Fr ι b sz m new) :
    Rel g { s with S := Go.Av.put s.S id new } a w' ι Fr := by
  have hF : ∀ t k, Fr t k → Fr t k ∧ w'.heap[k]? = w.heap[k]? := fun t k hf => ⟨hf, hb k fun e => (h.fr t k hf).2.2 id old _ hl hi e.symm⟩
  refine
    { h with
      tmp := fun t v hv => (h.tmp t v hv).world hF hsh
      own := ?_, nob := ?_, inj := ?_, fr := ?_
      cl := fun t k h2 hf => by rw [(hF t k hf).2]; exact h.cl t k h2 hf
      os := hos.trans h.os, tape := ht.trans h.tape, output := ho.trans h.output, hsize := by rw [hsz]; exact h.hsize
      frame := ?_, shape := fun k e he => hsh k e (h.shape k e he) }
  · intro k c b' sz' m' hl' hi'
    simp only [lk_put] at hl'
    by_cases e : k = id
    · subst e
      simp only [if_true, Option.some.injEq] at hl'
      rw [hi] at hi'
      simp only [Option.some.injEq, Prod.mk.injEq] at hi'
      obtain ⟨rfl, rfl, rfl⟩ := hi'
      subst hl'
      exact ⟨hnew, (h.own k old b sz m hl hi).2⟩
    · simp only [e, if_false] at hl'
      obtain ⟨h1, h2⟩ := h.own k c b' sz' m' hl' hi'
      have hbb : b' ≠ b := fun e' => e (h.inj k id c old _ _ hl' hl hi' hi e')
      exact ⟨h1.mono (p := fun _ => false) (hb b' hbb) hF (fun _ _ => rfl) (Blk.ment_false c) (fun _ r e _ _ hs => hsh r.1 e hs), h2⟩
  · intro k c hl' hi'
    simp only [lk_put] at hl'
    by_cases e : k = id
    · subst e; rw [hi] at hi'; cases hi'
    · simp only [e, if_false] at hl'; exact h.nob k c hl' hi'
  · intro k k' c c' r r' h1 h2 h3 h4 h5
    have fix : ∀ k c, lk (Go.Av.put s.S id new) k = some c → ∃ c', lk s.S k = some c' := by
      intro k c hk
      simp only [lk_put] at hk
      by_cases e : k = id
      · subst e; exact ⟨_, hl⟩
      · simp only [e, if_false] at hk; exact ⟨_, hk⟩
    obtain ⟨d, hd⟩ := fix k c h1
    obtain ⟨d', hd'⟩ := fix k' c' h2
    exact h.inj k k' d d' r r' hd hd' h3 h4 h5
  · intro t k hf
    refine ⟨by rw [hsz]; exact (h.fr t k hf).1, (h.fr t k hf).2.1, ?_⟩
    intro k' c r hl' hi'
    simp only [lk_put] at hl'
    by_cases e : k' = id
    · subst e; exact (h.fr t k hf).2.2 k' old r hl hi'
    · simp only [e, if_false] at hl'; exact (h.fr t k hf).2.2 k' c r hl' hi'
  · intro k hlt hio
    have hkb : k ≠ b := by
      rintro rfl
      rcases (h.own id old k sz m hl hi).2 with h' | h'
      · omega
      · exact hio h'.1
    rw [hb k hkb]; exact h.frame k hlt hio

end Go.Av

/- Operations that leave memory alone: what the machine does at them is what the abstract effect says. -/
namespace Go.Av

structure TabOk (P : Program) (tt : TT) : Prop where
  und : ∀ t ti, lk tt t = some ti → P.underlying t = some ti.desc
  cmp : ∀ t ti, lk tt t = some ti → ti.cmp = true → P.stoodInHeld t = false ∧ P.eqGuardType P.depth t = false ∧ ∀ fs, ti.desc = .struct fs → ∀ f ∈ fs.toList, f.name ≠ "_"
  info : ∀ t ti, lk tt t = some ti → ∃ i, P.info? t = some i ∧ i.size = ti.size ∧ i.bytes = ti.bytes ∧
    ∃ z, i.zero = some z ∧ (∀ w, PRep w (fun _ => False) ti.zero z) ∧ ti.zero.cells.length = ti.size ∧ z.cells.size = ti.size ∧ (isAggD ti.desc = true ↔ ∃ cs, ti.zero = .agg cs)

section
variable {P : Program} {tt : TT} (hT : TabOk P tt)

theorem run_underlying {t : Nat} {d : TypeDesc} (h : P.underlying t = some d) (w : World) : (underlying t).run P w = .ok d w := by
  simp [underlying, h]

include hT in
theorem run_und {t : Nat} {ti : TI} (h : lk tt t = some ti) (w : World) : (underlying t).run P w = .ok ti.desc w := run_underlying (hT.und t ti h) w

include hT in
theorem run_size {t : Nat} {ti : TI} (h : lk tt t = some ti) (w : World) : (sizeOf t).run P w = .ok ti.size w := by
  obtain ⟨i, hi, hs, _⟩ := hT.info t ti h
  simp [sizeOf, typeInfo, hi, hs]

include hT in
theorem run_bytes {t : Nat} {ti : TI} (h : lk tt t = some ti) (w : World) : ∃ i, (typeInfo t).run P w = .ok i w ∧ i.bytes = ti.bytes ∧ i.size = ti.size := by
  obtain ⟨i, hi, hs, hb, _⟩ := hT.info t ti h
  exact ⟨i, by simp [typeInfo, hi], hb, hs⟩

include hT in
theorem run_zero {t : Nat} {ti : TI} (h : lk tt t = some ti) (w : World) : ∃ z, (zeroValue t).run P w = .ok z w ∧ PRep w (fun _ => False) ti.zero z ∧ ti.zero.cells.length = ti.size ∧ z.cells.size = ti.size ∧ (isAggD ti.desc = true ↔ ∃ cs, ti.zero = .agg cs) := by
  obtain ⟨i, hi, _, _, z, hz, hr, hc, hzc, ha⟩ := hT.info t ti h
  exact ⟨z, by simp [zeroValue, typeInfo, hi, hz], hr w, hc, hzc, ha⟩

include hT in
theorem run_isAgg {t : Nat} {ti : TI} (h : lk tt t = some ti) (w : World) : (isAgg t).run P w = .ok (isAggD ti.desc) w := by
  unfold isAgg
  rw [Sem.run_bind, run_und hT h]
  simp only [Result.andThen_ok]
  cases ti.desc <;> rfl
end

/-! ### Values and their cells -/
theorem TRep.ofP {w : World} {Fr : Nat → Nat → Prop} {ι : Iota} {v : V} {x : Value} (h : PRep w (fun _ => False) v x) : TRep w Fr ι v x := by
  induction h with
  | int k n => exact .atom rfl (.int k n)
  | bool b => exact .atom rfl (.bool b)
  | str s => exact .atom rfl (.str s)
  | nil a => exact .atom rfl (.nil a)
  | sl0 a c g t => exact .atom rfl (.sl0 a c g t)
  | sl _ hA => exact hA.elim
  | ptr _ hA => exact hA.elim
  | agg arr hs _ ih => exact .agg arr hs ih
  | tup arr hs _ ih => exact .tup arr hs ih
  | fn arr hs _ ih => exact .fn arr hs ih
  | undef x => exact .atom rfl (.undef x)

/-- A value of one cell. -/
def one : Value → Bool
  | .agg _ => false
  | .tuple _ => false
  | _ => true

theorem one_cells {x : Value} (h : one x = true) : x.cells = #[x] := by
  cases x <;> first | rfl | simp [one] at h

theorem TRep.one {w : World} {Fr : Nat → Nat → Prop} {ι : Iota} {v : V} {x : Value} (h : TRep w Fr ι v x) (hs : solidA v = true) : Go.Av.one x = true := by
  cases h with
  | atom hv hp => cases hp <;> first | rfl | (simp [solidA] at hs; done)
  | osl => rfl
  | osl0 => rfl
  | oref => rfl
  | omap => simp [solidA] at hs
  | agg => simp [solidA] at hs
  | tup => simp [solidA] at hs
  | fn => rfl
  | cnd => simp [solidA] at hs

theorem all_getD {p : V → Bool} {cs : List V} {j : Nat} (h : cs.all p = true) (hj : j < cs.length) : p (cs.getD j .undef) = true := by
  rw [List.all_eq_true] at h
  have : cs.getD j .undef = cs[j] := by simp [List.getD, List.getElem?_eq_getElem hj]
  rw [this]; exact h _ (List.getElem_mem hj)

/-- A solid value's cells, one by one. -/
theorem TRep.cells {w : World} {Fr : Nat → Nat → Prop} {ι : Iota} {v : V} {x : Value} (h : TRep w Fr ι v x) (hs : solid v = true) :
    x.cells.size = v.cells.length ∧ ∀ j, j < v.cells.length → TRep w Fr ι (v.cells.getD j .undef) (x.cells.getD j Go.undef) ∧ solidA (v.cells.getD j .undef) = true := by
  by_cases hv : ∃ cs, v = .agg cs
  · obtain ⟨cs, rfl⟩ := hv
    cases h with
    | atom hv _ => simp [isP] at hv
    | agg arr h1 h2 =>
      refine ⟨h1, fun j hj => ⟨h2 j hj, ?_⟩⟩
      exact all_getD (cs := cs) hs hj
  · have hA : solidA v = true := by
      cases v <;> first | exact hs | exact absurd ⟨_, rfl⟩ hv
    have hc : v.cells = [v] := by
      cases v <;> first | rfl | exact absurd ⟨_, rfl⟩ hv
    rw [one_cells (h.one hA), hc]
    refine ⟨rfl, fun j hj => ?_⟩
    have hj0 : j = 0 := by simpa using hj
    subst hj0
    exact ⟨by simpa using h, by simpa using hA⟩

/-! ### Operands -/
theorem ofCell_rep {w : World} {Fr : Nat → Nat → Prop} {ι : Iota} (x : Value) : TRep w Fr ι (ofCell x) x := by
  unfold ofCell
  split
  · exact .atom rfl (.int _ _)
  · exact .atom rfl (.bool _)
  · exact .atom rfl (.str _)
  · exact .atom rfl (.nil _)
  · exact .atom rfl (.undef _)

theorem ofConst_rep {w : World} {Fr : Nat → Nat → Prop} {ι : Iota} (x : Value) : TRep w Fr ι (ofConst x) x := by
  unfold ofConst
  split
  · rename_i cs
    refine .agg cs (by simp) fun j hj => ?_
    have hj' : j < cs.size := by simpa using hj
    have : (List.map ofCell cs.toList).getD j .undef = ofCell (cs.getD j Go.undef) := by simp [hj']
    rw [this]; exact ofCell_rep _
  · exact .fn #[] rfl fun j hj => by simp at hj
  · exact ofCell_rep _

theorem aval_rep {g : G} {s : AS} {a : Act} {w : World} {ι : Iota} {Fr : Nat → Nat → Prop} (h : Rel g s a w ι Fr) (x : Operand) : TRep w Fr ι (aval s x) (a.eval x) := by
  cases x with
  | tmp t =>
    simp only [aval, Act.eval]
    cases hl : lk s.T t with
    | some v => exact h.tmp t v hl
    | none => exact .atom rfl (.undef _)
  | const v => exact ofConst_rep v
  | global n => exact .atom rfl (.undef _)
  | func f => exact .fn #[] rfl fun j hj => by simp at hj

theorem strip_rep {w : World} {Fr : Nat → Nat → Prop} {ι : Iota} {v : V} {x : Value} (h : TRep w Fr ι v x) (g : Bool) (hg : g = true) (ho : ∀ p ∈ stripO g v, p) : TRep w Fr ι (strip v) x := by
  cases v with
  | cnd c v =>
    cases h with
    | atom hv _ => simp [isP] at hv
    | cnd ht _ => exact ht (ho (g = true → c = true) (by simp [stripO]) hg)
  | _ => exact h

/-! ### What an operation does -/
/-- Whatever is wanted of the related state behind it holds behind the operation. -/
def Does (P : Program) (g : G) (s' : AS) (a : Act) (w : World) (o : Oper) : Prop :=
  ∀ (next : Act → World → Prop) (Q : Exit → Act → World → Prop), (∀ a' w' ι' Fr', Rel g s' a' w' ι' Fr' → next a' w') → o.wp P a w next Q

theorem app_nil {s : AS} {dst : Option Tmp} {v : V} {rd : List Nat} {ob : List Prop} :
    s.app dst ⟨v, [], rd, ob⟩ = match dst with
      | some d => { s with T := put s.T d v }
      | none => s := by
  cases dst <;> rfl

theorem does_value {P : Program} {g : G} {s : AS} {a : Act} {w : World} {ι : Iota} {Fr : Nat → Nat → Prop} {o : Oper} {v : V} {x : Value} {rd : List Nat} {ob : List Prop}
    (h : Rel g s a w ι Fr) (hd : dstOk g.nt o = true) (hr : (execOp a.eval o).run P w = .ok (.value x) w) (hv : TRep w Fr ι v x) :
    Does P g (s.app o.dst ⟨v, [], rd, ob⟩) a w o := by
  intro next Q hn
  unfold Oper.wp
  rw [hr]
  simp only [Oper.upon]
  rw [app_nil] at hn
  cases hdst : o.dst with
  | none => rw [hdst] at hn; exact hn _ _ ι Fr h
  | some d =>
    rw [hdst] at hn
    have hlt : d < g.nt := by
      unfold dstOk at hd
      rw [hdst] at hd
      exact Nat.le_of_ble_eq_true hd
    exact hn _ _ ι Fr (h.put hlt hv)

section
variable {P : Program} {a : Act} {w : World} {o : Oper}
theorem run_move' (x : Operand) (h : o.op = .move x ∨ o.op = .assign x) : (execOp a.eval o).run P w = .ok (.value (a.eval x)) w := by
  rcases h with h | h <;> (unfold execOp; rw [h]; rfl)
end

/-- The run of an operation that yields a value by a Sem. -/
theorem run_v {P : Program} {w w' : World} {s : Sem Value} {x : Value} (h : s.run P w = .ok x w') : (do pure (.value (← s)) : Sem Next).run P w = .ok (.value x) w' := by
  simp [h]

theorem run_u {P : Program} {w w' : World} {s : Sem Unit} (h : s.run P w = .ok () w') : (do s; pure .skip : Sem Next).run P w = .ok .skip w' := by
  simp [h]

/-! ### Numbers, bools, texts -/
theorem kindB_eq {k k' : IntKind} (h : kindB k k' = true) : k = k' := by
  cases k <;> cases k' <;> first | rfl | simp [kindB] at h

theorem inv_int {w : World} {Fr : Nat → Nat → Prop} {ι : Iota} {k : IntKind} {n : Int} {x : Value} (h : TRep w Fr ι (.int k n) x) : x = .int k n := by
  cases h with
  | atom _ hp => cases hp; rfl
theorem inv_bool {w : World} {Fr : Nat → Nat → Prop} {ι : Iota} {b : Bool} {x : Value} (h : TRep w Fr ι (.bool b) x) : x = .bool b := by
  cases h with
  | atom _ hp => cases hp; rfl
theorem inv_str {w : World} {Fr : Nat → Nat → Prop} {ι : Iota} {s : ByteArray} {x : Value} (h : TRep w Fr ι (.str s) x) : x = .string s := by
  cases h with
  | atom _ hp => cases hp; rfl

theorem binInt_run {P : Program} {w : World} {op : BinOp} {k : IntKind} {m n : Int} {t : TypeId} {e : Ef} (he : binInt op k m n = some e) (ho : ∀ p ∈ e.ob, p) :
    e.upd = [] ∧ ∃ x, (binOp op t (.int k m) (.int k n)).run P w = .ok x w ∧ ∀ Fr ι, TRep w Fr ι e.v x := by
  have R : ∀ (v : Value) (u : V), (∀ Fr ι, TRep w Fr ι u v) → ∀ (y : Sem Value), y.run P w = .ok v w → e = ⟨u, [], [], e.ob⟩ → binOp op t (.int k m) (.int k n) = y →
      e.upd = [] ∧ ∃ x, (binOp op t (.int k m) (.int k n)).run P w = .ok x w ∧ ∀ Fr ι, TRep w Fr ι e.v x := by
    intro v u hu y hy hev hb
    refine ⟨by rw [hev], v, by rw [hb]; exact hy, ?_⟩
    rw [hev]; exact hu
  cases op <;> simp only [binInt, ok, okO, Option.some.injEq, reduceCtorEq] at he
  case add =>
    subst he
    exact R (.int k (m + n)) _ (fun _ _ => .atom rfl (.int _ _)) (pure (.int k (k.wrap (m + n)))) (by have := ho (inK k (m + n)) (by simp); rw [show k.wrap (m + n) = m + n from this]; rfl) rfl (by simp [binOp, Op.intArith])
  case sub =>
    subst he
    exact R (.int k (m - n)) _ (fun _ _ => .atom rfl (.int _ _)) (pure (.int k (k.wrap (m - n)))) (by have := ho (inK k (m - n)) (by simp); rw [show k.wrap (m - n) = m - n from this]; rfl) rfl (by simp [binOp, Op.intArith])
  case mul =>
    subst he
    exact R (.int k (m * n)) _ (fun _ _ => .atom rfl (.int _ _)) (pure (.int k (k.wrap (m * n)))) (by have := ho (inK k (m * n)) (by simp); rw [show k.wrap (m * n) = m * n from this]; rfl) rfl (by simp [binOp, Op.intArith])
  case quo =>
    subst he
    have h0 := ho (n ≠ 0) (by simp)
    exact R (.int k (m.tdiv n)) _ (fun _ _ => .atom rfl (.int _ _)) (pure (.int k (k.wrap (m.tdiv n)))) (by have := ho (inK k (m.tdiv n)) (by simp); rw [show k.wrap (m.tdiv n) = m.tdiv n from this]; rfl) rfl (by simp [binOp, Op.intDiv, h0])
  case rem =>
    subst he
    have h0 := ho (n ≠ 0) (by simp)
    exact R (.int k (m.tmod n)) _ (fun _ _ => .atom rfl (.int _ _)) (pure (.int k (m.tmod n))) rfl rfl (by simp [binOp, Op.intDiv, h0])
  case and =>
    subst he
    exact R (.int k (bitI .and k m n)) _ (fun _ _ => .atom rfl (.int _ _)) (pure (.int k (bitI .and k m n))) rfl rfl (by simp [binOp, Op.intBits, bitI])
  case or =>
    subst he
    exact R (.int k (bitI .or k m n)) _ (fun _ _ => .atom rfl (.int _ _)) (pure (.int k (bitI .or k m n))) rfl rfl (by simp [binOp, Op.intBits, bitI])
  case xor =>
    subst he
    exact R (.int k (bitI .xor k m n)) _ (fun _ _ => .atom rfl (.int _ _)) (pure (.int k (bitI .xor k m n))) rfl rfl (by simp [binOp, Op.intBits, bitI])
  all_goals
    subst he
    exact R (.bool _) _ (fun _ _ => .atom rfl (.bool _)) (pure (.bool _)) rfl rfl (by simp [binOp, Op.intCmp])

theorem shV_run {P : Program} {w : World} {op : BinOp} {k k' : IntKind} {m n : Int} {t : TypeId} {e : Ef} (he : shV op k m n = some e) (ho : ∀ p ∈ e.ob, p) :
    e.upd = [] ∧ ∃ x, (binOp op t (.int k m) (.int k' n)).run P w = .ok x w ∧ ∀ Fr ι, TRep w Fr ι e.v x := by
  cases op <;> simp only [shV, okO, Option.some.injEq, reduceCtorEq] at he
  case shl =>
    subst he
    obtain ⟨h0, h1⟩ := ho _ (List.mem_cons_self ..)
    have h2 : inK k (m * 2 ^ n.toNat) := ho _ (by simp)
    refine ⟨rfl, .int k (m * 2 ^ n.toNat), ?_, fun _ _ => .atom rfl (.int _ _)⟩
    have hn : ¬ n < 0 := by omega
    have hm : min n.toNat k.bits = n.toNat := by omega
    simp only [binOp, Op.shift, hn, if_false, hm]
    rw [show k.wrap (m * 2 ^ n.toNat) = m * 2 ^ n.toNat from h2]
    rfl
  case shr =>
    subst he
    obtain ⟨h0, h1⟩ := ho _ (List.mem_cons_self ..)
    refine ⟨rfl, .int k (m.fdiv (2 ^ n.toNat)), ?_, fun _ _ => .atom rfl (.int _ _)⟩
    have hn : ¬ n < 0 := by omega
    have hm : min n.toNat k.bits = n.toNat := by omega
    simp only [binOp, Op.shift, hn, if_false, hm]
    rfl

theorem binStr_run {P : Program} {w : World} {op : BinOp} {m n : ByteArray} {t : TypeId} {e : Ef} (he : binStr op m n = some e) (ho : ∀ p ∈ e.ob, p) :
    e.upd = [] ∧ ∃ x, (binOp op t (.string m) (.string n)).run P w = .ok x w ∧ ∀ Fr ι, TRep w Fr ι e.v x := by
  cases op <;> simp only [binStr, ok, okO, Option.some.injEq, reduceCtorEq] at he
  case add =>
    subst he
    have h0 := ho _ (List.mem_singleton.2 rfl)
    refine ⟨rfl, .string (m ++ n), ?_, fun _ _ => .atom rfl (.str _)⟩
    have hm : IntKind.i64.max = 9223372036854775807 := by decide
    have h1 : ¬ ((m.size + n.size : Nat) : Int) > IntKind.i64.max := by rw [hm]; omega
    simp only [binOp, Op.stringOp, h1, if_false]
    rfl
  all_goals
    subst he
    exact ⟨rfl, .bool _, rfl, fun _ _ => .atom rfl (.bool _)⟩

end Go.Av

/- Operations that only read: loads, addresses, fields, slices, lengths. -/
namespace Go.Av
set_option linter.unusedVariables false
set_option linter.unusedSimpArgs false

theorem add_none (b o j : Nat) : (⟨b, o, none⟩ : Addr).add j = ⟨b, o + j, none⟩ := by
  unfold Addr.add
  split
  · rename_i h; subst h; rfl
  · rfl

theorem cell_of {w : World} {b k : Nat} {cells : Array Value} {e : TypeId} {f : Nat × Nat} (h : w.heap[b]? = some (.cells cells e f)) (hk : k < cells.size) :
    w.cell? ⟨b, k, none⟩ = some (cells.getD k Go.undef) := by
  unfold World.cell?
  simp [h, hk]

theorem tagL_getD (f : Nat → Nat) : ∀ (cs : List V) (j : Nat), j < cs.length → (V.tagL f cs).getD j .undef = V.tag f (cs.getD j .undef)
  | [], _, h => by simp at h
  | _ :: _, 0, _ => by simp [V.tagL]
  | _ :: cs, j + 1, h => by simpa [V.tagL] using tagL_getD f cs j (by simpa using h)

theorem tagL_length (f : Nat → Nat) : ∀ cs : List V, (V.tagL f cs).length = cs.length
  | [] => rfl
  | _ :: cs => by simp [V.tagL, tagL_length f cs]

theorem PRep.retag {w : World} {Fr : Nat → Nat → Prop} {ι : Iota} {t : Nat} {v : V} {x : Value} (h : PRep w (Fr t) v x) : TRep w Fr ι (v.tag fun _ => t) x := by
  induction h with
  | int k n => exact .atom rfl (.int k n)
  | bool b => exact .atom rfl (.bool b)
  | str s => exact .atom rfl (.str s)
  | nil a => exact .atom rfl (.nil a)
  | sl0 a c g t => exact .atom rfl (.sl0 a c g _)
  | sl cv hA hcap hsz hc hr => exact .atom rfl (.sl cv hA hcap hsz hc hr)
  | ptr cv hA hc hr => exact .atom rfl (.ptr cv hA hc hr)
  | agg arr hs _ ih => exact .agg arr (by rw [tagL_length]; exact hs) fun j hj => by rw [tagL_length] at hj; rw [tagL_getD _ _ _ hj]; exact ih j hj
  | tup arr hs _ ih => exact .tup arr (by rw [tagL_length]; exact hs) fun j hj => by rw [tagL_length] at hj; rw [tagL_getD _ _ _ hj]; exact ih j hj
  | fn arr hs _ ih => exact .fn arr (by rw [tagL_length]; exact hs) fun j hj => by rw [tagL_length] at hj; rw [tagL_getD _ _ _ hj]; exact ih j hj
  | undef x => exact .atom rfl (.undef x)

section
variable {P : Program} {tt : TT} (hT : TabOk P tt)

include hT in
/-- What lies at a place, read as a type. -/
theorem run_loadVar {t : Nat} {ti : TI} (hl : lk tt t = some ti) {w : World} {b o : Nat} {f : Nat → Value} {cs : List V} {off : Nat} {v : V} (hr : readV ti cs off = some v)
    (hc : ∀ j, j < cs.length → w.cell? ⟨b, o + j, none⟩ = some (f j)) :
    ∃ x, (Instr.loadAt t (.pointer (some ⟨b, o + off, none⟩))).run P w = .ok x w ∧
      ((v = .agg ((cs.drop off).take ti.size) ∧ x = .agg (((List.range ti.size).map fun j => f (off + j)).toArray) ∧ off + ti.size ≤ cs.length) ∨
       (v = cs.getD off .undef ∧ off < cs.length ∧ x = f off)) := by
  unfold readV at hr
  cases hb : Nat.ble (off + ti.size) cs.length with
  | false => simp [hb] at hr
  | true =>
    have hle := Nat.le_of_ble_eq_true hb
    rw [hb] at hr
    cases ha : isAggD ti.desc with
    | true =>
      rw [ha] at hr
      simp only [Option.some.injEq] at hr
      refine ⟨_, ?_, .inl ⟨hr.symm, rfl, hle⟩⟩
      unfold Instr.loadAt Instr.sureAddr loadVar
      simp only [Sem.run_bind, Sem.run_pure, Result.andThen_ok, run_isAgg hT hl, ha, if_true, run_size hT hl]
      rw [run_loadCells w _ _ (fun j => f (off + j)) (fun j hj => by rw [add_none, Nat.add_assoc]; exact hc _ (by omega))]
      rfl
    | false =>
      rw [ha] at hr
      cases hs : ti.size with
      | zero => simp [hs] at hr
      | succ m =>
        cases m with
        | succ m => simp [hs] at hr
        | zero =>
          simp [hs] at hr
          have hlt : off < cs.length := by rw [hs] at hle; omega
          refine ⟨f off, ?_, .inr ⟨?_, hlt, rfl⟩⟩
          · unfold Instr.loadAt Instr.sureAddr loadVar
            simp only [Sem.run_bind, Sem.run_pure, Result.andThen_ok, run_isAgg hT hl, ha, Bool.false_eq_true, if_false, run_load, hc off hlt]
          · simp [List.getD, hr]

theorem agg_slice {w : World} {Fr : Nat → Nat → Prop} {ι : Iota} {cs : List V} {off n : Nat} {f : Nat → Value} (hle : off + n ≤ cs.length)
    (h : ∀ j, j < cs.length → TRep w Fr ι (cs.getD j .undef) (f j)) : TRep w Fr ι (.agg ((cs.drop off).take n)) (.agg (((List.range n).map fun j => f (off + j)).toArray)) := by
  refine .agg _ (by simp; omega) fun j hj => ?_
  have hj' : j < n := by simp at hj; omega
  have e1 : ((cs.drop off).take n).getD j .undef = cs.getD (off + j) .undef := by
    simp [List.getD, List.getElem?_take, hj']
  have e2 : (((List.range n).map fun j => f (off + j)).toArray).getD j Go.undef = f (off + j) := by simp [hj']
  rw [e1, e2]; exact h _ (by omega)

theorem pagg_slice {w : World} {A : Nat → Prop} {cs : List V} {off n : Nat} {f : Nat → Value} (hle : off + n ≤ cs.length)
    (h : ∀ j, j < cs.length → PRep w A (cs.getD j .undef) (f j)) : PRep w A (.agg ((cs.drop off).take n)) (.agg (((List.range n).map fun j => f (off + j)).toArray)) := by
  refine .agg _ (by simp; omega) fun j hj => ?_
  have hj' : j < n := by simp at hj; omega
  have e1 : ((cs.drop off).take n).getD j .undef = cs.getD (off + j) .undef := by
    simp [List.getD, List.getElem?_take, hj']
  have e2 : (((List.range n).map fun j => f (off + j)).toArray).getD j Go.undef = f (off + j) := by simp [hj']
  rw [e1, e2]; exact h _ (by omega)

include hT in
theorem load_sim {g : G} {s : AS} {a : Act} {w : World} {ι : Iota} {Fr : Nat → Nat → Prop} (h : Rel g s a w ι Fr) {t : Nat} {ti : TI} (hl : lk tt t = some ti) {p : V} {x : Value} {e : Ef}
    (he : loadV s.S ti p = some e) (ho : ∀ q ∈ e.ob, q) (hp : TRep w Fr ι p x) :
    e.upd = [] ∧ ∃ y, (Instr.loadAt t x).run P w = .ok y w ∧ TRep w Fr ι e.v y := by
  cases p with
  | ptr cs off tg =>
    simp only [loadV] at he
    cases hr : readV ti cs off with
    | none => simp [hr] at he
    | some v =>
      simp only [hr, ok, Option.some.injEq] at he
      subst he
      cases hp with
      | atom _ hp =>
        cases hp with
        | ptr cv hA hc hpr =>
          obtain ⟨y, hy, hcase⟩ := run_loadVar hT hl hr hc
          refine ⟨rfl, y, hy, ?_⟩
          refine PRep.retag ?_
          rcases hcase with ⟨rfl, rfl, hle⟩ | ⟨rfl, hlt, rfl⟩
          · exact pagg_slice hle hpr
          · exact hpr _ hlt
  | oref id i off =>
    simp only [loadV] at he
    cases hb : lk s.S id with
    | none => simp [hb] at he
    | some blk =>
      cases hp with
      | atom hv _ => simp [isP] at hv
      | @oref _ _ _ b sz m hi him =>
        have hown := (h.own id blk b sz m hb hi).1
        cases blk with
        | mp => simp [hb] at he
        | box cs =>
          simp only [hb] at he
          cases i with
          | succ i => simp at he
          | zero =>
            cases hr : readV ti cs off with
            | none => simp [hr] at he
            | some v =>
              simp only [hr, Option.some.injEq] at he
              subst he
              obtain ⟨cells, e', hh, hsz, hcr⟩ := hown
              obtain ⟨y, hy, hcase⟩ := run_loadVar hT hl (b := b) (o := 0) (f := fun j => cells.getD j Go.undef) hr (w := w) (fun j hj => by rw [Nat.zero_add]; exact cell_of hh (by omega))
              refine ⟨rfl, y, ?_, ?_⟩
              · rw [Nat.zero_mul]; exact hy
              · rcases hcase with ⟨rfl, rfl, hle⟩ | ⟨rfl, hlt, rfl⟩
                · exact agg_slice hle hcr
                · exact hcr _ hlt
        | arr sz' n g' te =>
          simp only [hb] at he
          cases hr : readV ti (cellsN sz' (g' i)) off with
          | none => simp [hr] at he
          | some v =>
            simp only [hr, Option.some.injEq] at he
            subst he
            have hin : i < n := ho _ (List.mem_singleton.2 rfl)
            obtain ⟨rfl, rfl, cells, e', hh, hsz, hlen, hcr⟩ := hown
            have hli := hlen i hin
            rw [cellsN_eq hli] at hr
            have hmul : i * sz' + sz' ≤ cells.size := by
              have h1 : i * sz' + sz' = (i + 1) * sz' := by rw [Nat.add_mul, Nat.one_mul]
              have h2 : (i + 1) * sz' ≤ n * sz' := Nat.mul_le_mul_right _ hin
              omega
            obtain ⟨y, hy, hcase⟩ := run_loadVar hT hl (b := b) (o := i * sz') (f := fun j => cells.getD (i * sz' + j) Go.undef) hr (w := w) (fun j hj => cell_of hh (by omega))
            refine ⟨rfl, y, hy, ?_⟩
            refine PRep.retag ?_
            rcases hcase with ⟨rfl, rfl, hle⟩ | ⟨rfl, hlt, rfl⟩
            · exact pagg_slice hle fun j hj => hcr i j hin (by omega)
            · exact hcr i _ hin (by omega)
  | _ => simp [loadV] at he

include hT in
theorem run_field {st f off : Nat} {ti : TI} (h : fieldOff tt st f = some (off, ti)) (w : World) :
    ∃ fs fd, (underlying st).run P w = .ok (.struct fs) w ∧ fs[f]? = some fd ∧ fd.offset = off ∧ lk tt fd.type = some ti := by
  unfold fieldOff at h
  split at h
  · rename_i fs _ _ _ _ _ hl
    split at h
    · rename_i fd hf
      split at h
      · rename_i ti' hti
        simp only [Option.some.injEq, Prod.mk.injEq] at h
        obtain ⟨rfl, rfl⟩ := h
        exact ⟨fs, fd, run_und hT hl w, by simpa using hf, rfl, hti⟩
      · simp at h
    · simp at h
  · simp at h

include hT in
theorem fieldAddr_sim {w : World} {ι : Iota} {Fr : Nat → Nat → Prop} {st f : Nat} {p : V} {x : Value} {e : Ef} (he : fieldAddrV tt st f p = some e) (hp : TRep w Fr ι p x) :
    e.upd = [] ∧ ∃ y, (Instr.fieldAt st x f).run P w = .ok y w ∧ TRep w Fr ι e.v y := by
  unfold fieldAddrV at he
  cases hf : fieldOff tt st f with
  | none => simp [hf] at he
  | some q =>
    obtain ⟨off', ti⟩ := q
    simp only [hf] at he
    cases hs : ti.size with
    | zero => simp [hs] at he
    | succ m =>
      simp only [hs] at he
      obtain ⟨fs, fd, hu, hfd, hoff, hti⟩ := run_field hT hf w
      have hsz := run_size hT hti w
      have key : ∀ b o, (Instr.fieldAt st (.pointer (some ⟨b, o, none⟩)) f).run P w = .ok (.pointer (some ⟨b, o + off', none⟩)) w := by
        intro b o
        unfold Instr.fieldAt Instr.sureAddr fieldPlace
        simp only [Sem.run_bind, hu, Result.andThen_ok, hfd, Sem.run_pure, hsz, hs, Nat.add_eq_zero_iff, Nat.succ_ne_self, and_false, if_false, Sem.run_ite, add_none, hoff]
      cases p with
      | ptr cs off t =>
        simp only [ok, Option.some.injEq] at he
        subst he
        cases hp with
        | atom _ hp =>
          cases hp with
          | ptr cv hA hc hr => exact ⟨rfl, _, key _ _, .atom rfl (by rw [Nat.add_assoc]; exact .ptr cv hA hc hr)⟩
      | oref id i off =>
        simp only [ok, Option.some.injEq] at he
        subst he
        cases hp with
        | atom hv _ => simp [isP] at hv
        | oref hi him => exact ⟨rfl, _, key _ _, by rw [Nat.add_assoc]; exact .oref hi him⟩
      | _ => simp at he

theorem readV_value {P : Program} {tt : TT} (hT : TabOk P tt) {t : Nat} {ti : TI} (hl : lk tt t = some ti) {w : World} {ι : Iota} {Fr : Nat → Nat → Prop} {cs : List V} {arr : Array Value} {off : Nat} {v : V}
    (hr : readV ti cs off = some v) (hs : arr.size = cs.length) (hc : ∀ j, j < cs.length → TRep w Fr ι (cs.getD j .undef) (arr.getD j Go.undef)) :
    ∃ y, (part t arr off).run P w = .ok y w ∧ TRep w Fr ι v y := by
  unfold readV at hr
  cases hb : Nat.ble (off + ti.size) cs.length with
  | false => simp [hb] at hr
  | true =>
    have hle := Nat.le_of_ble_eq_true hb
    rw [hb] at hr
    cases ha : isAggD ti.desc with
    | true =>
      rw [ha] at hr
      simp only [Option.some.injEq] at hr
      subst hr
      refine ⟨.agg (arr.extract off (off + ti.size)), ?_, ?_⟩
      · unfold part
        simp [run_isAgg hT hl, ha, run_size hT hl]
      · refine .agg _ (by simp; omega) fun j hj => ?_
        have hj' : j < ti.size := by simp at hj; omega
        have e1 : ((cs.drop off).take ti.size).getD j .undef = cs.getD (off + j) .undef := by simp [List.getD, List.getElem?_take, hj']
        have e2 : (arr.extract off (off + ti.size)).getD j Go.undef = arr.getD (off + j) Go.undef := by
          have h1 : j < min (off + ti.size) arr.size - off := by omega
          have h2 : off + j < arr.size := by omega
          simp [h1, h2]
        rw [e1, e2]; exact hc _ (by omega)
    | false =>
      rw [ha] at hr
      cases hs' : ti.size with
      | zero => simp [hs'] at hr
      | succ m =>
        cases m with
        | succ m => simp [hs'] at hr
        | zero =>
          simp [hs'] at hr
          have hlt : off < cs.length := by rw [hs'] at hle; omega
          have hlt' : off < arr.size := by omega
          refine ⟨arr.getD off Go.undef, ?_, ?_⟩
          · unfold part
            simp [run_isAgg hT hl, ha, hlt']
          · have : v = cs.getD off .undef := by simp [List.getD, hr]
            rw [this]; exact hc off hlt

include hT in
theorem field_sim {w : World} {ι : Iota} {Fr : Nat → Nat → Prop} {st f : Nat} {p : V} {x : Value} {e : Ef} (he : fieldV tt st f p = some e) (hp : TRep w Fr ι p x) :
    e.upd = [] ∧ ∃ y, (Instr.field st x f).run P w = .ok y w ∧ TRep w Fr ι e.v y := by
  unfold fieldV at he
  cases hf : fieldOff tt st f with
  | none => simp [hf] at he
  | some q =>
    obtain ⟨off', ti⟩ := q
    simp only [hf] at he
    cases p with
    | agg cs =>
      cases hr : readV ti cs off' with
      | none => simp [hr] at he
      | some v =>
        simp only [hr, ok, Option.some.injEq] at he
        subst he
        obtain ⟨fs, fd, hu, hfd, hoff, hti⟩ := run_field hT hf w
        cases hp with
        | atom hv _ => simp [isP] at hv
        | agg arr hs hc =>
          obtain ⟨y, hy, hv⟩ := readV_value hT hti hr hs hc
          refine ⟨rfl, y, ?_, hv⟩
          unfold Instr.field
          simp [hu, hfd, asAgg, hoff, hy]
    | _ => simp at he

include hT in
theorem run_elem {t : Nat} {ti : TI} (h : elemTI tt t = some ti) (w : World) :
    ∃ e, (underlying t).run P w = .ok (.slice e) w ∧ lk tt e = some ti := by
  unfold elemTI at h
  split at h
  · rename_i e _ _ _ _ _ hl
    exact ⟨e, run_und hT hl w, h⟩
  · simp at h

include hT in
theorem indexAddr_sim {g : G} {s : AS} {a : Act} {w : World} {ι : Iota} {Fr : Nat → Nat → Prop} (h : Rel g s a w ι Fr) {t : Nat} {p ix : V} {x y : Value} {e : Ef}
    (he : indexAddrV tt s.S t p ix = some e) (ho : ∀ q ∈ e.ob, q) (hp : TRep w Fr ι p x) (hi : TRep w Fr ι ix y) :
    e.upd = [] ∧ ∃ z, (Instr.indexAt t x y).run P w = .ok z w ∧ TRep w Fr ι e.v z := by
  unfold indexAddrV at he
  cases hel : elemTI tt t with
  | none => simp [hel] at he
  | some ti =>
    obtain ⟨el, hu, hle⟩ := run_elem hT hel w
    have hsz := run_size hT hle w
    cases ix with
    | int k i =>
      have hy := inv_int hi
      subst hy
      have key : ∀ b o n cap : Nat, 0 ≤ i → i < (n : Int) → (Instr.indexAt t (.slice (some ⟨b, o, none⟩) n cap) (.int k i)).run P w = .ok (.pointer (some ⟨b, o + i.toNat * ti.size, none⟩)) w := by
        intro b o n cap h0 h1
        unfold Instr.indexAt asIntOf
        simp only [Sem.run_bind, Sem.run_pure, Result.andThen_ok, hu, hsz, h0, h1, and_self, if_true, Sem.run_ite, add_none]
      cases p with
      | sl n g' tg =>
        simp only [hel] at he
        cases hb : Nat.beq (g' i.toNat).cells.length ti.size with
        | false => simp [hb] at he
        | true =>
          simp only [hb, okO, Option.some.injEq] at he
          subst he
          have hob := ho _ (List.mem_singleton.2 rfl)
          have hlt : i.toNat < n := by omega
          have hsz' := natBeq.1 hb
          cases hp with
          | atom _ hp =>
            cases hp with
            | sl0 => omega
            | @sl _ _ _ b off cap sz cv hA hcap hlen hc hr =>
              have hs0 := hlen _ hlt
              refine ⟨rfl, _, key _ _ _ _ hob.1 hob.2, ?_⟩
              have e0 : sz = ti.size := by omega
              subst e0
              have hh : ∀ j, j < (g' i.toNat).cells.length → w.cell? ⟨b, off + i.toNat * ti.size + j, none⟩ = some (cv i.toNat j) := fun j hj => hc _ j hlt (by omega)
              exact .atom rfl (.ptr (base := off + i.toNat * ti.size) (off := 0) (cv i.toNat) hA hh fun j hj => hr _ j hlt (by omega))
      | osl id n =>
        simp only [hel] at he
        cases hb : lk s.S id with
        | none => simp [hb] at he
        | some blk =>
          cases blk with
          | mp => simp [hb] at he
          | box cs => simp [hb] at he
          | arr sz n' g' te =>
            simp only [hb] at he
            cases hbq : Nat.beq sz ti.size with
            | false => simp [hbq] at he
            | true =>
              simp only [hbq, Option.some.injEq] at he
              subst he
              have hob := ho _ (List.mem_singleton.2 rfl)
              have e0 := natBeq.1 hbq
              subst e0
              cases hp with
              | atom hv _ => simp [isP] at hv
              | osl0 => omega
              | @osl _ _ b sz m cap c e1 hid hn hc hs hcs =>
                have hown := (h.own id _ b sz m hb hid).1
                obtain ⟨rfl, _⟩ := hown
                refine ⟨rfl, _, key _ _ _ _ hob.1 hob.2, ?_⟩
                have : (⟨b, 0 + i.toNat * ti.size, none⟩ : Addr) = ⟨b, i.toNat * ti.size + 0, none⟩ := by simp
                rw [this]
                exact .oref hid (by omega)
      | _ => simp [hel] at he
    | _ => simp [hel] at he

end
end Go.Av

/- Operations that leave memory alone, the rest: equality, slices of slices and texts, lengths, the greater of two, and all of them in one statement. -/
namespace Go.Av

section
variable {P : Program} {tt : TT} (hT : TabOk P tt)

theorem inv_agg {w : World} {Fr : Nat → Nat → Prop} {ι : Iota} {cs : List V} {x : Value} (h : TRep w Fr ι (.agg cs) x) :
    ∃ arr : Array Value, x = .agg arr ∧ arr.size = cs.length ∧ ∀ j, j < cs.length → TRep w Fr ι (cs.getD j .undef) (arr.getD j Go.undef) := by
  cases h with
  | atom hv _ => simp [isP] at hv
  | agg arr hs hr => exact ⟨arr, rfl, hs, hr⟩

include hT in
theorem eqFs_run {w : World} {Fr : Nat → Nat → Prop} {ι : Iota} {E : Nat → V → V → Option Bool} {D : Nat} {as bs : List V} {xs ys : Array Value}
    (hE : ∀ t x y p vx vy, E t x y = some p → TRep w Fr ι x vx → TRep w Fr ι y vy → (Op.equalIn D t vx vy).run P w = .ok p w)
    (hx1 : xs.size = as.length) (hx : ∀ j, j < as.length → TRep w Fr ι (as.getD j .undef) (xs.getD j Go.undef))
    (hy1 : ys.size = bs.length) (hy : ∀ j, j < bs.length → TRep w Fr ι (bs.getD j .undef) (ys.getD j Go.undef)) :
    ∀ (fs : List Field) (p : Bool), (∀ f ∈ fs, f.name ≠ "_") → eqFs tt E as bs fs = some p → (Op.eqFields D xs ys fs).run P w = .ok p w
  | [], p, _, h => by
    simp only [eqFs, Option.some.injEq] at h
    subst h
    simp [Op.eqFields]
  | f :: fs, p, hn, h => by
    unfold eqFs at h
    split at h
    case h_2 => simp at h
    case h_1 ti hti =>
      split at h
      case h_2 => simp at h
      case h_1 x y hrx hry =>
        obtain ⟨vx, hvx, hrx'⟩ := readV_value hT hti hrx hx1 hx
        obtain ⟨vy, hvy, hry'⟩ := readV_value hT hti hry hy1 hy
        split at h
        case h_2 => simp at h
        case h_1 q hq =>
          have he := hE _ _ _ _ _ _ hq hrx' hry'
          have hn0 : f.name ≠ "_" := hn f (List.mem_cons_self ..)
          cases fs with
          | nil =>
            simp only [Option.some.injEq] at h
            subst h
            simp only [Op.eqFields, if_pos hn0, Sem.run_bind, hvx, hvy, he, Result.andThen_ok]
            cases q <;> simp
          | cons f' fs' =>
            simp only at h
            split at h
            case h_2 => simp at h
            case h_1 r hr =>
              simp only [Option.some.injEq] at h
              subst h
              have ih := eqFs_run hE hx1 hx hy1 hy (f' :: fs') r (fun g hg => hn g (List.mem_cons_of_mem _ hg)) hr
              rw [Op.eqFields]
              simp only [if_pos hn0, Sem.run_bind, hvx, hvy, he, Result.andThen_ok]
              cases q
              · simp
              · simpa using ih

include hT in
theorem eqT_run {w : World} {Fr : Nat → Nat → Prop} {ι : Iota} : ∀ (d D t : Nat) (x y : V) (p : Bool) (vx vy : Value), d ≤ D → eqT tt d t x y = some p → TRep w Fr ι x vx → TRep w Fr ι y vy →
    (Op.equalIn D t vx vy).run P w = .ok p w
  | 0, _, _, _, _, _, _, _, _, h, _, _ => by simp [eqT] at h
  | d + 1, 0, _, _, _, _, _, _, hd, _, _, _ => by omega
  | d + 1, D + 1, t, x, y, p, vx, vy, hd, h, hx, hy => by
    unfold eqT at h
    split at h
    · rename_i kd _ _ _ _ _ k a k' b hl
      have hx' := inv_int hx
      have hy' := inv_int hy
      subst hx' hy'
      split at h
      · rename_i hk
        have := kindB_eq hk
        subst this
        simp only [Option.some.injEq] at h
        subst h
        exact run_equalIn_int w D t k kd a b (hT.und _ _ hl)
      · simp at h
    · rename_i _ _ _ _ _ a b hl
      have hx' := inv_bool hx
      have hy' := inv_bool hy
      subst hx' hy'
      simp only [Option.some.injEq] at h
      subst h
      exact run_equalIn_bool' w D t a b (hT.und _ _ hl)
    · rename_i _ _ _ _ _ a b hl
      have hx' := inv_str hx
      have hy' := inv_str hy
      subst hx' hy'
      simp only [Option.some.injEq] at h
      subst h
      exact run_equalIn_string w D t a b (hT.und _ _ hl)
    · rename_i fs _ _ _ _ as bs hl
      obtain ⟨xs, rfl, hx1, hx2⟩ := inv_agg hx
      obtain ⟨ys, rfl, hy1, hy2⟩ := inv_agg hy
      obtain ⟨hc1, hc2, hc3⟩ := hT.cmp _ _ hl rfl
      have hu := hT.und _ _ hl
      have hf : P.fieldsOf t = fs := by simp [Program.fieldsOf, hu]
      rw [run_equalIn_struct w D t xs ys (by rw [hf]; exact hu) hc1, hf]
      exact eqFs_run hT (fun t x y p vx vy hE h1 h2 => eqT_run d D t x y p vx vy (by omega) hE h1 h2) hx1 hx2 hy1 hy2 _ p (hc3 fs rfl) h
    · simp at h

theorem eqGuard_run {op : BinOp} {t : Nat} {x y : Operand} {a b : Value} {w : World} (h : ∀ cs ds, a = .agg cs → b = .agg ds → P.eqGuardType P.depth t = false)
    (hn : a ≠ .nilIface) : (eqGuard op t x y a b).run P w = .ok () w := by
  unfold eqGuard
  cases op <;> simp only [Bool.not_false, Bool.not_true, if_true, Bool.false_eq_true, if_false, Sem.run_pure] <;> try rfl
  all_goals
    cases a <;> cases b <;> first
      | rfl
      | exact absurd rfl hn
      | (have := h _ _ rfl rfl; simp [this])
      | simp

include hT in
theorem binV_run {w : World} {Fr : Nat → Nat → Prop} {ι : Iota} {op : BinOp} {t : Nat} {ox oy : Operand} {x y : V} {vx vy : Value} {e : Ef} (he : binV tt op t x y = some e) (ho : ∀ p ∈ e.ob, p)
    (hx : TRep w Fr ι x vx) (hy : TRep w Fr ι y vy) :
    e.upd = [] ∧ ∃ z, (do eqGuard op t ox oy vx vy; binOp op t vx vy : Sem Value).run P w = .ok z w ∧ TRep w Fr ι e.v z := by
  have guard0 : (∀ cs ds, vx = .agg cs → vy = .agg ds → P.eqGuardType P.depth t = false) → vx ≠ .nilIface → ∀ z, (binOp op t vx vy).run P w = .ok z w →
      (do eqGuard op t ox oy vx vy; binOp op t vx vy : Sem Value).run P w = .ok z w := by
    intro h1 h2 z hz
    simp only [Sem.run_bind, eqGuard_run h1 h2, Result.andThen_ok, hz]
  unfold binV at he
  split at he
  · rename_i k a k' b
    have hx' := inv_int hx
    have hy' := inv_int hy
    subst hx' hy'
    split at he
    · obtain ⟨h1, z, hz, hv⟩ := shV_run (P := P) (w := w) (t := t) (k' := k') he ho
      exact ⟨h1, z, guard0 (fun _ _ h => by cases h) (by simp) z hz, hv Fr ι⟩
    split at he
    · rename_i hk
      have := kindB_eq hk
      subst this
      obtain ⟨h1, z, hz, hv⟩ := binInt_run (P := P) (w := w) (t := t) he ho
      exact ⟨h1, z, guard0 (fun _ _ h => by cases h) (by simp) z hz, hv Fr ι⟩
    · simp at he
  · rename_i a b
    have hx' := inv_str hx
    have hy' := inv_str hy
    subst hx' hy'
    obtain ⟨h1, z, hz, hv⟩ := binStr_run (P := P) (w := w) (t := t) he ho
    exact ⟨h1, z, guard0 (fun _ _ h => by cases h) (by simp) z hz, hv Fr ι⟩
  · rename_i a b
    have hx' := inv_bool hx
    have hy' := inv_bool hy
    subst hx' hy'
    split at he
    · rename_i p hp
      simp only [ok, Option.some.injEq] at he
      subst he
      have hr := eqT_run hT 5 10000 t _ _ p _ _ (by omega) hp hx hy
      exact ⟨rfl, .bool p, guard0 (fun _ _ h => by cases h) (by simp) _ (by simp [binOp, Op.equal, Op.maxDepth, hr]), .atom rfl (.bool _)⟩
    · rename_i p hp
      simp only [ok, Option.some.injEq] at he
      subst he
      have hr := eqT_run hT 5 10000 t _ _ p _ _ (by omega) hp hx hy
      exact ⟨rfl, .bool (!p), guard0 (fun _ _ h => by cases h) (by simp) _ (by simp [binOp, Op.equal, Op.maxDepth, hr]), .atom rfl (.bool _)⟩
    · simp at he
  · rename_i as bs
    have hcmp : ∀ p, eqT tt 5 t (.agg as) (.agg bs) = some p → P.eqGuardType P.depth t = false := by
      intro p hp
      unfold eqT at hp
      split at hp
      · rename_i h _ ; cases h
      · rename_i h _ ; cases h
      · rename_i h _ ; cases h
      · rename_i hl _ _
        exact (hT.cmp _ _ hl rfl).2.1
      · simp at hp
    obtain ⟨xs, rfl, _⟩ := inv_agg hx
    obtain ⟨ys, rfl, _⟩ := inv_agg hy
    split at he
    · rename_i p hp
      simp only [ok, Option.some.injEq] at he
      subst he
      have hr := eqT_run hT 5 10000 t _ _ p _ _ (by omega) hp hx hy
      exact ⟨rfl, .bool p, guard0 (fun _ _ _ _ => hcmp p hp) (by simp) _ (by rw [run_eql_struct]; simp [hr]), .atom rfl (.bool _)⟩
    · rename_i p hp
      simp only [ok, Option.some.injEq] at he
      subst he
      have hr := eqT_run hT 5 10000 t _ _ p _ _ (by omega) hp hx hy
      exact ⟨rfl, .bool (!p), guard0 (fun _ _ _ _ => hcmp p hp) (by simp) _ (by rw [run_neq_struct]; simp [hr]), .atom rfl (.bool _)⟩
    · simp at he
  · simp at he

include hT in
theorem run_strT {t : Nat} (h : isStrT tt t = true) (w : World) : (underlying t).run P w = .ok .string w := by
  unfold isStrT at h
  split at h
  · rename_i _ _ _ _ _ hl
    exact run_und hT hl w
  · simp at h

include hT in
theorem run_slT {t : Nat} (h : isSlT tt t = true) (w : World) : ∃ e ti, elemTI tt t = some ti ∧ (underlying t).run P w = .ok (.slice e) w ∧ lk tt e = some ti := by
  unfold isSlT at h
  split at h
  · rename_i ti hti
    obtain ⟨e, h1, h2⟩ := run_elem hT hti w
    exact ⟨e, ti, hti, h1, h2⟩
  · simp at h

include hT in
theorem lenV_run {w : World} {Fr : Nat → Nat → Prop} {ι : Iota} {t rt : Nat} {x : V} {vx : Value} {e : Ef} (rest : List TypeId) (he : lenV tt t x = some e) (hx : TRep w Fr ι x vx) :
    e.upd = [] ∧ ∃ z, (Builtin.len_ (t :: rest).toArray rt #[vx]).run P w = .ok z w ∧ TRep w Fr ι e.v z := by
  have str : ∀ s, vx = .string s → isStrT tt t = true → (Builtin.len_ (t :: rest).toArray rt #[vx]).run P w = .ok (.int .i64 s.size) w := by
    intro s hs hst
    subst hs
    unfold Builtin.len_
    simp [run_strT hT hst, goInt]
  have sl : ∀ a n c, vx = .slice a n c → isSlT tt t = true → (Builtin.len_ (t :: rest).toArray rt #[vx]).run P w = .ok (.int .i64 n) w := by
    intro a n c hs hst
    subst hs
    obtain ⟨e, ti, _, hu, _⟩ := run_slT hT hst w
    unfold Builtin.len_
    simp [hu, goInt]
  unfold lenV at he
  split at he
  · rename_i s hs
    simp only [ok, Option.some.injEq] at he
    subst he
    exact ⟨rfl, _, str s (inv_str hx) hs, .atom rfl (.int _ _)⟩
  · rename_i hs
    simp only [ok, Option.some.injEq] at he
    subst he
    cases hx with
    | atom _ hp => cases hp; exact ⟨rfl, _, sl _ _ _ rfl hs, .atom rfl (.int _ _)⟩
  · rename_i n g t hs
    simp only [ok, Option.some.injEq] at he
    subst he
    cases hx with
    | atom _ hp =>
      cases hp with
      | sl0 => exact ⟨rfl, _, sl _ _ _ rfl hs, .atom rfl (.int _ _)⟩
      | sl => exact ⟨rfl, _, sl _ _ _ rfl hs, .atom rfl (.int _ _)⟩
  · rename_i id n hs
    simp only [ok, Option.some.injEq] at he
    subst he
    cases hx with
    | atom hv _ => simp [isP] at hv
    | osl0 => exact ⟨rfl, _, sl _ _ _ rfl hs, .atom rfl (.int _ _)⟩
    | osl => exact ⟨rfl, _, sl _ _ _ rfl hs, .atom rfl (.int _ _)⟩
  · simp at he

end
end Go.Av

/- Operations that leave memory alone, all of them in one statement. -/
namespace Go.Av

section
variable {P : Program} {tt : TT} (hT : TabOk P tt)

/-- A bound of a slice expression, and what the machine has for it. -/
def BRep (lo : Option V) (v : Option Value) : Prop := ∀ b, boundV lo = some b → (v = none ∧ b = none) ∨ ∃ k i, v = some (.int k i) ∧ b = some i

theorem brep {w : World} {Fr : Nat → Nat → Prop} {ι : Iota} {x : Option Operand} {ρ : Operand → V} {ev : Operand → Value} (h : ∀ o, x = some o → TRep w Fr ι (ρ o) (ev o)) : BRep (x.map ρ) (x.map ev) := by
  intro b hb
  cases x with
  | none => simp only [Option.map_none, boundV, Option.some.injEq] at hb; exact .inl ⟨rfl, hb.symm⟩
  | some o =>
    have hr := h o rfl
    simp only [Option.map_some] at hb ⊢
    cases hv : ρ o with
    | int k i =>
      rw [hv] at hb hr
      simp only [boundV, Option.some.injEq] at hb
      exact .inr ⟨k, i, by rw [inv_int hr], hb.symm⟩
    | _ => rw [hv] at hb; simp [boundV] at hb

theorem run_bound {w : World} {k : IntKind} {i : Int} {y : Nat} {c : BoundsCode} (h0 : 0 ≤ i) (h1 : i ≤ (y : Int)) : (Instr.sliceBound (.int k i) y c).run P w = .ok i.toNat w := by
  unfold Instr.sliceBound asIntOf
  simp [h0, h1]

theorem run_bounds {w : World} {isS : Bool} {len cap : Nat} {lo hi : Option V} {vlo vhi : Option Value} {l h : Option Int} (h1 : boundV lo = some l) (h2 : boundV hi = some h)
    (r1 : BRep lo vlo) (r2 : BRep hi vhi) (hl : 0 ≤ l.getD 0) (hlh : l.getD 0 ≤ h.getD len) (hh : h.getD (len : Int) ≤ (cap : Int)) :
    (Instr.sliceBounds isS len cap vlo vhi none).run P w = .ok ((l.getD 0).toNat, (h.getD (len : Int)).toNat, cap) w := by
  unfold Instr.sliceBounds
  rcases r1 l h1 with ⟨rfl, rfl⟩ | ⟨k1, i1, rfl, rfl⟩ <;> rcases r2 h h2 with ⟨rfl, rfl⟩ | ⟨k2, i2, rfl, rfl⟩
  · simp
  · simp only [Option.getD_none, Option.getD_some] at *
    simp [run_bound (P := P) (w := w) (k := k2) (y := cap) hlh hh]
  · simp only [Option.getD_none, Option.getD_some] at *
    simp [run_bound (P := P) (w := w) (k := k1) (y := len) hl hlh]
  · simp only [Option.getD_some] at *
    have e2 := run_bound (P := P) (w := w) (k := k2) (i := i2) (y := cap) (c := if isS = true then .sliceAcap else .sliceAlen) (by omega) hh
    have e1 := run_bound (P := P) (w := w) (k := k1) (i := i1) (y := i2.toNat) (c := .sliceB) hl (by omega)
    simp [e1, e2]

include hT in
theorem slice_str {t : Nat} (ht : isStrT tt t = true) {w : World} {s : ByteArray} {lo hi : Option V} {vlo vhi : Option Value} {l h : Option Int} (h1 : boundV lo = some l) (h2 : boundV hi = some h)
    (r1 : BRep lo vlo) (r2 : BRep hi vhi) (hl : 0 ≤ l.getD 0) (hlh : l.getD 0 ≤ h.getD s.size) (hh : h.getD (s.size : Int) ≤ (s.size : Int)) :
    (Instr.sliceAt t (.string s) vlo vhi none).run P w = .ok (.string (s.extract (l.getD 0).toNat (h.getD (s.size : Int)).toNat)) w := by
  have hu := run_strT hT ht w
  unfold Instr.sliceAt Instr.slice
  simp only [Sem.run_bind, hu, Result.andThen_ok, Option.isSome_none, Bool.false_eq_true, if_false, Sem.run_pure, run_bounds (P := P) (w := w) (isS := false) h1 h2 r1 r2 hl hlh hh]

include hT in
theorem slice_sl {t : Nat} {ti : TI} (ht : elemTI tt t = some ti) {w : World} {a : Option Addr} {len cap : Nat} {lo hi : Option V} {vlo vhi : Option Value} {l h : Option Int}
    (h1 : boundV lo = some l) (h2 : boundV hi = some h) (r1 : BRep lo vlo) (r2 : BRep hi vhi) (hl : 0 ≤ l.getD 0) (hlh : l.getD 0 ≤ h.getD len) (hh : h.getD (len : Int) ≤ (cap : Int)) :
    (Instr.sliceAt t (.slice a len cap) vlo vhi none).run P w =
      .ok (.slice (if cap = (l.getD 0).toNat then a else a.map (·.add ((l.getD 0).toNat * ti.size))) ((h.getD (len : Int)).toNat - (l.getD 0).toNat) (cap - (l.getD 0).toNat)) w := by
  obtain ⟨e, hu, he⟩ := run_elem hT ht w
  have hsz := run_size hT he w
  unfold Instr.sliceAt Instr.slice
  simp only [Sem.run_bind, hu, Result.andThen_ok, Sem.run_pure, hsz, run_bounds (P := P) (w := w) (isS := true) h1 h2 r1 r2 hl hlh hh]

include hT in
theorem slice0 {t : Nat} {e : TypeId} {w : World} (hu : (underlying t).run P w = .ok (.slice e) w) {ti : TI} (he : lk tt e = some ti) {a : Option Addr} {len cap : Nat} {vlo : Option Value} {k1 k2 : IntKind} (hlo : vlo = none ∨ ∃ k, vlo = some (.int k 0)) :
    (Instr.sliceAt t (.slice a len cap) vlo (some (.int k1 0)) (some (.int k2 0))).run P w = .ok (.slice a 0 0) w := by
  have hsz := run_size hT he w
  have e1 := run_bound (P := P) (w := w) (k := k2) (i := 0) (y := cap) (c := .slice3Acap) (by omega) (by omega)
  have e2 := run_bound (P := P) (w := w) (k := k1) (i := 0) (y := 0) (c := .slice3B) (by omega) (by omega)
  unfold Instr.sliceAt Instr.slice Instr.sliceBounds
  rcases hlo with rfl | ⟨k, rfl⟩
  · simp [hu, e1, e2, hsz]
  · have e3 := run_bound (P := P) (w := w) (k := k) (i := 0) (y := 0) (c := .slice3C) (by omega) (by omega)
    simp [hu, e1, e2, e3, hsz]

include hT in
theorem sliceV_run {g : G} {s : AS} {ac : Act} {w : World} {Fr : Nat → Nat → Prop} {ι : Iota} (_h : Rel g s ac w ι Fr) {t : Nat} {x : V} {vx : Value} {lo hi mx : Option V} {vlo vhi vmx : Option Value} {e : Ef}
    (he : sliceV tt t x lo hi mx = some e) (ho : ∀ p ∈ e.ob, p) (hx : TRep w Fr ι x vx) (r1 : BRep lo vlo) (r2 : BRep hi vhi) (r3 : BRep mx vmx) (hm : mx = none → vmx = none) :
    e.upd = [] ∧ ∃ z, (Instr.sliceAt t vx vlo vhi vmx).run P w = .ok z w ∧ TRep w Fr ι e.v z := by
  unfold sliceV at he
  split at he
  · rename_i s l h h1 h2
    have := hm rfl
    subst this
    split at he
    · rename_i ht
      simp only [okO, Option.some.injEq] at he
      subst he
      have hob := ho _ (List.mem_singleton.2 rfl)
      have := inv_str hx
      subst this
      exact ⟨rfl, _, slice_str hT ht h1 h2 r1 r2 hob.1 hob.2.1 hob.2.2, .atom rfl (.str _)⟩
    · simp at he
  · rename_i n f tg l h h1 h2
    have := hm rfl
    subst this
    split at he
    · rename_i ti ht hti
      simp only [okO, Option.some.injEq] at he
      subst he
      have hob := ho _ (List.mem_cons_self ..)
      have hsz : sizedL ti.size n f := ho _ (List.mem_cons_of_mem _ (List.mem_singleton.2 rfl))
      cases hx with
      | atom _ hp =>
        generalize hl' : l.getD 0 = l' at hob
        generalize hh' : h.getD (n : Int) = h' at hob
        cases hp with
        | sl0 a cap =>
          have e1 : l' = 0 := by omega
          have e2 : h' = 0 := by omega
          have hrun := slice_sl (P := P) hT hti (w := w) (a := a) (len := 0) (cap := cap) h1 h2 r1 r2 (by rw [hl', e1]; omega) (by rw [hl', hh', e1, e2]; omega) (by rw [hh', e2]; omega)
          refine ⟨rfl, _, hrun, ?_⟩
          rw [hl', hh', e1, e2]
          exact .atom rfl (.sl0 _ _ _ _)
        | @sl _ _ _ b off cap sz cv hA hcap hlen hc hr =>
          have hrun := slice_sl (P := P) hT hti (w := w) (a := some ⟨b, off, none⟩) (len := n) (cap := cap) h1 h2 r1 r2 (by rw [hl']; omega) (by rw [hl', hh']; omega) (by rw [hh']; omega)
          refine ⟨rfl, _, hrun, ?_⟩
          rw [hl', hh']
          by_cases hz : h'.toNat - l'.toNat = 0
          · simp only [hz]; exact .atom rfl (.sl0 _ _ _ _)
          · have hne : ¬ cap = l'.toNat := by omega
            have hs1 : sz = ti.size := by rw [← hlen 0 (by omega)]; exact (hsz 0 (by omega)).1
            subst hs1
            simp only [hne, if_false, Option.map_some, add_none]
            have key : PRep w (Fr tg) (.sl (h'.toNat - l'.toNat) (dropg f l'.toNat) tg) (.slice (some ⟨b, off + l'.toNat * ti.size, none⟩) (h'.toNat - l'.toNat) (cap - l'.toNat)) := by
              refine .sl (sz := ti.size) (fun i j => cv (l'.toNat + i) j) hA (by omega) (fun i hi => hlen _ (by omega)) (fun i j hi hj => ?_) (fun i j hi hj => hr _ j (by omega) hj)
              have e : off + l'.toNat * ti.size + i * ti.size + j = off + (l'.toNat + i) * ti.size + j := by rw [Nat.add_mul]; omega
              rw [e]; exact hc _ j (by omega) hj
            cases l with
            | none =>
              simp only [Option.getD_none] at hl'
              subst hl'
              have : dropg f (0 : Int).toNat = f := by funext i; simp [dropg]
              rw [this] at key
              exact .atom rfl key
            | some l0 => exact .atom rfl key
    · simp at he
  · rename_i id n h h1 h2
    have := hm rfl
    subst this
    split at he
    · rename_i ht
      simp only [okO, Option.some.injEq] at he
      subst he
      have hob := ho _ (List.mem_singleton.2 rfl)
      obtain ⟨el, ti, hti, hu, hel⟩ := run_slT hT ht w
      cases hx with
      | atom hv _ => simp [isP] at hv
      | osl0 a hi =>
        have e2 : h = 0 := by omega
        subst e2
        have hrun := slice_sl (P := P) hT hti (w := w) (a := a) (len := 0) (cap := 0) h1 h2 r1 r2 (by simp) (by simp) (by simp)
        refine ⟨rfl, _, hrun, ?_⟩
        simp
        exact .osl0 _ hi
      | @osl _ _ b sz m cap c e1 hid hn hc hs hcs =>
        have hrun := slice_sl (P := P) hT hti (w := w) (a := some ⟨b, 0, none⟩) (len := n) (cap := cap) h1 h2 r1 r2 (by simp) (by simpa using hob.1) (by simp; omega)
        refine ⟨rfl, _, hrun, ?_⟩
        simp only [Option.getD_none, Option.getD_some, Int.toNat_zero, Nat.zero_mul, Nat.sub_zero, Option.map_some, add_none, Nat.add_zero, ite_self]
        exact .osl hid (by omega) (by omega) hs hcs
    · simp at he
  · rename_i h h1 h2
    have := hm rfl
    subst this
    split at he
    · rename_i ht
      simp only [okO, Option.some.injEq] at he
      subst he
      have e2 : h = 0 := ho _ (List.mem_singleton.2 rfl)
      subst e2
      obtain ⟨el, ti, hti, hu, hel⟩ := run_slT hT ht w
      cases hx with
      | atom _ hp =>
        cases hp with
        | nil a =>
          have hrun := slice_sl (P := P) hT hti (w := w) (a := a) (len := 0) (cap := 0) h1 h2 r1 r2 (by simp) (by simp) (by simp)
          refine ⟨rfl, _, hrun, ?_⟩
          simp
          exact .atom rfl (.nil _)
    · simp at he
  · rename_i x _ _ _ _ lo' k0 h1 h2
    obtain ⟨k1, hk1⟩ : ∃ k, vhi = some (.int k 0) := by
      rcases r2 _ h2 with ⟨_, h⟩ | ⟨k, i, hv, h⟩
      · cases h
      · cases h; exact ⟨k, hv⟩
    obtain ⟨k2, hk2⟩ : ∃ k, vmx = some (.int k 0) := by
      rcases r3 (some 0) rfl with ⟨_, h⟩ | ⟨k, i, hv, h⟩
      · cases h
      · cases h; exact ⟨k, hv⟩
    subst hk1 hk2
    have fin : ∀ a n c, vx = .slice a n c → isSlT tt t = true → (lo' = none ∨ lo' = some 0) → (Instr.sliceAt t vx vlo (some (.int k1 0)) (some (.int k2 0))).run P w = .ok (.slice a 0 0) w := by
      intro a n c hv ht hlo
      subst hv
      obtain ⟨el, ti, hti, hu, hel⟩ := run_slT hT ht w
      refine slice0 (P := P) hT hu hel ?_
      rcases r1 _ h1 with ⟨hv, _⟩ | ⟨k, i, hv, hb⟩
      · exact .inl hv
      · rcases hlo with rfl | rfl
        · cases hb
        · cases hb; exact .inr ⟨k, hv⟩
    have sl : ∀ n f tg, x = .sl n f tg → ∃ a c, vx = .slice a n c := by
      rintro n f tg rfl
      cases hx with
      | atom _ hp => cases hp <;> exact ⟨_, _, rfl⟩
    have osl : ∀ id n, x = .osl id n → ∃ a c, vx = .slice a n c := by
      rintro id n rfl
      cases hx with
      | atom hv _ => simp [isP] at hv
      | osl0 => exact ⟨_, _, rfl⟩
      | osl => exact ⟨_, _, rfl⟩
    have nl : x = .nil → ∃ a c, vx = .slice a 0 c := by
      rintro rfl
      cases hx with
      | atom _ hp => cases hp; exact ⟨_, _, rfl⟩
    split at he <;> simp only [ok, Option.some.injEq, reduceCtorEq] at he <;> subst he
    · rename_i ht; obtain ⟨a, c, hv⟩ := sl _ _ _ rfl; exact ⟨rfl, _, fin _ _ _ hv ht (.inl rfl), .atom rfl (.nil _)⟩
    · rename_i ht; obtain ⟨a, c, hv⟩ := osl _ _ rfl; exact ⟨rfl, _, fin _ _ _ hv ht (.inl rfl), .atom rfl (.nil _)⟩
    · rename_i ht; obtain ⟨a, c, hv⟩ := nl rfl; exact ⟨rfl, _, fin _ _ _ hv ht (.inl rfl), .atom rfl (.nil _)⟩
    · rename_i ht; obtain ⟨a, c, hv⟩ := sl _ _ _ rfl; exact ⟨rfl, _, fin _ _ _ hv ht (.inr rfl), .atom rfl (.nil _)⟩
    · rename_i ht; obtain ⟨a, c, hv⟩ := osl _ _ rfl; exact ⟨rfl, _, fin _ _ _ hv ht (.inr rfl), .atom rfl (.nil _)⟩
    · rename_i ht; obtain ⟨a, c, hv⟩ := nl rfl; exact ⟨rfl, _, fin _ _ _ hv ht (.inr rfl), .atom rfl (.nil _)⟩
  · simp at he


theorem maxV_run {w : World} {Fr : Nat → Nat → Prop} {ι : Iota} {x y z : V} {vx vy : Value} (h : maxV x y = some z) (hx : TRep w Fr ι x vx) (hy : TRep w Fr ι y vy) :
    ∃ u, (Builtin.max2 vx vy).run P w = .ok u w ∧ TRep w Fr ι z u := by
  unfold maxV at h
  split at h
  · have hx' := inv_int hx
    have hy' := inv_int hy
    subst hx' hy'
    split at h
    · simp only [Option.some.injEq] at h
      subst h
      exact ⟨_, rfl, .atom rfl (.int _ _)⟩
    · simp at h
  · simp at h

theorem minV_run {w : World} {Fr : Nat → Nat → Prop} {ι : Iota} {x y z : V} {vx vy : Value} (h : minV x y = some z) (hx : TRep w Fr ι x vx) (hy : TRep w Fr ι y vy) :
    ∃ u, (Builtin.min2 vx vy).run P w = .ok u w ∧ TRep w Fr ι z u := by
  unfold minV at h
  split at h
  · have hx' := inv_int hx
    have hy' := inv_int hy
    subst hx' hy'
    split at h
    · simp only [Option.some.injEq] at h
      subst h
      exact ⟨_, rfl, .atom rfl (.int _ _)⟩
    · simp at h
  · simp at h

theorem fold_run {w : World} {Fr : Nat → Nat → Prop} {ι : Iota} {f : V → V → Option V} {m : Value → Value → Sem Value}
    (hf : ∀ x y z vx vy, f x y = some z → TRep w Fr ι x vx → TRep w Fr ι y vy → ∃ u, (m vx vy).run P w = .ok u w ∧ TRep w Fr ι z u) :
    ∀ (l : List V) (vl : List Value) (x z : V) (vx : Value), foldV f x l = some z → TRep w Fr ι x vx → l.length = vl.length → (∀ j, j < l.length → TRep w Fr ι (l.getD j .undef) (vl.getD j Go.undef)) →
      ∃ u, (vl.foldlM m vx).run P w = .ok u w ∧ TRep w Fr ι z u
  | [], [], x, z, vx, h, hx, _, _ => by
    simp only [foldV, Option.some.injEq] at h
    subst h
    exact ⟨vx, by simp, hx⟩
  | y :: l, vy :: vl, x, z, vx, h, hx, hlen, hr => by
    unfold foldV at h
    split at h
    · rename_i t ht
      obtain ⟨u, hu, hur⟩ := hf _ _ _ _ _ ht hx (by simpa using hr 0 (by simp))
      obtain ⟨u', hu', hur'⟩ := fold_run hf l vl t z u h hur (by simpa using hlen) (fun j hj => by simpa using hr (j + 1) (by simpa using hj))
      exact ⟨u', by simp [hu, hu'], hur'⟩
    · simp at h
  | [], _ :: _, _, _, _, _, _, h, _ => by simp at h
  | _ :: _, [], _, _, _, _, _, h, _ => by simp at h

include hT in
theorem convV_run {w : World} {Fr : Nat → Nat → Prop} {ι : Iota} {src dst : Nat} {x : V} {vx : Value} {e : Ef} (he : convV tt src dst x = some e) (ho : ∀ p ∈ e.ob, p) (hx : TRep w Fr ι x vx) :
    e.upd = [] ∧ ∃ z, (convert src dst vx).run P w = .ok z w ∧ TRep w Fr ι e.v z := by
  unfold convV at he
  split at he
  · rename_i h1 h2
    simp only [okO, Option.some.injEq] at he
    subst he
    have hi := inv_int hx
    subst hi
    have hk := ho _ (List.mem_singleton.2 rfl)
    refine ⟨rfl, _, ?_, .atom rfl (.int _ _)⟩
    unfold convert
    simp only [Sem.run_bind, run_und hT h1, run_und hT h2, Result.andThen_ok, Conv.intToInt]
    rw [hk]; rfl
  · rename_i h1 h2
    simp only [ok, Option.some.injEq] at he
    subst he
    have hi := inv_str hx
    subst hi
    refine ⟨rfl, _, ?_, .atom rfl (.str _)⟩
    unfold convert
    simp [run_und hT h1, run_und hT h2]
  · simp at he

end
end Go.Av
