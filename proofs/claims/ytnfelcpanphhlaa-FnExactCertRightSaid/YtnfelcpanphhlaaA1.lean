/- The abstract values, the abstract state and the abstract weakest condition over the model's code: definitions alone, nothing is claimed here. -/
import Derived.Calls
namespace Go.Av

/-- Abstract values. 'sl n g t': a frozen slice of n elements; 'ptr cs off t': a place in a frozen object of cells cs; 'osl', 'oref': a slice, a place of one's own; 'cnd c v': v where c holds, else nothing. -/
inductive V where
  | int (k : IntKind) (n : Int)
  | bool (b : Bool)
  | str (s : ByteArray)
  | nil
  | sl (n : Nat) (g : Nat → V) (t : Nat)
  | ptr (cs : List V) (off : Nat) (t : Nat)
  | agg (cs : List V)
  | tup (vs : List V)
  | fn (f : FuncId) (caps : List V)
  | osl (id n : Nat)
  | oref (id i off : Nat)
  | cnd (c : Bool) (v : V)
  | undef

instance : Inhabited V := ⟨.undef⟩

def V.cells : V → List V
  | .agg cs => cs
  | v => [v]

/-- Blocks of one's own: a row of elements (sz cells each; te: the tag of what the elements reach), or one object. -/
inductive Blk where
  | arr (sz n : Nat) (g : Nat → V) (te : Nat)
  | box (cs : List V)

def lk {α : Type} : List (Nat × α) → Nat → Option α
  | [], _ => none
  | (k, x) :: r, n => match Nat.beq k n with
    | true => some x
    | false => lk r n

def del {α : Type} : List (Nat × α) → Nat → List (Nat × α)
  | [], _ => []
  | (k, x) :: r, n => match Nat.beq k n with
    | true => del r n
    | false => (k, x) :: del r n

def put {α : Type} (l : List (Nat × α)) (n : Nat) (x : α) : List (Nat × α) := (n, x) :: del l n

def mem (n : Nat) : List Nat → Bool
  | [] => false
  | k :: r => Nat.beq k n || mem n r

structure AS where
  T : List (Nat × V)
  S : List (Nat × Blk)

/-- What a type is, as the seat's table tells it. -/
structure TI where
  desc : TypeDesc
  size : Nat
  bytes : Nat
  zero : V
  flat : Bool
  cmp : Bool

abbrev TT := List (Nat × TI)

def ofCell : Value → V
  | .int k n => .int k n
  | .bool b => .bool b
  | .string s => .str s
  | .slice _ 0 0 => .nil
  | _ => .undef

def ofConst : Value → V
  | .agg cs => .agg (cs.toList.map ofCell)
  | .func (.func f) ⟨[]⟩ ⟨[]⟩ => .fn f []
  | v => ofCell v

/-! ### Mentions, renamings, tags -/
mutual
/-- Does the value name a block of one's own whose id the test takes? -/
def V.ment (p : Nat → Bool) : V → Bool
  | .osl id _ => p id
  | .oref id _ _ => p id
  | .agg cs => V.mentL p cs
  | .tup cs => V.mentL p cs
  | .fn _ cs => V.mentL p cs
  | .cnd _ v => V.ment p v
  | _ => false
def V.mentL (p : Nat → Bool) : List V → Bool
  | [] => false
  | v :: r => V.ment p v || V.mentL p r
end

mutual
/-- The ids that a value names, in order. -/
def V.ids : V → List Nat
  | .osl id _ => [id]
  | .oref id _ _ => [id]
  | .agg cs => V.idsL cs
  | .tup cs => V.idsL cs
  | .fn _ cs => V.idsL cs
  | .cnd _ v => V.ids v
  | _ => []
def V.idsL : List V → List Nat
  | [] => []
  | v :: r => V.ids v ++ V.idsL r
end

mutual
def V.ren (f : Nat → Nat) : V → V
  | .osl id n => .osl (f id) n
  | .oref id i off => .oref (f id) i off
  | .agg cs => .agg (V.renL f cs)
  | .tup cs => .tup (V.renL f cs)
  | .fn g cs => .fn g (V.renL f cs)
  | .cnd c v => .cnd c (V.ren f v)
  | v => v
def V.renL (f : Nat → Nat) : List V → List V
  | [] => []
  | v :: r => V.ren f v :: V.renL f r
end

mutual
/-- All tags turned. -/
def V.tag (f : Nat → Nat) : V → V
  | .sl n g t => .sl n g (f t)
  | .ptr cs o t => .ptr cs o (f t)
  | .agg cs => .agg (V.tagL f cs)
  | .tup cs => .tup (V.tagL f cs)
  | .fn g cs => .fn g (V.tagL f cs)
  | .cnd c v => .cnd c (V.tag f v)
  | v => v
def V.tagL (f : Nat → Nat) : List V → List V
  | [] => []
  | v :: r => V.tag f v :: V.tagL f r
end

mutual
/-- All that the value reaches in frozen memory was made by the call that told it. -/
def V.closed : V → Bool
  | .sl _ _ t => Nat.ble 2 t
  | .ptr _ _ t => Nat.ble 2 t
  | .agg cs => V.closedL cs
  | .tup cs => V.closedL cs
  | .fn _ cs => V.closedL cs
  | .cnd _ v => V.closed v
  | _ => true
def V.closedL : List V → Bool
  | [] => true
  | v :: r => V.closed v && V.closedL r
end

def Blk.closed : Blk → Bool
  | .arr _ _ _ te => Nat.ble 2 te
  | .box cs => V.closedL cs

def Blk.ids : Blk → List Nat
  | .arr _ _ _ _ => []
  | .box cs => V.idsL cs

def Blk.ment (p : Nat → Bool) : Blk → Bool
  | .arr _ _ _ _ => false
  | .box cs => V.mentL p cs

/-! ### What is handed to a callee for reading; what is frozen -/
/-- One cell, read only. -/
def lendA (S : List (Nat × Blk)) : V → V
  | .osl id n => match lk S id with
    | some (.arr _ _ g _) => .sl n g 1
    | _ => .undef
  | .oref id i off => match lk S id with
    | some (.arr _ _ g _) => .ptr (g i).cells off 1
    | _ => .undef
  | .sl n g _ => .sl n g 1
  | .ptr cs o _ => .ptr cs o 1
  | .agg _ => .undef
  | .tup _ => .undef
  | .fn _ _ => .undef
  | .cnd _ _ => .undef
  | v => v

def lendB (S : List (Nat × Blk)) : V → V
  | .oref id i off => match lk S id with
    | some (.arr _ _ g _) => .ptr (g i).cells off 1
    | some (.box cs) => match i with
      | 0 => .ptr (cs.map (lendA S)) off 1
      | _ => .undef
    | none => .undef
  | v => lendA S v

def lend (S : List (Nat × Blk)) : V → V
  | .agg cs => .agg (cs.map (lendB S))
  | .fn f cs => .fn f (cs.map (lendB S))
  | v => lendB S v

/-- The ids that 'lend' looks up. -/
def lendIds (S : List (Nat × Blk)) (vs : List V) : List Nat :=
  V.idsL vs ++ (V.idsL vs).flatMap fun id => match lk S id with
    | some b => b.ids
    | none => []

/-- One cell frozen for good (its block is given up by the caller of this). -/
def frzA (S : List (Nat × Blk)) (t : Nat) : V → V
  | .osl id n => match lk S id, Nat.ble 64 id with
    | some (.arr _ m g te), true => match Nat.beq te t || Nat.beq te 100 || Nat.beq t 0 || (Nat.ble 2 te && Nat.ble 2 t && !(Nat.beq t 100)), Nat.beq n m with
      | true, true => .sl n g t
      | _, _ => .undef
    | _, _ => .undef
  | .oref _ _ _ => .undef
  | .agg _ => .undef
  | .tup _ => .undef
  | .fn _ _ => .undef
  | .cnd _ _ => .undef
  | v => v

def frz (S : List (Nat × Blk)) (t : Nat) : V → V
  | .agg cs => .agg (cs.map (frzA S t))
  | v => frzA S t v

/-- The tag that covers a frozen value (for the elements of a row). -/
def tagOfA : V → Option Nat
  | .sl _ _ t => some t
  | .ptr _ _ t => some t
  | _ => none

/-- One cell that can be stored. -/
def solidA : V → Bool
  | .agg _ => false
  | .tup _ => false
  | .cnd _ _ => false
  | .undef => false
  | _ => true

def solid : V → Bool
  | .agg cs => cs.all solidA
  | v => solidA v

/-- A cell that is a number, a bool, a text: it reaches nothing. -/
def flatA : V → Bool
  | .int _ _ => true
  | .bool _ => true
  | .str _ => true
  | _ => false

def flatV (v : V) : Bool := v.cells.all flatA

/-- The tag of what reaches nothing at all. -/
def tagS : Nat := 100

/-- May a value stand in a row whose elements reach te? -/
def fits (te : Nat) (v : V) : Bool := solid v && v.cells.all fun c => match tagOfA c with
  | some t => (Nat.beq t te && !(Nat.beq t tagS)) || Nat.beq te 0 || (Nat.ble 2 te && Nat.ble 2 t && !(Nat.beq te tagS))
  | none => match c with
    | .fn _ _ => false
    | .osl _ _ => false
    | .oref _ _ _ => false
    | _ => true

def strip : V → V
  | .cnd _ v => v
  | v => v

def aval (s : AS) : Operand → V
  | .tmp t => match lk s.T t with
    | some v => v
    | none => .undef
  | .const v => ofConst v
  | .global _ => .undef
  | .func f => .fn f []

/-- The number of a kind is in its bounds. -/
def inK (k : IntKind) (n : Int) : Prop := k.wrap n = n

def isAggD : TypeDesc → Bool
  | .struct _ => true
  | .array _ _ => true
  | _ => false

def applyUpd (S : List (Nat × Blk)) : List (Nat × Option Blk) → List (Nat × Blk)
  | [] => S
  | (id, some b) :: r => applyUpd (put S id b) r
  | (id, none) :: r => applyUpd (del S id) r

/-- n cells from off on, as a value of a type. -/
def readV (ti : TI) (cs : List V) (off : Nat) : Option V :=
  match Nat.ble (off + ti.size) cs.length with
  | true => match isAggD ti.desc with
    | true => some (.agg ((cs.drop off).take ti.size))
    | false => match ti.size with
      | 1 => cs[off]?
      | _ => none
  | false => none

def setAt : List V → Nat → List V → List V
  | [], _, _ => []
  | c :: cs, 0, [] => c :: cs
  | _ :: cs, 0, x :: xs => x :: setAt cs 0 xs
  | c :: cs, off + 1, xs => c :: setAt cs off xs

/-- cells written into cells. -/
def writeV (cs : List V) (off : Nat) (xs : List V) : Option (List V) :=
  match Nat.ble (off + xs.length) cs.length with
  | true => some (setAt cs off xs)
  | false => none

def isAggV : V → Bool
  | .agg _ => true
  | _ => false

/-- The cells as one element of a row. -/
def elemV (agg : Bool) (cs : List V) : V :=
  match agg with
  | true => .agg cs
  | false => cs.headD .undef

def appg (n : Nat) (g h : Nat → V) : Nat → V := fun i => if i < n then g i else h (i - n)
def setg (g : Nat → V) (i : Nat) (v : V) : Nat → V := fun j => if j = i then v else g j
def listg (l : List V) : Nat → V := fun i => l.getD i .undef
def dropg (g : Nat → V) (l : Nat) : Nat → V := fun i => g (l + i)

def byteAt (s : ByteArray) (i : Int) : Int := (s.data.getD i.toNat 0).toNat

def elemTI (tt : TT) (t : Nat) : Option TI :=
  match lk tt t with
  | some ⟨.slice e, _, _, _, _, _⟩ => lk tt e
  | _ => none

end Go.Av
