/- The abstract effects of operations and the abstract weakest condition: definitions alone. -/
import Derived.Calls
import Derived.Test.YtnfelcpanphhlaaA1
namespace Go.Av

/-- A callee as the caller knows it: what it asks, what it tells, what becomes of the blocks that it may write. -/
abbrev FSpec := List V → List Blk → Option (Prop × V × List Blk)

/-- One loop's head: the slots that are kept (some sz: a slice of one's own), and the boxes, each with its cells that hold slices of one's own. -/
structure LK where
  ts : List (Nat × Option Nat)
  bs : List (Nat × List (Nat × Nat))

/-- What is told of a loop: the states at its head, which of them fit, what falls at each round. -/
structure LoopInv where
  α : Type
  st : α → AS
  I : α → Prop
  μ : α → Nat

structure Cx where
  tt : TT
  D : Nat → Option (Bool × FSpec)
  nt : Nat
  keep : List Nat
  lks : List (Nat × LK)
  cuts : List Nat
  invs : Nat → Option LoopInv

/-- The effect of an operation as it is reckoned: the value, the blocks, the ids that were read, what is owed. -/
structure Ef where
  v : V
  upd : List (Nat × Option Blk)
  rd : List Nat
  ob : List Prop

def ok (v : V) : Option Ef := some ⟨v, [], [], []⟩
def okO (v : V) (ob : List Prop) : Option Ef := some ⟨v, [], [], ob⟩

def obs : List Prop → Prop → Prop
  | [], K => K
  | p :: r, K => p ∧ obs r K

def AS.app (s : AS) (dst : Option Tmp) (e : Ef) : AS :=
  { T := match dst with
      | some d => put s.T d e.v
      | none => s.T
    S := applyUpd s.S e.upd }

def stripO (g : Bool) : V → List Prop
  | .cnd c _ => [g = true → c = true]
  | _ => []

def opndsO : Option Operand → List Operand
  | some x => [x]
  | none => []

def calleeO : Callee → List Operand
  | .value f => [f]
  | .invoke r _ => [r]
  | .builtin _ => []

def opnds : Op → List Operand
  | .move x | .assign x | .box _ x | .load _ x | .nilCheck x | .unOp _ _ x | .convert _ _ x | .fieldAddr _ x _ | .field _ x _ | .extract x _ => [x]
  | .build _ ps | .buildSlice _ _ ps => ps.toList.map (·.2)
  | .store _ a v | .binOp _ _ a v _ | .makeSlice _ a v | .indexAddr _ a v | .index _ a v => [a, v]
  | .makeFunc _ first captured => first.toList ++ captured.toList
  | .slice _ x l h m => x :: (opndsO l ++ opndsO h ++ opndsO m)
  | .call c => calleeO c.callee ++ c.args.toList
  | _ => []

/-! ### Whole numbers, bools, strings -/
def binInt (op : BinOp) (k : IntKind) (a b : Int) : Option Ef :=
  match op with
  | .add => okO (.int k (a + b)) [inK k (a + b)]
  | .sub => okO (.int k (a - b)) [inK k (a - b)]
  | .mul => okO (.int k (a * b)) [inK k (a * b)]
  | .quo => okO (.int k (a.tdiv b)) [b ≠ 0, inK k (a.tdiv b)]
  | .rem => okO (.int k (a.tmod b)) [b ≠ 0]
  | .eql => ok (.bool (a == b))
  | .neq => ok (.bool (a != b))
  | .lss => ok (.bool (decide (a < b)))
  | .leq => ok (.bool (decide (a ≤ b)))
  | .gtr => ok (.bool (decide (a > b)))
  | .geq => ok (.bool (decide (a ≥ b)))
  | _ => none

def strEq (a b : ByteArray) : Bool := a.toList == b.toList
def strLt (a b : ByteArray) : Bool := Op.bytesLess a.toList b.toList

def binStr (op : BinOp) (a b : ByteArray) : Option Ef :=
  match op with
  | .add => okO (.str (a ++ b)) [a.size + b.size ≤ 2 ^ 62]
  | .eql => ok (.bool (strEq a b))
  | .neq => ok (.bool (!strEq a b))
  | .lss => ok (.bool (strLt a b))
  | .leq => ok (.bool (strLt a b || strEq a b))
  | .gtr => ok (.bool (!(strLt a b || strEq a b)))
  | .geq => ok (.bool (!strLt a b))
  | _ => none

def kindB : IntKind → IntKind → Bool
  | .i8, .i8 | .i16, .i16 | .i32, .i32 | .i64, .i64 | .u8, .u8 | .u16, .u16 | .u32, .u32 | .u64, .u64 => true
  | _, _ => false

/-- Equality of the fields of two structs, in order. -/
def eqFs (tt : TT) (E : Nat → V → V → Option Bool) (as bs : List V) : List Field → Option Bool
  | [] => some true
  | f :: fs => match lk tt f.type with
    | some ti => match readV ti as f.offset, readV ti bs f.offset with
      | some x, some y => match E f.type x y with
        | some p => match fs with
          | [] => some p
          | _ :: _ => match eqFs tt E as bs fs with
            | some q => some (p && q)
            | none => none
        | none => none
      | _, _ => none
    | none => none

/-- Equality of two values of a type, down to a depth. -/
def eqT (tt : TT) : Nat → Nat → V → V → Option Bool
  | 0, _, _, _ => none
  | d + 1, t, x, y => match lk tt t, x, y with
    | some ⟨.int _, _, _, _, _, _⟩, .int k a, .int k' b => match kindB k k' with
      | true => some (a == b)
      | false => none
    | some ⟨.bool, _, _, _, _, _⟩, .bool a, .bool b => some (a == b)
    | some ⟨.string, _, _, _, _, _⟩, .str a, .str b => some (strEq a b)
    | some ⟨.struct fs, _, _, _, _, true⟩, .agg as, .agg bs => eqFs tt (eqT tt d) as bs fs.toList
    | _, _, _ => none

def binV (tt : TT) (op : BinOp) (t : Nat) (x y : V) : Option Ef :=
  match x, y with
  | .int k a, .int k' b => match kindB k k' with
    | true => binInt op k a b
    | false => none
  | .str a, .str b => binStr op a b
  | .bool _, .bool _ => match op, eqT tt 5 t x y with
    | .eql, some p => ok (.bool p)
    | .neq, some p => ok (.bool (!p))
    | _, _ => none
  | .agg _, .agg _ => match op, eqT tt 5 t x y with
    | .eql, some p => ok (.bool p)
    | .neq, some p => ok (.bool (!p))
    | _, _ => none
  | _, _ => none

/-! ### Memory -/
def box1 (site : Nat) (cs : List V) : Option Ef := some ⟨.oref site 0 0, [(site, some (.box cs))], [], []⟩

def loadV (S : List (Nat × Blk)) (ti : TI) (a : V) : Option Ef :=
  match a with
  | .ptr cs off _ => match readV ti cs off with
    | some v => match a with
      | .ptr _ _ t => ok (v.tag fun _ => t)
      | _ => none
    | none => none
  | .oref id i off => match lk S id with
    | some (.box cs) => match i, readV ti cs off with
      | 0, some v => some ⟨v, [], [id], []⟩
      | _, _ => none
    | some (.arr _ n g te) => match readV ti (g i).cells off with
      | some v => some ⟨v.tag fun _ => te, [], [id], [i < n]⟩
      | none => none
    | none => none
  | _ => none

def kills (v : V) : List (Nat × Option Blk) := v.ids.map fun id => (id, none)

def allGe : List Nat → Bool
  | [] => true
  | id :: r => Nat.ble 64 id && allGe r

def storeV (S : List (Nat × Blk)) (ti : TI) (a x : V) : Option Ef :=
  match a, Nat.beq x.cells.length ti.size && solid x with
  | .oref id i off, true => match lk S id with
    | some (.box cs) => match i, writeV cs off x.cells with
      | 0, some cs' => some ⟨.undef, [(id, some (.box cs'))], [id], []⟩
      | _, _ => none
    | some (.arr sz n g te) =>
      let y := frz S te x
      match writeV (g i).cells off y.cells, fits te y && !(mem id x.ids) && allGe x.ids with
      | some cs', true => some ⟨.undef, (id, some (.arr sz n (setg g i (elemV (isAggV (g i)) cs')) te)) :: kills x, id :: x.ids, [i < n]⟩
      | _, _ => none
    | none => none
  | _, _ => none

def fieldOff (tt : TT) (s f : Nat) : Option (Nat × TI) :=
  match lk tt s with
  | some ⟨.struct fs, _, _, _, _, _⟩ => match fs.toList[f]? with
    | some fd => match lk tt fd.type with
      | some ti => some (fd.offset, ti)
      | none => none
    | none => none
  | _ => none

def fieldAddrV (tt : TT) (s f : Nat) (a : V) : Option Ef :=
  match fieldOff tt s f with
  | some (off', ti) => match ti.size with
    | 0 => none
    | _ + 1 => match a with
      | .ptr cs off t => ok (.ptr cs (off + off') t)
      | .oref id i off => ok (.oref id i (off + off'))
      | _ => none
  | none => none

def fieldV (tt : TT) (s f : Nat) (x : V) : Option Ef :=
  match fieldOff tt s f, x with
  | some (off', ti), .agg cs => match readV ti cs off' with
    | some v => ok v
    | none => none
  | _, _ => none

def indexAddrV (tt : TT) (S : List (Nat × Blk)) (t : Nat) (x ix : V) : Option Ef :=
  match elemTI tt t, x, ix with
  | some ti, .sl n g tg, .int _ i => match Nat.beq (g i.toNat).cells.length ti.size with
    | true => okO (.ptr (g i.toNat).cells 0 tg) [0 ≤ i ∧ i < (n : Int)]
    | false => none
  | some ti, .osl id n, .int _ i => match lk S id with
    | some (.arr sz _ _ _) => match Nat.beq sz ti.size with
      | true => some ⟨.oref id i.toNat 0, [], [id], [0 ≤ i ∧ i < (n : Int)]⟩
      | false => none
    | _ => none
  | _, _, _ => none

def natOf : V → Option Int
  | .int _ i => some i
  | _ => none

/-- A bound of a slice expression: absent, or a whole number. -/
def boundV : Option V → Option (Option Int)
  | none => some none
  | some (.int _ i) => some (some i)
  | _ => none

def sizedL (size m : Nat) (h : Nat → V) : Prop := ∀ i, i < m → (h i).cells.length = size ∧ solid (h i) = true

def isStrT (tt : TT) (t : Nat) : Bool := match lk tt t with
  | some ⟨.string, _, _, _, _, _⟩ => true
  | _ => false

def isSlT (tt : TT) (t : Nat) : Bool := match elemTI tt t with
  | some _ => true
  | none => false

def sliceV (tt : TT) (t : Nat) (x : V) (lo hi mx : Option V) : Option Ef :=
  match x, boundV lo, boundV hi, mx with
  | .str s, some lo, some hi, none => match isStrT tt t with
    | true =>
      let l := lo.getD 0
      let h := hi.getD s.size
      okO (.str (s.extract l.toNat h.toNat)) [0 ≤ l ∧ l ≤ h ∧ h ≤ (s.size : Int)]
    | false => none
  | .sl n g tg, some lo, some hi, none => match isSlT tt t, elemTI tt t with
    | true, some ti =>
      let l := lo.getD 0
      let h := hi.getD n
      okO (.sl (h.toNat - l.toNat) (match lo with | none => g | some _ => dropg g l.toNat) tg) [0 ≤ l ∧ l ≤ h ∧ h ≤ (n : Int), sizedL ti.size n g]
    | _, _ => none
  | .osl id n, some none, some (some h), none => match isSlT tt t with
    | true => okO (.osl id h.toNat) [0 ≤ h ∧ h ≤ (n : Int)]
    | false => none
  | .nil, some none, some (some h), none => match isSlT tt t with
    | true => okO .nil [h = 0]
    | false => none
  | x, some lo, some (some 0), some (.int _ 0) => match x, lo, isSlT tt t with
    | .sl _ _ _, none, true => ok .nil
    | .osl _ _, none, true => ok .nil
    | .nil, none, true => ok .nil
    | .sl _ _ _, some 0, true => ok .nil
    | .osl _ _, some 0, true => ok .nil
    | .nil, some 0, true => ok .nil
    | _, _, _ => none
  | _, _, _, _ => none

def allStr : List V → Option (List ByteArray)
  | [] => some []
  | .str s :: r => match allStr r with
    | some l => some (s :: l)
    | none => none
  | _ => none
def allInt (k : IntKind) : List V → Option (List Int)
  | [] => some []
  | .int k' n :: r => match kindB k k', allInt k r with
    | true, some l => some (n :: l)
    | _, _ => none
  | _ => none
/-- A written-out row as a function of the place. -/
def rowg : List V → (Nat → V)
  | .str s :: r => match allStr r with
    | some l => fun i => .str ((s :: l).getD i default)
    | none => listg (.str s :: r)
  | .int k n :: r => match allInt k r with
    | some l => fun i => .int k ((n :: l).getD i 0)
    | none => listg (.int k n :: r)
  | l => listg l

def lenV (tt : TT) (t : Nat) (x : V) : Option Ef :=
  match x, isStrT tt t, isSlT tt t with
  | .str s, true, _ => ok (.int .i64 s.size)
  | .nil, _, true => ok (.int .i64 0)
  | .sl n _ _, _, true => ok (.int .i64 n)
  | .osl _ n, _, true => ok (.int .i64 n)
  | _, _, _ => none

/-- What is appended: how many, which, and what their elements reach. -/
def srcV (S : List (Nat × Blk)) : V → Option (Nat × (Nat → V) × Nat × List Nat)
  | .nil => some (0, fun _ => .undef, tagS, [])
  | .sl n g t => some (n, g, t, [])
  | .osl id n => match lk S id with
    | some (.arr _ _ g te) => some (n, g, te, [id])
    | _ => none
  | _ => none

/-- The tag behind an append, and what is owed for it. -/
def joinTag (flat : Bool) (a b m : Nat) (h : Nat → V) : Nat × List Prop :=
  match flat with
  | true => match Nat.beq a tagS, Nat.beq b tagS with
    | true, true => (tagS, [])
    | true, false => (tagS, [∀ i, i < m → flatV (h i) = true])
    | _, _ => (0, [])
  | false => match Nat.beq a b with
    | true => (a, [])
    | false => (0, [])

/-- No list of a program grows past this, or the walk owes it. -/
def most : Nat := 2 ^ 30

/-- What makes a row of elements of a type. -/
def newTag (ti : TI) : Nat := match ti.flat with
  | true => tagS
  | false => 2

def appendV (tt : TT) (S : List (Nat × Blk)) (site t : Nat) (s x : V) : Option Ef :=
  match elemTI tt t, srcV S x with
  | some ti, some (m, h, th, rd) => match Nat.ble ti.bytes 1024 && Nat.ble 1 ti.bytes with
    | true => match s with
      | .nil => match joinTag ti.flat tagS th m h with
        | (_, jo) => some ⟨.osl site m, [(site, some (.arr ti.size m h (match ti.flat with | true => tagS | false => th)))], rd, (m ≤ most) :: sizedL ti.size m h :: jo⟩
      | .osl id n => match lk S id with
        | some (.arr sz n' g te) => match Nat.beq sz ti.size, joinTag ti.flat te th m h with
          | true, (tj, jo) => match Nat.ble 64 id with
           | true => some ⟨.osl site (n + m), [(id, none), (site, some (.arr ti.size (n + m) (appg n g h) tj))], id :: rd, (n = n') :: (n + m ≤ most) :: sizedL ti.size m h :: jo⟩
           | false => none
          | false, _ => none
        | _ => none
      | _ => none
    | false => none
  | _, _ => none

/-! ### Calls -/
def site0 (d : Nat) : Nat := 64 * (d + 1)

/-- The place of an id in a list. -/
def idxOf (id : Nat) : List Nat → Nat
  | [] => 0
  | k :: r => match Nat.beq k id with
    | true => 0
    | false => idxOf id r + 1

def nodupB : List Nat → Bool
  | [] => true
  | k :: r => !mem k r && nodupB r

def undup : List Nat → List Nat
  | [] => []
  | k :: r => match mem k r with
    | true => undup r
    | false => k :: undup r

def blks (S : List (Nat × Blk)) : List Nat → Option (List Blk)
  | [] => some []
  | id :: r => match lk S id, blks S r with
    | some b, some l => some (b :: l)
    | _, _ => none

/-- New blocks behind a call, with the caller's own names. -/
def newUpd (d m : Nat) : List Blk → List (Nat × Option Blk)
  | [] => []
  | b :: r => (site0 d + m, some b) :: newUpd d (m + 1) r

def retag (d : Nat) (t : Nat) : Nat := match t with
  | 0 => 0
  | 1 => 0
  | _ => match Nat.beq t tagS with
    | true => tagS
    | false => d + 200

/-- Tags as a callee sees them. -/
def downtag (t : Nat) : Nat := match Nat.beq t tagS with
  | true => tagS
  | false => 1

def Blk.down : Blk → Blk
  | .arr sz n g te => .arr sz n g (downtag te)
  | .box cs => .box (V.tagL (fun _ => 1) cs)

def sameLen : List Blk → List Blk → List Prop
  | .arr _ n _ _ :: r, .arr _ m _ _ :: q => (n = m) :: sameLen r q
  | .box _ :: r, .box _ :: q => sameLen r q
  | _, _ => []

def Blk.retag (d : Nat) : Blk → Blk
  | .arr sz n g te => .arr sz n g (Go.Av.retag d te)
  | .box cs => .box (V.tagL (Go.Av.retag d) cs)

def Blk.ren (f : Nat → Nat) : Blk → Blk
  | .arr sz n g te => .arr sz n g te
  | .box cs => .box (V.renL f cs)

/-- Blocks that come back are of the kinds in which they went. -/
def shapesB : List Blk → List Blk → Bool
  | [], [] => true
  | .arr sz _ _ _ :: r, .arr sz' _ _ _ :: q => Nat.beq sz sz' && shapesB r q
  | .box cs :: r, .box ds :: q => Nat.beq cs.length ds.length && shapesB r q
  | _, _ => false

def allLt (m : Nat) : List Nat → Bool
  | [] => true
  | k :: r => Nat.blt k m && allLt m r

/-- The names that new blocks get. -/
def nmN (d : Nat) (j : Nat) : Nat := site0 d + j

/-- The same, where the first ones are the caller's own. -/
def nmI (d : Nat) (ids : List Nat) (j : Nat) : Nat := match Nat.blt j ids.length with
  | true => ids.getD j 0
  | false => site0 d + (j - ids.length)

def backUpd (f : Nat → Nat) (d : Nat) : List Nat → List Blk → List (Nat × Option Blk)
  | id :: r, b :: q => (id, some ((b.ren f).retag d)) :: backUpd f d r q
  | _, _ => []

def callV (cx : Cx) (S : List (Nat × Blk)) (d f : Nat) (args : List V) : Option Ef :=
  match cx.D f with
  | some (false, D) =>
    match D (args.map (lend S)) [] with
    | some (ob, r, bs) =>
      match (V.idsL args).isEmpty || (V.closed r && bs.all Blk.closed), allLt bs.length r.ids && bs.all (fun b => allLt bs.length b.ids), Nat.blt bs.length 63 with
      | true, true, true => some ⟨(r.ren (nmN d)).tag (retag d), newUpd d 0 (bs.map fun b => (b.ren (nmN d)).retag d), lendIds S args, [ob]⟩
      | _, _, _ => none
    | none => none
  | some (true, D) =>
    let ids := undup (V.idsL args)
    match blks S ids with
    | some bin =>
      let inn := fun id => idxOf id ids
      match D ((args.map (V.ren inn)).map (V.tag fun _ => 1)) (bin.map fun b => (b.ren inn).down) with
      | some (ob, r, bs) =>
        match shapesB bin (bs.take ids.length) && Nat.blt bs.length 63, allLt bs.length r.ids && bs.all (fun b => allLt bs.length b.ids), bin.all (fun b => b.ids.all fun k => mem k ids) with
        | true, true, true => some ⟨(r.ren (nmI d ids)).tag (retag d), backUpd (nmI d ids) d ids bs ++ newUpd d 0 ((bs.drop ids.length).map fun b => (b.ren (nmI d ids)).retag d), ids, ob :: sameLen bin bs⟩
        | _, _, _ => none
      | none => none
    | none => none
  | none => none

/-! ### One operation -/
def buildParts (fs : List (Nat × TI)) : List V → List (Nat × V) → Option (List V)
  | cs, [] => some cs
  | cs, (i, x) :: r => match fs[i]? with
    | some (off, ti) => match Nat.beq x.cells.length ti.size && solid x, writeV cs off x.cells with
      | true, some cs' => buildParts fs cs' r
      | _, _ => none
    | none => none

def fieldTIs (tt : TT) : List Field → Option (List (Nat × TI))
  | [] => some []
  | f :: r => match lk tt f.type, fieldTIs tt r with
    | some ti, some l => some ((f.offset, ti) :: l)
    | _, _ => none

def buildV (tt : TT) (t : Nat) (parts : List (Nat × V)) : Option Ef :=
  match lk tt t with
  | some ⟨.struct fs, _, _, z, _, _⟩ => match fieldTIs tt fs.toList with
    | some l => match buildParts l z.cells parts with
      | some cs => ok (.agg cs)
      | none => none
    | none => none
  | _ => none

def setParts (size te : Nat) (S : List (Nat × Blk)) : List V → List (Nat × V) → Option (List V)
  | es, [] => some es
  | es, (i, x) :: r => match Nat.blt i es.length, Nat.beq x.cells.length size, fits te (frz S te x) with
    | true, true, true => setParts size te S (es.set i (frz S te x)) r
    | _, _, _ => none

def tagOfL : List V → Nat
  | [] => 2
  | c :: r => match tagOfA c with
    | some t => t
    | none => tagOfL r

/-- The tag for the elements of a row that is written out: that of the first part that has one. -/
def partsTag : List (Nat × V) → Nat
  | [] => 2
  | (_, x) :: r => match x.cells.all fun c => (tagOfA c).isNone with
    | true => partsTag r
    | false => tagOfL x.cells

def rowTag (ti : TI) (parts : List (Nat × V)) : Nat := match ti.flat with
  | true => tagS
  | false => partsTag parts

def buildSliceV (tt : TT) (S : List (Nat × Blk)) (site t len : Nat) (parts : List (Nat × V)) : Option Ef :=
  match elemTI tt t with
  | some ti => match Nat.ble (len * ti.size) 16777216 with
    | true =>
     match setParts ti.size (rowTag ti parts) S (List.replicate len ti.zero) parts, allGe (parts.flatMap fun p => p.2.ids) && ((parts.flatMap fun p => p.2.ids).isEmpty || !(Nat.beq (rowTag ti parts) tagS)) with
     | some es, true => some ⟨.osl site len, (site, some (.arr ti.size len (rowg es) (rowTag ti parts))) :: (parts.flatMap fun p => p.2.ids).map (fun id => (id, none)), parts.flatMap (fun p => p.2.ids), []⟩
     | _, _ => none
    | false => none
  | none => none

def makeV (tt : TT) (site t : Nat) (l c : V) : Option Ef :=
  match elemTI tt t, l, c with
  | some ti, .int _ n, .int _ m => match Nat.ble ti.bytes 1024 with
    | true => some ⟨.osl site n.toNat, [(site, some (.arr ti.size n.toNat (fun _ => ti.zero) (newTag ti)))], [], [0 ≤ n ∧ n ≤ m ∧ m ≤ (most : Int)]⟩
    | false => none
  | _, _, _ => none

def convV (tt : TT) (src dst : Nat) (x : V) : Option Ef :=
  match lk tt src, lk tt dst, x with
  | some ⟨.int _, _, _, _, _, _⟩, some ⟨.int k, _, _, _, _, _⟩, .int _ n => okO (.int k n) [inK k n]
  | some ⟨.string, _, _, _, _, _⟩, some ⟨.string, _, _, _, _, _⟩, .str s => ok (.str s)
  | _, _, _ => none

def maxV (x y : V) : Option V :=
  match x, y with
  | .int k a, .int k' b => match kindB k k' with
    | true => some (.int k (if b > a then b else a))
    | false => none
  | _, _ => none
def minV (x y : V) : Option V :=
  match x, y with
  | .int k a, .int k' b => match kindB k k' with
    | true => some (.int k (if b < a then b else a))
    | false => none
  | _, _ => none
def foldV (f : V → V → Option V) : V → List V → Option V
  | x, [] => some x
  | x, y :: r => match f x y with
    | some z => foldV f z r
    | none => none

def okV : Option V → Option Ef
  | some v => ok v
  | none => none

def coreOp (cx : Cx) (S : List (Nat × Blk)) (d : Nat) (ρ : Operand → V) : Op → Option Ef
  | .move x | .assign x => ok (ρ x)
  | .alloc e => match lk cx.tt e with
    | some ti => box1 (site0 d) ti.zero.cells
    | none => none
  | .box _ x => match solid (ρ x) with
    | true => box1 (site0 d) (ρ x).cells
    | false => none
  | .build t ps => buildV cx.tt t (ps.toList.map fun p => (p.1, ρ p.2))
  | .buildSlice t len ps => buildSliceV cx.tt S (site0 d) t len (ps.toList.map fun p => (p.1, ρ p.2))
  | .load t a => match lk cx.tt t with
    | some ti => loadV S ti (ρ a)
    | none => none
  | .store t a x => match lk cx.tt t with
    | some ti => storeV S ti (ρ a) (ρ x)
    | none => none
  | .nilCheck x => match ρ x with
    | .ptr cs o t => ok (.ptr cs o t)
    | .oref id i o => ok (.oref id i o)
    | _ => none
  | .binOp op t x y _ => binV cx.tt op t (ρ x) (ρ y)
  | .unOp op _ x => match op, ρ x with
    | .not, .bool b => ok (.bool (!b))
    | .neg, .int k n => okO (.int k (0 - n)) [inK k (0 - n)]
    | _, _ => none
  | .convert s t x => convV cx.tt s t (ρ x)
  | .makeFunc (.func f) first caps => match first.toList with
    | [] => ok (.fn f (caps.toList.map ρ))
    | _ => none
  | .makeSlice t l c => makeV cx.tt (site0 d) t (ρ l) (ρ c)
  | .slice t x lo hi mx => sliceV cx.tt t (ρ x) (lo.map ρ) (hi.map ρ) (mx.map ρ)
  | .fieldAddr s x f => fieldAddrV cx.tt s f (ρ x)
  | .field s x f => fieldV cx.tt s f (ρ x)
  | .indexAddr t x i => indexAddrV cx.tt S t (ρ x) (ρ i)
  | .index t x i => match ρ x, ρ i, isStrT cx.tt t with
    | .str s, .int _ n, true => okO (.int .u8 (byteAt s n)) [0 ≤ n ∧ n < (s.size : Int)]
    | _, _, _ => none
  | .extract x i => match ρ x with
    | .tup vs => match vs[i]? with
      | some v => ok v
      | none => none
    | _ => none
  | .call c => match c.callee with
    | .builtin .len => match c.args.toList, c.argTypes.toList with
      | [x], t :: _ => lenV cx.tt t (ρ x)
      | _, _ => none
    | .builtin .append => match c.args.toList, c.argTypes.toList with
      | [s, x], t :: u :: _ => match elemTI cx.tt u with
        | some _ => appendV cx.tt S (site0 d) t (ρ s) (ρ x)
        | none => none
      | _, _ => none
    | .builtin .max => match c.args.toList with
      | x :: r => okV (foldV maxV (ρ x) (r.map ρ))
      | [] => none
    | .builtin .min => match c.args.toList with
      | x :: r => okV (foldV minV (ρ x) (r.map ρ))
      | [] => none
    | .value f => match ρ f with
      | .fn n caps => callV cx S d n (c.args.toList.map ρ ++ caps)
      | _ => none
    | _ => none
  | _ => none

def raw (s : AS) (x : Operand) : V := aval s x

/-- 'a && b', 'a || b' at their end: one of two bools. -/
def pickV (g cb : Bool) (a b : V) : Option Ef :=
  match a, b with
  | .bool p, .bool q => ok (.bool (cond cb p q))
  | .cnd c (.bool p), .bool q => okO (.bool (cond cb p q)) [g = true → cb = true → c = true]
  | .bool p, .cnd c (.bool q) => okO (.bool (cond cb p q)) [g = true → cb = false → c = true]
  | _, _ => none

def withO (l : List Prop) : Option Ef → Option Ef
  | some e => some { e with ob := l ++ e.ob }
  | none => none

def opE (cx : Cx) (s : AS) (g : Bool) (d : Nat) : Op → Option Ef
  | .pick c a b => match strip (aval s c) with
    | .bool cb => withO (stripO g (aval s c)) (pickV g cb (aval s a) (aval s b))
    | _ => none
  | op => withO ((opnds op).flatMap fun x => stripO g (aval s x)) (coreOp cx s.S d (fun x => strip (aval s x)) op)

/-- Is the operation carried out? 'some none': always. -/
def guardOf (ops : List Oper) (s : AS) (o : Oper) : Option (Option Bool) :=
  match o.guard with
  | none => some none
  | some (j, want) => match ops[j]? with
    | some oj => match oj.dst with
      | some t => match lk s.T t with
        | some (.bool b) => match want with
          | true => some (some b)
          | false => some (some (!b))
        | some (.cnd c (.bool b)) => match want with
          | true => some (some (c && b))
          | false => some (some (c && !b))
        | _ => none
      | none => none
    | none => none

def dstN (nt : Nat) (o : Oper) : Nat := match o.dst with
  | some d => d
  | none => nt

def dstOk (nt : Nat) (o : Oper) : Bool := match o.dst with
  | some d => Nat.blt d nt
  | none => true

def operE (cx : Cx) (ops : List Oper) (s : AS) (o : Oper) : Option Ef :=
  match guardOf ops s o, dstOk cx.nt o with
  | some none, true => opE cx s true (dstN cx.nt o) o.op
  | some (some g), true => match opE cx s g (dstN cx.nt o) o.op with
    | some ⟨v, [], rd, ob⟩ => some ⟨.cnd g v, [], rd, ob.map fun p => g = true → p⟩
    | _ => none
  | _, _ => none

/-! ### Regions -/
def dstsOf (nt : Nat) : List Oper → List Nat
  | [] => []
  | o :: r => (dstN nt o + 1) :: dstsOf nt r

def offIf (p : Nat → Bool) (v : V) : V := match V.ment p v with
  | true => .undef
  | false => v

def clearBlk (p : Nat → Bool) : Blk → Blk
  | .arr sz n g te => .arr sz n g te
  | .box cs => .box (cs.map (offIf p))

/-- All that names one of these ids is forgotten. -/
def purge (p : Nat → Bool) (s : AS) : AS :=
  { T := s.T.map fun e => (e.1, offIf p e.2)
    S := (s.S.filter fun e => !(p e.1)).map fun e => (e.1, clearBlk p e.2) }

def atSites (ds : List Nat) (id : Nat) : Bool := mem (id / 64) ds

def AS.only (s : AS) (keep : List Nat) : AS := { s with T := s.T.filter fun e => mem e.1 keep }

/-- The ids that an effect names. -/
def Ef.names (e : Ef) : List Nat :=
  e.v.ids ++ e.rd ++ e.upd.flatMap fun p => p.1 :: (match p.2 with
    | some b => b.ids
    | none => [])

def offSites (nt : Nat) (r : List Oper) (e : Ef) : Bool := e.names.all fun id => !(atSites (dstsOf nt r) id)

/-- What '&&', '||' give is called by a name from there on. -/
def nameB (o : Oper) (e : Ef) (K : Ef → Prop) : Prop := match o.op, e with
  | .pick _ _ _, ⟨.bool x, upd, rd, ob⟩ => ∀ b : Bool, b = x → K ⟨.bool b, upd, rd, ob⟩
  | .pick _ _ _, ⟨.cnd g (.bool x), upd, rd, ob⟩ => ∀ b : Bool, b = x → K ⟨.cnd g (.bool b), upd, rd, ob⟩
  | _, e => K e

theorem nameB_at {o : Oper} {e : Ef} {K : Ef → Prop} (h : nameB o e K) : K e := by
  unfold nameB at h
  split at h
  · exact h _ rfl
  · exact h _ rfl
  · exact h

def runOps (cx : Cx) (ops : List Oper) : List Oper → AS → List Ef → (AS → List Ef → Prop) → Prop
  | [], s, es, K => K s es
  | o :: r, s, es, K => match operE cx ops s o with
    | some e => match offSites cx.nt r e with
      | true => obs e.ob (nameB o e fun e => runOps cx ops r (s.app o.dst e) (e :: es) K)
      | false => False
    | none => False

/-! The orders of a region: which operations wait for which. -/
def edgesOf (o : Oper) : List Nat := o.after.toList.filterMap fun e => match Region.binds .any e with
  | true => some e.on
  | false => none

/-- For each operation all those that stand ahead of it in every order. -/
def closures : List Oper → List (List Nat) → List (List Nat)
  | [], acc => acc
  | o :: r, acc => closures r (acc ++ [undup ((edgesOf o) ++ (edgesOf o).flatMap fun i => acc.getD i [])])

def tmpsOf (l : List Operand) : List Nat := l.filterMap fun x => match x with
  | .tmp t => some t
  | _ => none

def lookO : Op → List Operand
  | .pick c a b => [c, a, b]
  | op => opnds op

def looksOf (ops : List Oper) (o : Oper) : List Nat :=
  tmpsOf (lookO o.op) ++
  (match o.guard with
    | some (j, _) => match (ops[j]?).bind (·.dst) with
      | some t => [t]
      | none => []
    | none => [])

def Blk.names : Blk → List Nat := Blk.ids

def apartL : List Nat → List Nat → Bool
  | [], _ => true
  | k :: r, l => !mem k l && apartL r l

def dstL (o : Oper) : List Nat := match o.dst with
  | some d => [d]
  | none => []

def offSite (nt : Nat) (o : Oper) (e : Ef) : Bool := e.names.all fun id => !(Nat.beq (id / 64) (dstN nt o + 1))

/-- Two operations that may stand in either order do not touch each other. -/
def indep2 (nt : Nat) (ops : List Oper) (a : Oper) (ea : Ef) (b : Oper) (eb : Ef) : Bool :=
  apartL (dstL a) (dstL b ++ looksOf ops b) && apartL (dstL b) (looksOf ops a) &&
  apartL (ea.upd.map (·.1)) eb.names && apartL (eb.upd.map (·.1)) ea.names && offSite nt a eb && offSite nt b ea

def indepRow (nt : Nat) (ops : List Oper) (o : Oper) (e : Ef) (cl : List Nat) : List (Oper × Ef) → Nat → Bool
  | [], _ => true
  | (o', e') :: r, j => (mem j cl || indep2 nt ops o e o' e') && indepRow nt ops o e cl r (j + 1)

/-- Every pair of operations of the region: ordered, or apart. -/
def indepAll (nt : Nat) (ops : List Oper) (cls : List (List Nat)) : List (Oper × Ef) → List (Oper × Ef) → Nat → Bool
  | _, [], _ => true
  | past, (o, e) :: r, i => indepRow nt ops o e (cls.getD i []) past 0 && indepAll nt ops cls (past ++ [(o, e)]) r (i + 1)

def backEdges : List Oper → Nat → Bool
  | [], _ => true
  | o :: r, i => (edgesOf o).all (fun j => Nat.blt j i) && backEdges r (i + 1)

def region (cx : Cx) (ops : List Oper) (draw : Bool) (s : AS) (K : AS → Prop) : Prop :=
  runOps cx ops ops (purge (atSites (dstsOf cx.nt ops)) s) [] fun s' es =>
    match draw with
    | false => K (s'.only cx.keep)
    | true => match backEdges ops 0 && indepAll cx.nt ops (closures ops []) [] (ops.zip es.reverse) 0 with
      | true => K (s'.only cx.keep)
      | false => False

/-! ### Loop heads -/
def renId (a b : Nat) (s : AS) : AS :=
  let f := fun x => match Nat.beq x a with
    | true => b
    | false => x
  { T := s.T.map fun e => (e.1, e.2.ren f)
    S := s.S.map fun e => (f e.1, e.2.ren f) }

/-- The id 'a' is called 'b' from here on. -/
def moveId (a b : Nat) (s : AS) : AS := match Nat.beq a b || Nat.blt a 64 with
  | true => s
  | false => renId a b (purge (fun x => Nat.beq x b) s)

def canonT (t : Nat) : Nat := 64 * (t + 500001)
def canonB (id i : Nat) : Nat := 64 * (1000000 + id * 64 + i)

def ownT (t sz : Nat) (s : AS) : AS :=
  match lk s.T t with
  | some (.osl id _) => moveId id (canonT t) s
  | some .nil =>
    let s := purge (fun x => Nat.beq x (canonT t)) s
    { T := put s.T t (.osl (canonT t) 0), S := put s.S (canonT t) (.arr sz 0 (fun _ => .undef) tagS) }
  | _ => s

def ownB (id i sz : Nat) (s : AS) : AS :=
  match lk s.S id with
  | some (.box cs) => match cs[i]? with
    | some (.osl x _) => moveId x (canonB id i) s
    | some .nil =>
      let s := purge (fun x => Nat.beq x (canonB id i)) s
      match lk s.S id with
      | some (.box cs) => { s with S := put (put s.S id (.box (cs.set i (.osl (canonB id i) 0)))) (canonB id i) (.arr sz 0 (fun _ => .undef) tagS) }
      | _ => s
    | _ => s
  | _ => s

def ownTs : List (Nat × Option Nat) → AS → AS
  | [], s => s
  | (t, some sz) :: r, s => ownTs r (ownT t sz s)
  | (_, none) :: r, s => ownTs r s

def ownBs1 (id : Nat) : List (Nat × Nat) → AS → AS
  | [], s => s
  | (i, sz) :: r, s => ownBs1 id r (ownB id i sz s)

def ownBs : List (Nat × List (Nat × Nat)) → AS → AS
  | [], s => s
  | (id, l) :: r, s => ownBs r (ownBs1 id l s)

def pickT (T : List (Nat × V)) : List (Nat × Option Nat) → List (Nat × V)
  | [] => []
  | (t, _) :: r => match lk T t with
    | some v => (t, v) :: pickT T r
    | none => pickT T r

def keepIds (l : LK) : List Nat :=
  (l.ts.filterMap fun p => match p.2 with
    | some _ => some (canonT p.1)
    | none => none) ++ l.bs.flatMap fun p => p.1 :: p.2.map fun q => canonB p.1 q.1

def pickS (S : List (Nat × Blk)) : List Nat → List (Nat × Blk)
  | [] => []
  | id :: r => match lk S id with
    | some b => (id, b) :: pickS S r
    | none => pickS S r

def maskTo (l : LK) (s : AS) : AS :=
  let s := ownBs l.bs (ownTs l.ts s)
  { T := pickT s.T l.ts, S := pickS s.S (keepIds l) }

def firstRegion : Code → Nat
  | .region id _ _ => id
  | .seq a _ => firstRegion a
  | .block _ a => firstRegion a
  | .loop a => firstRegion a
  | .cond _ a _ => firstRegion a
  | _ => 0

def mask (cx : Cx) (c : Code) (s : AS) : AS := match lk cx.lks (firstRegion c) with
  | some l => maskTo l s
  | none => s

def thenQ (next : AS → Prop) (Q : Exit → AS → Prop) : Exit → AS → Prop
  | .normal, s => next s
  | e, s => Q e s

def blockQ (id : Nat) (Q : Exit → AS → Prop) : Exit → AS → Prop
  | .exit j, s => match Nat.beq j id with
    | true => Q .normal s
    | false => Q (.exit j) s
  | e, s => Q e s

/-! ### Functions -/
def resOne (tt : TT) (s : AS) : ResultVar → Option V
  | .tmp t => some (aval s (.tmp t))
  | .cell a t => match lk tt t with
    | some ti => match loadV s.S ti (aval s (.tmp a)) with
      | some ⟨v, _, _, []⟩ => some v
      | _ => none
    | none => none

def resL (tt : TT) (s : AS) : List ResultVar → Option (List V)
  | [] => some []
  | x :: r => match resOne tt s x, resL tt s r with
    | some v, some l => some (v :: l)
    | _, _ => none

def resV (tt : TT) (s : AS) (rs : List ResultVar) : Option V := match resL tt s rs with
  | some [v] => some v
  | some l => some (.tup l)
  | none => none

/-- A cell as a result: all frozen, under the tag c; what has a lower tag than lim is not told. -/
def frzXA (S : List (Nat × Blk)) (lim c : Nat) : V → V
  | .osl id n => match lk S id, Nat.ble 64 id with
    | some (.arr _ _ g te), true => match Nat.ble lim te with
      | true => .sl n g c
      | false => .undef
    | _, _ => .undef
  | .oref id i off => match lk S id, Nat.ble 64 id with
    | some (.arr _ _ g te), true => match Nat.ble lim te with
      | true => .ptr (g i).cells off c
      | false => .undef
    | _, _ => .undef
  | .sl n g t => match Nat.ble lim t with
    | true => .sl n g c
    | false => .undef
  | .ptr cs o t => match Nat.ble lim t with
    | true => .ptr cs o c
    | false => .undef
  | .agg _ => .undef
  | .tup _ => .undef
  | .fn _ _ => .undef
  | .cnd _ _ => .undef
  | v => v

def frzXB (S : List (Nat × Blk)) (lim c : Nat) : V → V
  | .oref id i off => match lk S id, Nat.ble 64 id with
    | some (.box cs), true => match i with
      | 0 => .ptr (cs.map (frzXA S lim c)) off c
      | _ => .undef
    | _, _ => frzXA S lim c (.oref id i off)
  | .agg cs => .agg (cs.map (frzXA S lim c))
  | .fn f cs => .fn f (cs.map (frzXA S lim c))
  | v => frzXA S lim c v

def frzX (S : List (Nat × Blk)) (lim c : Nat) : V → V
  | .tup vs => .tup (vs.map (frzXB S lim c))
  | v => frzXB S lim c v

/-- How a result is told, where no blocks were handed in: 0: all frozen, of whatever memory; else: all frozen, made by the call. -/
def exportV (pol : Nat) (s : AS) (r : V) : V := match pol with
  | 0 => frzX s.S 0 0 r
  | _ => frzX s.S 2 2 r

def enterT : List V → Nat → List (Nat × V)
  | [], _ => []
  | v :: r, i => (i, v) :: enterT r (i + 1)

def enterS : List Blk → Nat → List (Nat × Blk)
  | [], _ => []
  | b :: r, i => (i, b) :: enterS r (i + 1)

end Go.Av
