/- The proof's texts, joined, without what the row does not reach: part 1. -/
import Derived.Calls
import Derived.Laws.BytesArg
import Derived.Below
import Derived.Orders
import Derived.Laws.Cells
import Derived.Laws.StructEq
namespace Go.Av
set_option backward.match.sparseCases false
inductive V where
 |int (k:IntKind) (n:Int)
 |bool (b:Bool)
 |str (s:ByteArray)
 |nil
 |sl (n:Nat) (g:Nat→V) (t:Nat)
 |ptr (cs:List V) (off:Nat) (t:Nat)
 |agg (cs:List V)
 |tup (vs:List V)
 |fn (f:FuncId) (caps:List V)
 |osl (id n:Nat)
 |oss (id lo n c:Nat) (e:Bool)
 |oref (id i off:Nat)
 |omap (id:Nat)
 |cnd (c:Bool) (v:V)
 |undef
instance:Inhabited V:=⟨.undef⟩
def V.cells:V→List V
 | .agg cs=>cs
 |v=>[v]
inductive Blk where
 |arr (sz n:Nat) (g:Nat→V) (te:Nat)
 |box (cs:List V)
 |mp (z:V) (f:Int→V) (h:Int→Bool)
def lk {α:Type}:List (Nat×α)→Nat→Option α
 |[],_=>none
 |(k,x)::r,n=>match Nat.beq k n with
  |true=>some x
  |false=>lk r n
def del {α:Type}:List (Nat×α)→Nat→List (Nat×α)
 |[],_=>[]
 |(k,x)::r,n=>match Nat.beq k n with
  |true=>del r n
  |false=>(k,x)::del r n
def put {α:Type} (l:List (Nat×α)) (n:Nat) (x:α):List (Nat×α):=(n,x)::del l n
def mem (n:Nat):List Nat→Bool
 |[]=>false
 |k::r=>Nat.beq k n||mem n r
structure AS where
 T:List (Nat×V)
 S:List (Nat×Blk)
structure TI where
 desc:TypeDesc
 size:Nat
 bytes:Nat
 zero:V
 flat:Bool
 cmp:Bool
abbrev TT:=List (Nat×TI)
def q6L:Value→V
 | .int k n=>.int k n
 | .bool b=>.bool b
 | .string s=>.str s
 | .slice _ 0 0=>.nil
 |_=>.undef
def qGU:Value→V
 | .agg cs=>.agg (cs.toList.map q6L)
 | .func (.func f) ⟨[]⟩ ⟨[]⟩=>.fn f []
 |v=>q6L v
mutual
def V.ment (p:Nat→Bool):V→Bool
 | .osl id _=>p id
 | .oss id _ _ _ _=>p id
 | .oref id _ _=>p id
 | .omap id=>p id
 | .agg cs=>V.mentL p cs
 | .tup cs=>V.mentL p cs
 | .fn _ cs=>V.mentL p cs
 | .cnd _ v=>V.ment p v
 |_=>false
def V.mentL (p:Nat→Bool):List V→Bool
 |[]=>false
 |v::r=>V.ment p v||V.mentL p r
end
mutual
def V.ids:V→List Nat
 | .osl id _=>[id]
 | .oss id _ _ _ _=>[id]
 | .oref id _ _=>[id]
 | .omap id=>[id]
 | .agg cs=>V.idsL cs
 | .tup cs=>V.idsL cs
 | .fn _ cs=>V.idsL cs
 | .cnd _ v=>V.ids v
 |_=>[]
def V.idsL:List V→List Nat
 |[]=>[]
 |v::r=>V.ids v++V.idsL r
end
mutual
def V.ren (f:Nat→Nat):V→V
 | .osl id n=>.osl (f id) n
 | .oss id lo n c e=>.oss (f id) lo n c e
 | .oref id i off=>.oref (f id) i off
 | .omap id=>.omap (f id)
 | .agg cs=>.agg (V.renL f cs)
 | .tup cs=>.tup (V.renL f cs)
 | .fn g cs=>.fn g (V.renL f cs)
 | .cnd c v=>.cnd c (V.ren f v)
 |v=>v
def V.renL (f:Nat→Nat):List V→List V
 |[]=>[]
 |v::r=>V.ren f v::V.renL f r
end
mutual
def V.tag (f:Nat→Nat):V→V
 | .sl n g t=>.sl n g (f t)
 | .ptr cs o t=>.ptr cs o (f t)
 | .agg cs=>.agg (V.tagL f cs)
 | .tup cs=>.tup (V.tagL f cs)
 | .fn g cs=>.fn g (V.tagL f cs)
 | .cnd c v=>.cnd c (V.tag f v)
 |v=>v
def V.tagL (f:Nat→Nat):List V→List V
 |[]=>[]
 |v::r=>V.tag f v::V.tagL f r
end
mutual
def V.closed:V→Bool
 | .sl _ _ t=>Nat.ble 2 t
 | .ptr _ _ t=>Nat.ble 2 t
 | .agg cs=>V.closedL cs
 | .tup cs=>V.closedL cs
 | .fn _ cs=>V.closedL cs
 | .cnd _ v=>V.closed v
 |_=>true
def V.closedL:List V→Bool
 |[]=>true
 |v::r=>V.closed v&&V.closedL r
end
def Blk.closed:Blk→Bool
 | .arr _ _ _ te=>Nat.ble 2 te
 | .box cs=>V.closedL cs
 | .mp _ _ _=>false
def Blk.ids:Blk→List Nat
 | .arr _ _ _ _=>[]
 | .box cs=>V.idsL cs
 | .mp _ _ _=>[]
def Blk.ment (p:Nat→Bool):Blk→Bool
 | .arr _ _ _ _=>false
 | .box cs=>V.mentL p cs
 | .mp _ _ _=>false
def q8W (S:List (Nat×Blk)):V→V
 | .osl id n=>match lk S id with
  |some (.arr _ _ g _)=>.sl n g 1
  |_=>.undef
 | .oref id i off=>match lk S id with
  |some (.arr _ _ g _)=>.ptr (g i).cells off 1
  |_=>.undef
 | .sl n g _=>.sl n g 1
 | .ptr cs o _=>.ptr cs o 1
 | .agg _=>.undef
 | .tup _=>.undef
 | .fn _ _=>.undef
 | .cnd _ _=>.undef
 | .omap _=>.undef
 | .oss _ _ _ _ _=>.undef
 |v=>v
def qZu:V→V
 | .sl n g _=>.sl n g 1
 | .ptr cs o _=>.ptr cs o 1
 | .int k n=>.int k n
 | .bool b=>.bool b
 | .str s=>.str s
 | .nil=>.nil
 |_=>.undef
def qS5 (S:List (Nat×Blk)):V→V
 | .fn f cs=>.fn f (cs.map qZu)
 |v=>q8W S v
def q74 (S:List (Nat×Blk)):V→V
 | .oref id i off=>match lk S id with
  |some (.arr _ _ g _)=>.ptr (g i).cells off 1
  |some (.box cs)=>match i with
   |0=>.ptr (cs.map (qS5 S)) off 1
   |_=>.undef
  |_=>.undef
 |v=>q8W S v
def qJv (S:List (Nat×Blk)):V→V
 | .agg cs=>.agg (cs.map (q74 S))
 | .fn f cs=>.fn f (cs.map (q74 S))
 |v=>q74 S v
def q3U (S:List (Nat×Blk)) (vs:List V):List Nat:=
 V.idsL vs++(V.idsL vs).flatMap fun id=>match lk S id with
  |some b=>b.ids
  |none=>[]
def q6V (S:List (Nat×Blk)) (t:Nat):V→V
 | .osl id n=>match lk S id,Nat.ble 64 id with
  |some (.arr _ _ g te),true=>match Nat.beq te t||Nat.beq te 100||Nat.beq t 0||(Nat.ble 2 te&&Nat.ble 2 t&& !(Nat.beq t 100))with
   |true=>.sl n g t
   |false=>.undef
  |_,_=>.undef
 | .oref _ _ _=>.undef
 | .omap _=>.undef
 | .agg _=>.undef
 | .tup _=>.undef
 | .fn _ _=>.undef
 | .cnd _ _=>.undef
 | .oss _ _ _ _ _=>.undef
 |v=>v
def frz (S:List (Nat×Blk)) (t:Nat):V→V
 | .agg cs=>.agg (cs.map (q6V S t))
 |v=>q6V S t v
def q2D:V→Option Nat
 | .sl _ _ t=>some t
 | .ptr _ _ t=>some t
 |_=>none
def q1l:V→Bool
 | .agg _=>false
 | .tup _=>false
 | .cnd _ _=>false
 | .undef=>false
 | .omap _=>false
 | .oss _ _ _ _ _=>false
 |_=>true
def q87:V→Bool
 | .agg cs=>cs.all q1l
 |v=>q1l v
def qE3:V→Bool
 | .int _ _=>true
 | .bool _=>true
 | .str _=>true
 |_=>false
def q86 (v:V):Bool:=v.cells.all qE3
def q0l:Nat:=100
def qYz (te:Nat) (v:V):Bool:=q87 v&&v.cells.all fun c=>match q2D c with
 |some t=>(Nat.beq t te&& !(Nat.beq t q0l))||Nat.beq te 0||(Nat.ble 2 te&&Nat.ble 2 t&& !(Nat.beq te q0l))
 |none=>match c with
  | .fn _ _=>false
  | .osl _ _=>false
  | .oref _ _ _=>false
  |_=>true
def q1H:V→V
 | .cnd _ v=>v
 |v=>v
def q20 (s:AS):Operand→V
 | .tmp t=>match lk s.T t with
  |some v=>v
  |none=>.undef
 | .const v=>qGU v
 | .global _=>.undef
 | .func f=>.fn f []
def inK (k:IntKind) (n:Int):Prop:=k.wrap n=n
def q5I:TypeDesc→Bool
 | .struct _=>true
 | .array _ _=>true
 |_=>false
def q0Y (S:List (Nat×Blk)):List (Nat×Option Blk)→List (Nat×Blk)
 |[]=>S
 |(id,some b)::r=>q0Y (put S id b) r
 |(id,none)::r=>q0Y (del S id) r
def qAB (ti:TI) (cs:List V) (off:Nat):Option V:=
 match Nat.ble (off+ti.size) cs.length with
 |true=>match q5I ti.desc with
  |true=>some (.agg ((cs.drop off).take ti.size))
  |false=>match ti.size with
   |1=>cs[off]?
   |_=>none
 |false=>none
def qAI:List V→Nat→List V→List V
 |[],_,_=>[]
 |c::cs,0,[]=>c::cs
 |_::cs,0,x::xs=>x::qAI cs 0 xs
 |c::cs,off+1,xs=>c::qAI cs off xs
def qDG (cs:List V) (off:Nat) (xs:List V):Option (List V):=
 match Nat.ble (off+xs.length) cs.length with
 |true=>some (qAI cs off xs)
 |false=>none
def qLV:V→Bool
 | .agg _=>true
 |_=>false
def qB6 (agg:Bool) (cs:List V):V:=
 match agg with
 |true=>.agg cs
 |false=>cs.headD .undef
def q3K (n:Nat) (g h:Nat→V):Nat→V:=fun i=>if i<n then g i else h (i-n)
def ifA (c:Bool):V→V→V
 | .int k a,.int k' b=>match decide (k=k')with
  |true=>.int k' (cond c a b)
  |false=>cond c (.int k a) (.int k' b)
 | .bool a,.bool b=>.bool (cond c a b)
 | .str a,.str b=>.str (cond c a b)
 |a,b=>cond c a b
def ifL (c:Bool):List V→List V→List V
 |a::r,b::r'=>ifA c a b::ifL c r r'
 |as,bs=>cond c as bs
def ifV (c:Bool):V→V→V
 | .agg as,.agg bs=>.agg (ifL c as bs)
 |a,b=>ifA c a b
theorem qUu (c:Bool) (a b:V):ifA c a b=cond c a b:=by
 unfold ifA;split
 ·split
  ·rename_i h;have:=of_decide_eq_true h;subst this;cases c<;>rfl
  ·rfl
 ·cases c<;>rfl
 ·cases c<;>rfl
 ·rfl
theorem qV7 (c:Bool):∀as bs:List V,ifL c as bs=cond c as bs
 |[],[]=>by cases c<;>rfl
 |[],_::_=>by cases c<;>rfl
 |_::_,[]=>by cases c<;>rfl
 |a::r,b::r'=>by
  rw[ifL,qUu,qV7 c r r'];cases c<;>rfl
theorem x0s (c:Bool) (a b:V):ifV c a b=cond c a b:=by
 unfold ifV;split
 ·rw[qV7];cases c<;>rfl
 ·exact qUu _ _ _
def q65 (g:Nat→V) (i:Nat) (v:V):Nat→V:=fun j=>ifV (Nat.beq j i) v (g j)
theorem q2F (g:Nat→V) (i:Nat) (v:V) (j:Nat):q65 g i v j=if j=i then v else g j:=by
 unfold q65;rw[x0s];by_cases h:j=i
 ·subst h;rw[if_pos rfl,Nat.beq_refl];rfl
 ·have:Nat.beq j i=false:=by
   cases e:Nat.beq j i
   ·rfl
   ·exact absurd (Nat.eq_of_beq_eq_true e) h
  rw[if_neg h,this];rfl
def qXC (l:List V):Nat→V:=fun i=>l.getD i .undef
def q32 (g:Nat→V) (l:Nat):Nat→V:=fun i=>g (l+i)
def q3x (g:Nat→V) (lo k:Nat) (h:Nat→V):Nat→V:=fun i=>if lo≤i∧i<lo+k then h (i-lo)else g i
def qGp (sz:Nat):V:=match Nat.beq sz 1 with
 |true=>.undef
 |false=>.agg (List.replicate sz .undef)
def q8i (sz n:Nat) (g:Nat→V):Nat→V:=fun i=>if i<n then g i else qGp sz
def q0i (s:ByteArray) (i:Int):Int:=(s.data.getD i.toNat 0).toNat
def q2Q (tt:TT) (t:Nat):Option TI:=
 match lk tt t with
 |some ⟨.slice e,_,_,_,_,_⟩=>lk tt e
 |_=>none
abbrev q0P:=List V→List Blk→Option (Prop×V×List Blk)
structure LK where
 ts:List (Nat×Option Nat)
 bs:List (Nat×List (Nat×Nat))
structure q0M where
 α:Type
 st:α→AS
 I:α→Prop
 μ:α→Nat
abbrev qTI:=Nat→(Nat→V)→Int→Option (Prop×Int)
inductive Fl where
 |ro
 |rw
 |mv
structure Cx where
 tt:TT
 D:Nat→Option (Fl×q0P)
 nt:Nat
 keep:List Nat
 lks:List (Nat×LK)
 cuts:List Nat
 invs:Nat→Option q0M
 ms:List Nat
 M:Nat→Option qTI
 nest:List Nat
structure Ef where
 v:V
 upd:List (Nat×Option Blk)
 rd:List Nat
 ob:List Prop
def ok (v:V):Option Ef:=some ⟨v,[],[],[]⟩
def okO (v:V) (ob:List Prop):Option Ef:=some ⟨v,[],[],ob⟩
def obs:List Prop→Prop→Prop
 |[],K=>K
 |p::r,K=>p∧obs r K
def AS.app (s:AS) (dst:Option Tmp) (e:Ef):AS:=
 {T:=match dst with
   |some d=>put s.T d e.v
   |none=>s.T
  S:=q0Y s.S e.upd }
def qCQ (g:Bool):V→List Prop
 | .cnd c _=>[g=true→c=true]
 |_=>[]
def qBU:Option Operand→List Operand
 |some x=>[x]
 |none=>[]
def qJh:Callee→List Operand
 | .value f=>[f]
 | .invoke r _=>[r]
 | .builtin _=>[]
def q1L:Op→List Operand
 | .move x| .assign x| .box _ x| .load _ x| .nilCheck x| .unOp _ _ x| .convert _ _ x| .fieldAddr _ x _| .field _ x _| .extract x _=>[x]
 | .build _ ps| .buildSlice _ _ ps=>ps.toList.map (·.2)
 | .store _ a v| .binOp _ _ a v _| .makeSlice _ a v| .indexAddr _ a v| .index _ a v| .lookup _ a v _=>[a,v]
 | .mapUpdate _ a k v=>[a,k,v]
 | .makeFunc _ first captured=>first.toList++captured.toList
 | .slice _ x l h m=>x::(qBU l++qBU h++qBU m)
 | .call c=>qJh c.callee++c.args.toList
 |_=>[]
def qNZ (op:BinOp) (k:IntKind) (x y:Int):Int:=match op with
 | .and=>k.wrap (BitVec.ofInt k.bits x&&&BitVec.ofInt k.bits y).toNat
 | .or=>k.wrap (BitVec.ofInt k.bits x|||BitVec.ofInt k.bits y).toNat
 |_=>k.wrap (BitVec.ofInt k.bits x ^^^BitVec.ofInt k.bits y).toNat
def xFp:BinOp→Bool
 | .shl| .shr=>true
 |_=>false
def shV (op:BinOp) (k:IntKind) (a b:Int):Option Ef:=
 match op with
 | .shl=>okO (.int k (a*2^b.toNat)) [0≤b∧b.toNat≤k.bits,inK k (a*2^b.toNat)]
 | .shr=>okO (.int k (a.fdiv (2^b.toNat))) [0≤b∧b.toNat≤k.bits]
 |_=>none
def qQw (op:BinOp) (k:IntKind) (a b:Int):Option Ef:=
 match op with
 | .add=>okO (.int k (a+b)) [inK k (a+b)]
 | .sub=>okO (.int k (a-b)) [inK k (a-b)]
 | .mul=>okO (.int k (a*b)) [inK k (a*b)]
 | .quo=>okO (.int k (a.tdiv b)) [b≠0,inK k (a.tdiv b)]
 | .rem=>okO (.int k (a.tmod b)) [b≠0]
 | .and=>ok (.int k (qNZ .and k a b))
 | .or=>ok (.int k (qNZ .or k a b))
 | .xor=>ok (.int k (qNZ .xor k a b))
 | .eql=>ok (.bool (a==b))
 | .neq=>ok (.bool (a !=b))
 | .lss=>ok (.bool (decide (a<b)))
 | .leq=>ok (.bool (decide (a≤b)))
 | .gtr=>ok (.bool (decide (a>b)))
 | .geq=>ok (.bool (decide (a≥b)))
 |_=>none
def q1t (a b:ByteArray):Bool:=a.toList==b.toList
def qFa (a b:ByteArray):Bool:=Op.bytesLess a.toList b.toList
def qQW (op:BinOp) (a b:ByteArray):Option Ef:=
 match op with
 | .add=>okO (.str (a++b)) [a.size+b.size≤2^62]
 | .eql=>ok (.bool (q1t a b))
 | .neq=>ok (.bool (!q1t a b))
 | .lss=>ok (.bool (qFa a b))
 | .leq=>ok (.bool (qFa a b||q1t a b))
 | .gtr=>ok (.bool (!(qFa a b||q1t a b)))
 | .geq=>ok (.bool (!qFa a b))
 |_=>none
def qDv:IntKind→IntKind→Bool
 | .i8,.i8| .i16,.i16| .i32,.i32| .i64,.i64| .u8,.u8| .u16,.u16| .u32,.u32| .u64,.u64=>true
 |_,_=>false
def x3y (tt:TT) (E:Nat→V→V→Option Bool) (as bs:List V):List Field→Option Bool
 |[]=>some true
 |f::fs=>match lk tt f.type with
  |some ti=>match qAB ti as f.offset,qAB ti bs f.offset with
   |some x,some y=>match E f.type x y with
    |some p=>match fs with
     |[]=>some p
     |_::_=>match x3y tt E as bs fs with
      |some q=>some (p&&q)
      |none=>none
    |none=>none
   |_,_=>none
  |none=>none
def eqT (tt:TT):Nat→Nat→V→V→Option Bool
 |0,_,_,_=>none
 |d+1,t,x,y=>match lk tt t,x,y with
  |some ⟨.int _,_,_,_,_,_⟩,.int k a,.int k' b=>match qDv k k' with
   |true=>some (a==b)
   |false=>none
  |some ⟨.bool,_,_,_,_,_⟩,.bool a,.bool b=>some (a==b)
  |some ⟨.string,_,_,_,_,_⟩,.str a,.str b=>some (q1t a b)
  |some ⟨.struct fs,_,_,_,_,true⟩,.agg as,.agg bs=>x3y tt (eqT tt d) as bs fs.toList
  |_,_,_=>none
def x6h (tt:TT) (op:BinOp) (t:Nat) (x y:V):Option Ef:=
 match x,y with
 | .int k a,.int k' b=>match xFp op with
  |true=>shV op k a b
  |false=>match qDv k k' with
   |true=>qQw op k a b
   |false=>none
 | .str a,.str b=>qQW op a b
 | .bool _,.bool _=>match op,eqT tt 5 t x y with
  | .eql,some p=>ok (.bool p)
  | .neq,some p=>ok (.bool (!p))
  |_,_=>none
 | .agg _,.agg _=>match op,eqT tt 5 t x y with
  | .eql,some p=>ok (.bool p)
  | .neq,some p=>ok (.bool (!p))
  |_,_=>none
 |_,_=>none
def x4X (site:Nat) (cs:List V):Option Ef:=some ⟨.oref site 0 0,[(site,some (.box cs))],[],[]⟩
def qDi (n:Nat) (v:V):List V:=(List.range n).map fun j=>v.cells.getD j .undef
def x4P (sz:Nat) (v:V):Bool:=match Nat.beq sz 1 with
 |true=>qLV v
 |false=>true
theorem qHn {n:Nat} {v:V} (h:v.cells.length=n):qDi n v=v.cells:=by
 subst h;unfold qDi;refine List.ext_getElem (by simp) fun i h1 h2=>?_;simp[h2]
def qBl (S:List (Nat×Blk)) (ti:TI) (a:V):Option Ef:=
 match a with
 | .ptr cs off _=>match qAB ti cs off with
  |some v=>match a with
   | .ptr _ _ t=>ok (v.tag fun _=>t)
   |_=>none
  |none=>none
 | .oref id i off=>match lk S id with
  |some (.box cs)=>match i,qAB ti cs off with
   |0,some v=>some ⟨v,[],[id],[]⟩
   |_,_=>none
  |some (.arr sz n g te)=>match qAB ti (qDi sz (g i)) off with
   |some v=>some ⟨v.tag fun _=>te,[],[id],[i<n]⟩
   |none=>none
  |_=>none
 |_=>none
def kills (v:V):List (Nat×Option Blk):=v.ids.map fun id=>(id,none)
def qJE:List Nat→Bool
 |[]=>true
 |id::r=>Nat.ble 64 id&&qJE r
def qBY (S:List (Nat×Blk)) (ti:TI) (a x:V):Option Ef:=
 match a,Nat.beq x.cells.length ti.size&&q87 x with
 | .oref id i off,true=>match lk S id with
  |some (.box cs)=>match i,qDG cs off x.cells with
   |0,some cs'=>some ⟨.undef,[(id,some (.box cs'))],[id],[]⟩
   |_,_=>none
  |some (.arr sz n g te)=>
   let y:=frz S te x
   match qDG (qDi sz (g i)) off y.cells,qYz te y&& !(mem id x.ids)&&qJE x.ids&&(x.ids.isEmpty|| !(Nat.beq te 1))with
   |some cs',true=>some ⟨.undef,(id,some (.arr sz n (q65 g i (qB6 (x4P sz (g i)) cs')) te))::kills x,id::x.ids,[i<n]⟩
   |_,_=>none
  |_=>none
 |_,_=>none
def q8h (tt:TT) (s f:Nat):Option (Nat×TI):=
 match lk tt s with
 |some ⟨.struct fs,_,_,_,_,_⟩=>match fs.toList[f]? with
  |some fd=>match lk tt fd.type with
   |some ti=>some (fd.offset,ti)
   |none=>none
  |none=>none
 |_=>none
def qB8 (tt:TT) (s f:Nat) (a:V):Option Ef:=
 match q8h tt s f with
 |some (off',ti)=>match ti.size with
  |0=>none
  |_+1=>match a with
   | .ptr cs off t=>ok (.ptr cs (off+off') t)
   | .oref id i off=>ok (.oref id i (off+off'))
   |_=>none
 |none=>none
def qPd (tt:TT) (s f:Nat) (x:V):Option Ef:=
 match q8h tt s f,x with
 |some (off',ti),.agg cs=>match qAB ti cs off' with
  |some v=>ok v
  |none=>none
 |_,_=>none
def q3p (tt:TT) (S:List (Nat×Blk)) (t:Nat) (x ix:V):Option Ef:=
 match q2Q tt t,x,ix with
 |some ti,.sl n g tg,.int _ i=>match Nat.beq (g i.toNat).cells.length ti.size with
  |true=>okO (.ptr (g i.toNat).cells 0 tg) [0≤i∧i<(n:Int)]
  |false=>none
 |some ti,.osl id n,.int _ i=>match lk S id with
  |some (.arr sz _ _ _)=>match Nat.beq sz ti.size with
   |true=>some ⟨.oref id i.toNat 0,[],[id],[0≤i∧i<(n:Int)]⟩
   |false=>none
  |_=>none
 |_,_,_=>none
def q5J:Option V→Option (Option Int)
 |none=>some none
 |some (.int _ i)=>some (some i)
 |_=>none
def q13 (size m:Nat) (h:Nat→V):Prop:=∀i,i<m→(h i).cells.length=size∧q87 (h i)=true
def q97 (tt:TT) (t:Nat):Bool:=match lk tt t with
 |some ⟨.string,_,_,_,_,_⟩=>true
 |_=>false
def qBL (tt:TT) (t:Nat):Bool:=match q2Q tt t with
 |some _=>true
 |none=>false
def qPA (tt:TT) (t:Nat) (x:V) (lo hi mx:Option V):Option Ef:=
 match x,q5J lo,q5J hi,mx with
 | .str s,some lo,some hi,none=>match q97 tt t with
  |true=>
   let l:=lo.getD 0
   let h:=hi.getD s.size
   okO (.str (s.extract l.toNat h.toNat)) [0≤l∧l≤h∧h≤(s.size:Int)]
  |false=>none
 | .sl n g tg,some lo,some hi,none=>match qBL tt t,q2Q tt t with
  |true,some ti=>
   let l:=lo.getD 0
   let h:=hi.getD n
   okO (.sl (h.toNat-l.toNat) (match lo with|none=>g|some _=>q32 g l.toNat) tg) [0≤l∧l≤h∧h≤(n:Int),q13 ti.size n g]
  |_,_=>none
 | .osl id n,some none,some (some h),none=>match qBL tt t with
  |true=>okO (.osl id h.toNat) [0≤h∧h≤(n:Int)]
  |false=>none
 | .nil,some none,some (some h),none=>match qBL tt t with
  |true=>okO .nil [h=0]
  |false=>none
 |x,some lo,some (some 0),some (.int _ 0)=>match x,lo,qBL tt t with
  | .sl _ _ _,none,true=>ok .nil
  | .osl _ _,none,true=>ok .nil
  | .nil,none,true=>ok .nil
  | .sl _ _ _,some 0,true=>ok .nil
  | .osl _ _,some 0,true=>ok .nil
  | .nil,some 0,true=>ok .nil
  |_,_,_=>none
 |_,_,_,_=>none
def qGk:List V→Option (List ByteArray)
 |[]=>some []
 | .str s::r=>match qGk r with
  |some l=>some (s::l)
  |none=>none
 |_=>none
def qHV (k:IntKind):List V→Option (List Int)
 |[]=>some []
 | .int k' n::r=>match qDv k k',qHV k r with
  |true,some l=>some (n::l)
  |_,_=>none
 |_=>none
def q3C:List V→(Nat→V)
 | .str s::r=>match qGk r with
  |some l=>fun i=>.str ((s::l).getD i default)
  |none=>qXC (.str s::r)
 | .int k n::r=>match qHV k r with
  |some l=>fun i=>.int k ((n::l).getD i 0)
  |none=>qXC (.int k n::r)
 |l=>qXC l
def xB9 (tt:TT) (t:Nat) (x:V):Option Ef:=
 match x,q97 tt t,qBL tt t with
 | .str s,true,_=>ok (.int .i64 s.size)
 | .nil,_,true=>ok (.int .i64 0)
 | .sl n _ _,_,true=>ok (.int .i64 n)
 | .osl _ n,_,true=>ok (.int .i64 n)
 | .oss _ _ n _ _,_,true=>ok (.int .i64 n)
 |_,_,_=>none
def xDz (tt:TT) (t:Nat) (x:V):Option Ef:=
 match x,qBL tt t with
 | .oss _ _ _ c true,true=>ok (.int .i64 c)
 |_,_=>none
def qDt (S:List (Nat×Blk)):V→Option (Nat×(Nat→V)×Nat×List Nat)
 | .nil=>some (0,fun _=>.undef,q0l,[])
 | .sl n g t=>some (n,g,t,[])
 | .osl id n=>match lk S id with
  |some (.arr _ _ g te)=>some (n,g,te,[id])
  |_=>none
 |_=>none
def q7S (flat:Bool) (a b m:Nat) (h:Nat→V):Nat×List Prop:=
 match flat with
 |true=>match Nat.beq a q0l,Nat.beq b q0l with
  |true,true=>(q0l,[])
  |true,false=>(q0l,[∀i,i<m→q86 (h i)=true])
  |_,_=>(0,[])
 |false=>match Nat.beq a b with
  |true=>(a,[])
  |false=>match Nat.ble 2 a&&Nat.ble 2 b&& !(Nat.beq a q0l)with
   |true=>(a,[])
   |false=>(0,[])
def q4w:Nat:=2^30
def qQl (ti:TI):Nat:=match ti.flat with
 |true=>q0l
 |false=>2
def qPJ (S:List (Nat×Blk)):V→Option (Nat×(Nat→V)×Nat×List Nat)
 | .oss id lo n _ _=>match lk S id with
  |some (.arr _ _ g te)=>some (n,q32 g lo,te,[id])
  |_=>none
 |x=>qDt S x
def qSJ:V→Option (Nat×Nat×Nat)
 | .osl id n=>some (id,0,n)
 | .oss id lo n _ _=>some (id,lo,n)
 |_=>none
def qMi (tt:TT) (S:List (Nat×Blk)) (t:Nat) (x y:V):Option Ef:=
 match q2Q tt t,qSJ x,qPJ S y with
 |some ti,some (id,lo,n),some (m,h,th,rd)=>match lk S id with
  |some (.arr sz k g te)=>match Nat.beq sz ti.size&&Nat.beq te q0l&&Nat.beq th q0l with
   |true=>some ⟨.int .i64 (min n m:Nat),[(id,some (.arr sz k (q3x g lo (min n m) h) te))],id::rd,[q13 ti.size (min n m) h]⟩
   |false=>none
  |_=>none
 |_,_,_=>none
def qEo (tt:TT) (S:List (Nat×Blk)) (t:Nat) (x:V):Option Ef:=
 match q2Q tt t,qSJ x with
 |some ti,some (id,lo,n)=>match lk S id with
  |some (.arr sz k g te)=>match Nat.beq sz ti.size&&Nat.beq te q0l&&ti.flat&&q87 ti.zero with
   |true=>some ⟨.undef,[(id,some (.arr sz k (q3x g lo n fun _=>ti.zero) te))],[id],[]⟩
   |false=>none
  |_=>none
 |_,_=>none
def qEi (tt:TT) (S:List (Nat×Blk)) (t:Nat) (x:V) (lo hi mx:Option V):Option Ef:=
 match x,q5J lo,q5J hi,mx with
 | .osl id n,some (some l),some hi,none=>match q2Q tt t,lk S id with
  |some ti,some (.arr sz _ _ _)=>match Nat.beq sz ti.size with
   |true=>some ⟨.oss id l.toNat ((hi.getD n).toNat-l.toNat) (n-l.toNat) false,[],[id],[0≤l∧l≤hi.getD n∧hi.getD n≤(n:Int)]⟩
   |false=>none
  |_,_=>none
 | .oss id o n c e,some lo,some hi,none=>match q2Q tt t,lk S id with
  |some ti,some (.arr sz m _ _)=>match Nat.beq sz ti.size with
   |true=>some ⟨.oss id (match lo with|none=>o|some l=>o+l.toNat) ((hi.getD n).toNat-(lo.getD 0).toNat) (c-(lo.getD 0).toNat) e,[],[id],[0≤lo.getD 0∧lo.getD 0≤hi.getD n∧hi.getD n≤(c:Int)∧o+(hi.getD n).toNat≤m]⟩
   |false=>none
  |_,_=>none
 | .oss _ _ _ c _,some lo,some (some h),some (.int _ k)=>match qBL tt t with
  |true=>okO .undef [0≤lo.getD 0∧lo.getD 0≤h∧h≤k∧k≤(c:Int)]
  |false=>none
 |x,_,_,_=>qPA tt t x lo hi mx
def q8H (tt:TT) (S:List (Nat×Blk)) (site t:Nat) (s x:V):Option Ef:=
 match q2Q tt t,qDt S x with
 |some ti,some (m,h,th,rd)=>match Nat.ble ti.bytes 1024&&Nat.ble 1 ti.bytes with
  |true=>match s with
   | .nil=>match q7S ti.flat q0l th m h with
    |(_,jo)=>some ⟨.osl site m,[(site,some (.arr ti.size m h (match ti.flat with|true=>q0l|false=>th)))],rd,(m≤q4w)::q13 ti.size m h::jo⟩
   | .osl id n=>match lk S id with
    |some (.arr sz n' g te)=>match Nat.beq sz ti.size,q7S ti.flat te th m h with
     |true,(tj,jo)=>match Nat.ble 64 id with
      |true=>some ⟨.osl site (n+m),[(id,none),(site,some (.arr ti.size (n+m) (q3K n g h) tj))],id::rd,(n=n')::(n+m≤q4w)::q13 ti.size m h::jo⟩
      |false=>none
     |false,_=>none
    |_=>none
   |_=>none
  |false=>none
 |_,_=>none
def q7a (tt:TT) (S:List (Nat×Blk)) (site t:Nat) (s x:V):Option Ef:=
 match q2Q tt t,qDt S x with
 |some ti,some (m,h,th,rd)=>match Nat.ble ti.bytes 1024&&Nat.ble 1 ti.bytes with
  |true=>match s with
   | .nil=>match q7S ti.flat q0l th m h with
    |(_,jo)=>some ⟨.osl site m,[(site,some (.arr ti.size m h (match ti.flat with|true=>q0l|false=>th)))],rd,(m≤q4w)::q13 ti.size m h::jo⟩
   | .osl id n=>match lk S id with
    |some (.arr sz n' g te)=>match Nat.beq sz ti.size,q7S ti.flat te th m h with
     |true,(tj,jo)=>match Nat.ble 64 id with
      |true=>some ⟨.osl site (n+m),[(id,none),(site,some (.arr ti.size (n+m) (q3K n g h) tj))],id::rd,(n≤n')::(n+m≤q4w)::q13 ti.size m h::jo⟩
      |false=>none
     |false,_=>none
    |_=>none
   |_=>none
  |false=>none
 |_,_=>none
def qQm (tt:TT) (t:Nat):Bool:=match lk tt t with
 |some ⟨.int _,_,_,_,_,_⟩=>true
 |_=>false
def q8U (tt:TT) (S:List (Nat×Blk)) (site t:Nat) (s x:V):Option Ef:=
 match s with
 | .oss id o n c e=>match Nat.beq o 0,e with
  |true,true=>q7a tt S site t (.osl id n) x
  |true,false=>match q2Q tt t,qPJ S x,lk S id with
   |some ti,some (m,h,th,rd),some (.arr sz k g te)=>match Nat.beq sz ti.size&&Nat.beq te q0l&&Nat.beq th q0l with
    |true=>some ⟨.oss id 0 (n+m) c false,[(id,some (.arr sz k (q3x g n m h) te))],id::rd,[n+m≤c,n+m≤k,q13 ti.size m h]⟩
    |false=>none
   |_,_,_=>none
  |_,_=>none
 |_=>q8H tt S site t s x
def qAu (tt:TT) (S:List (Nat×Blk)) (site t:Nat) (s x:V):Option Ef:=
 match q2Q tt t,s,x with
 |some ti,.oss id o n c true,.int _ m=>match lk S id,Nat.ble ti.bytes 1024&&Nat.ble 1 ti.bytes&&Nat.beq o 0&&ti.flat with
  |some (.arr sz k g te),true=>match Nat.beq sz ti.size&&Nat.beq te q0l with
   |true=>some ⟨.osl site (n+m.toNat),[(site,some (.arr ti.size (n+m.toNat) (q3K n g fun _=>ti.zero) q0l))],[id],[0≤m,n≤k,c<n+m.toNat,n+m.toNat≤q4w]⟩
   |false=>none
  |_,_=>none
 |_,_,_=>none
def q4h (d:Nat):Nat:=64*(d+1)
def qAP (id:Nat):List Nat→Nat
 |[]=>0
 |k::r=>match Nat.beq k id with
  |true=>0
  |false=>qAP id r+1
def qKR:List Nat→Bool
 |[]=>true
 |k::r=> !mem k r&&qKR r
def q84:List Nat→List Nat
 |[]=>[]
 |k::r=>match mem k r with
  |true=>q84 r
  |false=>k::q84 r
def qUB (S:List (Nat×Blk)):List Nat→Option (List Blk)
 |[]=>some []
 |id::r=>match lk S id,qUB S r with
  |some b,some l=>some (b::l)
  |_,_=>none
def q9C (d m:Nat):List Blk→List (Nat×Option Blk)
 |[]=>[]
 |b::r=>(q4h d+m,some b)::q9C d (m+1) r
def retag (d:Nat) (t:Nat):Nat:=match t with
 |0=>0
 |1=>0
 |_=>match Nat.beq t q0l with
  |true=>q0l
  |false=>d+200
def qJu (t:Nat):Nat:=match Nat.beq t q0l with
 |true=>q0l
 |false=>1
def Blk.down:Blk→Blk
 | .arr sz n g te=>.arr sz n g (qJu te)
 | .box cs=>.box (V.tagL (fun _=>1) cs)
 | .mp z f h=>.mp z f h
def qK9:List Blk→List Blk→List Prop
 | .arr _ n _ _::r,.arr _ m _ _::q=>(n=m)::qK9 r q
 | .box _::r,.box _::q=>qK9 r q
 |_,_=>[]
def Blk.retag (d:Nat):Blk→Blk
 | .arr sz n g te=>.arr sz n g (Go.Av.retag d te)
 | .box cs=>.box (V.tagL (Go.Av.retag d) cs)
 | .mp z f h=>.mp z f h
def Blk.ren (f:Nat→Nat):Blk→Blk
 | .arr sz n g te=>.arr sz n g te
 | .box cs=>.box (V.renL f cs)
 | .mp z f h=>.mp z f h
def q9I:List Blk→List Blk→Bool
 |[],[]=>true
 | .arr sz _ _ _::r,.arr sz' _ _ _::q=>Nat.beq sz sz'&&q9I r q
 | .box cs::r,.box ds::q=>Nat.beq cs.length ds.length&&q9I r q
 |_,_=>false
def qFo (m:Nat):List Nat→Bool
 |[]=>true
 |k::r=>Nat.blt k m&&qFo m r
def nmN (d:Nat) (j:Nat):Nat:=q4h d+j
def nmI (d:Nat) (ids:List Nat) (j:Nat):Nat:=match Nat.blt j ids.length with
 |true=>ids.getD j 0
 |false=>q4h d+(j-ids.length)
def q8J (f:Nat→Nat) (d:Nat):List Nat→List Blk→List (Nat×Option Blk)
 |id::r,b::q=>(id,some ((b.ren f).retag d))::q8J f d r q
 |_,_=>[]
def qEI:V→Bool
 | .osl _ _=>true
 |_=>false
def qF6:Blk→Bool
 | .arr _ _ _ _=>true
 |_=>false
def mvA (S:List (Nat×Blk)) (ids:List Nat):V→V
 | .osl id n=>.osl (qAP id ids) n
 |v=>qJv S v
def qMC (cx:Cx) (S:List (Nat×Blk)) (d f:Nat) (args:List V):Option Ef:=
 match cx.D f with
 |some (.ro,D)=>
  match D (args.map (qJv S)) []with
  |some (ob,r,bs)=>
   match(V.idsL args).isEmpty||(V.closed r&&bs.all Blk.closed),qFo bs.length r.ids&&bs.all (fun b=>qFo bs.length b.ids),Nat.blt bs.length 63 with
   |true,true,true=>some ⟨(r.ren (nmN d)).tag (retag d),q9C d 0 (bs.map fun b=>(b.ren (nmN d)).retag d),q3U S args,[ob]⟩
   |false,true,true=>some ⟨(r.ren (nmN d)).tag (retag d),(q3U S args).map (fun id=>(id,none))++q9C d 0 (bs.map fun b=>(b.ren (nmN d)).retag d),q3U S args,[ob]⟩
   |_,_,_=>none
  |none=>none
 |some (.mv,D)=>
  let ids:=q84 (V.idsL (args.filter qEI))
  match qUB S ids with
  |some bin=>
   match D (args.map (mvA (q0Y S (ids.map fun id=>(id,none))) ids)) (bin.map Blk.down)with
   |some (ob,r,bs)=>
    match Nat.blt bs.length 63&&(Nat.blt ids.length 63&&qJE ids),qFo bs.length r.ids&&bs.all (fun b=>qFo bs.length b.ids),bin.all qF6&&(V.closed r&&bs.all Blk.closed)with
    |true,true,true=>some ⟨(r.ren (nmN d)).tag (retag d),ids.map (fun id=>(id,none))++q9C d 0 (bs.map fun b=>(b.ren (nmN d)).retag d),ids++q3U S args,[ob]⟩
    |_,_,_=>none
   |none=>none
  |none=>none
 |some (.rw,D)=>
  let ids:=q84 (V.idsL args)
  match qUB S ids with
  |some bin=>
   let inn:=fun id=>qAP id ids
   match D ((args.map (V.ren inn)).map (V.tag fun _=>1)) (bin.map fun b=>(b.ren inn).down)with
   |some (ob,r,bs)=>
    match q9I bin (bs.take ids.length)&&Nat.blt bs.length 63,qFo bs.length r.ids&&bs.all (fun b=>qFo bs.length b.ids),bin.all (fun b=>b.ids.all fun k=>mem k ids)with
    |true,true,true=>some ⟨(r.ren (nmI d ids)).tag (retag d),q8J (nmI d ids) d ids bs++q9C d 0 ((bs.drop ids.length).map fun b=>(b.ren (nmI d ids)).retag d),ids,ob::qK9 bin bs⟩
    |_,_,_=>none
   |none=>none
  |none=>none
 |none=>none
def q76 (fs:List (Nat×TI)):List V→List (Nat×V)→Option (List V)
 |cs,[]=>some cs
 |cs,(i,x)::r=>match fs[i]? with
  |some (off,ti)=>match Nat.beq x.cells.length ti.size&&q87 x,qDG cs off x.cells with
   |true,some cs'=>q76 fs cs' r
   |_,_=>none
  |none=>none
def qA2 (tt:TT):List Field→Option (List (Nat×TI))
 |[]=>some []
 |f::r=>match lk tt f.type,qA2 tt r with
  |some ti,some l=>some ((f.offset,ti)::l)
  |_,_=>none
def qRQ (tt:TT) (t:Nat) (parts:List (Nat×V)):Option Ef:=
 match lk tt t with
 |some ⟨.struct fs,_,_,z,_,_⟩=>match qA2 tt fs.toList with
  |some l=>match q76 l z.cells parts with
   |some cs=>ok (.agg cs)
   |none=>none
  |none=>none
 |_=>none
def q6f (size te:Nat) (S:List (Nat×Blk)):List V→List (Nat×V)→Option (List V)
 |es,[]=>some es
 |es,(i,x)::r=>match Nat.blt i es.length,Nat.beq x.cells.length size,qYz te (frz S te x)with
  |true,true,true=>q6f size te S (es.set i (frz S te x)) r
  |_,_,_=>none
def qUr:List V→Nat
 |[]=>2
 |c::r=>match q2D c with
  |some t=>t
  |none=>qUr r
def qLM:List (Nat×V)→Nat
 |[]=>2
 |(_,x)::r=>match x.cells.all fun c=>(q2D c).isNone with
  |true=>qLM r
  |false=>qUr x.cells
def qHr (ti:TI) (parts:List (Nat×V)):Nat:=match ti.flat with
 |true=>q0l
 |false=>qLM parts
def q5V (tt:TT) (S:List (Nat×Blk)) (site t len:Nat) (parts:List (Nat×V)):Option Ef:=
 match q2Q tt t with
 |some ti=>match Nat.ble (len*ti.size) 16777216 with
  |true=>
   match q6f ti.size (qHr ti parts) S (List.replicate len ti.zero) parts,qJE (parts.flatMap fun p=>p.2.ids)&&((parts.flatMap fun p=>p.2.ids).isEmpty||(!(Nat.beq (qHr ti parts) q0l)&& !(Nat.beq (qHr ti parts) 1)))with
   |some es,true=>some ⟨.osl site len,(site,some (.arr ti.size len (q3C es) (qHr ti parts)))::(parts.flatMap fun p=>p.2.ids).map (fun id=>(id,none)),parts.flatMap (fun p=>p.2.ids),[]⟩
   |_,_=>none
  |false=>none
 |none=>none
def qWV (tt:TT) (site t:Nat) (l c:V):Option Ef:=
 match q2Q tt t,l,c with
 |some ti,.int _ n,.int _ m=>match Nat.ble ti.bytes 1024 with
  |true=>some ⟨.osl site n.toNat,[(site,some (.arr ti.size n.toNat (fun _=>ti.zero) (qQl ti)))],[],[0≤n∧n≤m∧m≤(q4w:Int)]⟩
  |false=>none
 |_,_,_=>none
def qOr (tt:TT) (t:Nat):Option TI:=
 match lk tt t with
 |some ⟨.map k e,_,_,_,_,_⟩=>match lk tt k with
  |some ⟨.int _,_,_,_,_,_⟩=>lk tt e
  |_=>none
 |_=>none
def x4F:V→V→Bool
 | .int k a,.int k' b=>qDv k k'&&decide (a=b)
 | .bool a,.bool b=>a==b
 |_,_=>false
def qZ1:List V→List V→Bool
 |[],[]=>true
 |a::r,b::q=>x4F a b&&qZ1 r q
 |_,_=>false
def veq:V→V→Bool
 | .agg as,.agg bs=>qZ1 as bs
 |a,b=>x4F a b
def qYw {α:Type} (f:Int→α) (n:Int) (v:α):Int→α:=fun j=>if j=n then v else f j
def qFO (tt:TT) (site t:Nat):Option Ef:=
 match qOr tt t with
 |some ti=>match q86 ti.zero with
  |true=>some ⟨.omap site,[(site,some (.mp ti.zero (fun _=>ti.zero) (fun _=>false)))],[],[]⟩
  |false=>none
 |none=>none
def qBO (tt:TT) (S:List (Nat×Blk)) (t:Nat) (x ix:V) (c:Bool):Option Ef:=
 match qOr tt t,x,ix with
 |some ti,.omap id,.int k n=>match qDv k .i64,lk S id with
  |true,some (.mp z f h)=>match veq z ti.zero with
   |true=>some ⟨(match c with|true=>.tup [f n,.bool (h n)]|false=>f n),[],[id],[]⟩
   |false=>none
  |_,_=>none
 |_,_,_=>none
def q68 (tt:TT) (S:List (Nat×Blk)) (t:Nat) (x ix v:V):Option Ef:=
 match qOr tt t,x,ix with
 |some _,.omap id,.int k n=>match qDv k .i64&&q86 v,lk S id with
  |true,some (.mp z f h)=>some ⟨.undef,[(id,some (.mp z (qYw f n v) (qYw h n true)))],[id],[]⟩
  |_,_=>none
 |_,_,_=>none
def qXT (tt:TT) (src dst:Nat) (x:V):Option Ef:=
 match lk tt src,lk tt dst,x with
 |some ⟨.int _,_,_,_,_,_⟩,some ⟨.int k,_,_,_,_,_⟩,.int _ n=>okO (.int k n) [inK k n]
 |some ⟨.string,_,_,_,_,_⟩,some ⟨.string,_,_,_,_,_⟩,.str s=>ok (.str s)
 |_,_,_=>none
def x2m (tt:TT) (t:Nat):Bool:=match q2Q tt t with
 |some ⟨.int .u8,_,_,_,_,_⟩=>true
 |_=>false
def xEC:V→Int
 | .int _ n=>n
 |_=>0
def qPm:V→Bool
 | .int .u8 _=>true
 |_=>false
def q6W (n:Nat) (g:Nat→V):ByteArray:=strOfNums ((List.range n).map fun i=>xEC (g i))
def qMD (tt:TT) (S:List (Nat×Blk)) (src dst:Nat) (x:V):Option Ef:=
 match x with
 | .osl id n=>match x2m tt src&&q97 tt dst,lk S id with
  |true,some (.arr sz _ g _)=>match Nat.beq sz 1 with
   |true=>some ⟨.str (q6W n g),[],[id],[∀i,i<n→qPm (g i)=true]⟩
   |false=>none
  |_,_=>none
 |x=>qXT tt src dst x
def xBx (x y:V):Option V:=
 match x,y with
 | .int k a,.int k' b=>match qDv k k' with
  |true=>some (.int k (if b>a then b else a))
  |false=>none
 |_,_=>none
def x7W (x y:V):Option V:=
 match x,y with
 | .int k a,.int k' b=>match qDv k k' with
  |true=>some (.int k (if b<a then b else a))
  |false=>none
 |_,_=>none
def qMJ (f:V→V→Option V):V→List V→Option V
 |x,[]=>some x
 |x,y::r=>match f x y with
  |some z=>qMJ f z r
  |none=>none
def okV:Option V→Option Ef
 |some v=>ok v
 |none=>none
def q1d (cx:Cx) (S:List (Nat×Blk)) (d:Nat) (ρ:Operand→V):Op→Option Ef
 | .move x| .assign x=>ok (ρ x)
 | .alloc e=>match lk cx.tt e with
  |some ti=>x4X (q4h d) ti.zero.cells
  |none=>none
 | .box _ x=>match q87 (ρ x)with
  |true=>x4X (q4h d) (ρ x).cells
  |false=>none
 | .build t ps=>qRQ cx.tt t (ps.toList.map fun p=>(p.1,ρ p.2))
 | .buildSlice t len ps=>q5V cx.tt S (q4h d) t len (ps.toList.map fun p=>(p.1,ρ p.2))
 | .load t a=>match lk cx.tt t with
  |some ti=>qBl S ti (ρ a)
  |none=>none
 | .store t a x=>match lk cx.tt t with
  |some ti=>qBY S ti (ρ a) (ρ x)
  |none=>none
 | .nilCheck x=>match ρ x with
  | .ptr cs o t=>ok (.ptr cs o t)
  | .oref id i o=>ok (.oref id i o)
  |_=>none
 | .binOp op t x y _=>x6h cx.tt op t (ρ x) (ρ y)
 | .unOp op _ x=>match op,ρ x with
  | .not,.bool b=>ok (.bool (!b))
  | .neg,.int k n=>okO (.int k (0-n)) [inK k (0-n)]
  |_,_=>none
 | .convert s t x=>qMD cx.tt S s t (ρ x)
 | .makeFunc (.func f) first caps=>match first.toList with
  |[]=>ok (.fn f (caps.toList.map ρ))
  |_=>none
 | .makeSlice t l c=>qWV cx.tt (q4h d) t (ρ l) (ρ c)
 | .slice t x lo hi mx=>qEi cx.tt S t (ρ x) (lo.map ρ) (hi.map ρ) (mx.map ρ)
 | .fieldAddr s x f=>qB8 cx.tt s f (ρ x)
 | .field s x f=>qPd cx.tt s f (ρ x)
 | .indexAddr t x i=>q3p cx.tt S t (ρ x) (ρ i)
 | .index t x i=>match ρ x,ρ i,q97 cx.tt t with
  | .str s,.int _ n,true=>okO (.int .u8 (q0i s n)) [0≤n∧n<(s.size:Int)]
  |_,_,_=>none
 | .makeMap t none=>qFO cx.tt (q4h d) t
 | .lookup t x i c=>qBO cx.tt S t (ρ x) (ρ i) c
 | .mapUpdate t x i v=>q68 cx.tt S t (ρ x) (ρ i) (ρ v)
 | .extract x i=>match ρ x with
  | .tup vs=>match vs[i]? with
   |some v=>ok v
   |none=>none
  |_=>none
 | .call c=>match c.callee with
  | .builtin .len=>match c.args.toList,c.argTypes.toList with
   |[x],t::_=>xB9 cx.tt t (ρ x)
   |_,_=>none
  | .builtin .append=>match c.args.toList,c.argTypes.toList with
   |[s,x],t::u::_=>match q2Q cx.tt u with
    |some _=>q8U cx.tt S (q4h d) t (ρ s) (ρ x)
    |none=>match qQm cx.tt u with
     |true=>qAu cx.tt S (q4h d) t (ρ s) (ρ x)
     |false=>none
   |_,_=>none
  | .builtin .cap=>match c.args.toList,c.argTypes.toList with
   |[x],t::_=>xDz cx.tt t (ρ x)
   |_,_=>none
  | .builtin .copy=>match c.args.toList,c.argTypes.toList with
   |[x,y],t::u::_=>match q2Q cx.tt u with
    |some _=>qMi cx.tt S t (ρ x) (ρ y)
    |none=>none
   |_,_=>none
  | .builtin .clear=>match c.args.toList,c.argTypes.toList with
   |[x],t::_=>qEo cx.tt S t (ρ x)
   |_,_=>none
  | .builtin .max=>match c.args.toList with
   |x::r=>okV (qMJ xBx (ρ x) (r.map ρ))
   |[]=>none
  | .builtin .min=>match c.args.toList with
   |x::r=>okV (qMJ x7W (ρ x) (r.map ρ))
   |[]=>none
  | .value f=>match ρ f with
   | .fn n caps=>qMC cx S d n (c.args.toList.map ρ++caps)
   |_=>none
  |_=>none
 |_=>none
def qYc (g cb:Bool) (a b:V):Option Ef:=
 match a,b with
 | .bool p,.bool q=>ok (.bool (cond cb p q))
 | .cnd c (.bool p),.bool q=>okO (.bool (cond cb p q)) [g=true→cb=true→c=true]
 | .bool p,.cnd c (.bool q)=>okO (.bool (cond cb p q)) [g=true→cb=false→c=true]
 |_,_=>none
def qNA (l:List Prop):Option Ef→Option Ef
 |some e=>some { e with ob:=l++e.ob }
 |none=>none
def opE (cx:Cx) (s:AS) (g:Bool) (d:Nat):Op→Option Ef
 | .pick c a b=>match q1H (q20 s c)with
  | .bool cb=>qNA (qCQ g (q20 s c)) (qYc g cb (q20 s a) (q20 s b))
  |_=>none
 |op=>qNA ((q1L op).flatMap fun x=>qCQ g (q20 s x)) (q1d cx s.S d (fun x=>q1H (q20 s x)) op)
def q9O (ops:List Oper) (s:AS) (o:Oper):Option (Option Bool):=
 match o.guard with
 |none=>some none
 |some (j,want)=>match ops[j]? with
  |some oj=>match oj.dst with
   |some t=>match lk s.T t with
    |some (.bool b)=>match want with
     |true=>some (some b)
     |false=>some (some (!b))
    |some (.cnd c (.bool b))=>match want with
     |true=>some (some (c&&b))
     |false=>some (some (c&& !b))
    |_=>none
   |none=>none
  |none=>none
def qNb (nt:Nat) (o:Oper):Nat:=match o.dst with
 |some d=>d
 |none=>nt
def q4Z (nt:Nat) (o:Oper):Bool:=match o.dst with
 |some d=>Nat.blt d nt
 |none=>true
def qQT (g:Bool):V→V→Option (V×List Prop)
 | .int k a,.int k' b=>match decide (k=k')with
  |true=>some (.int k' (cond g b a),[])
  |false=>none
 | .sl n f t,.sl n' f' t'=>some (.sl n' f' (match Nat.beq t t' with|true=>t'|false=>0),[g=false→V.sl n f 0=V.sl n' f' 0])
 |_,_=>none
def q5q (g:Bool):List V→List V→Option (List V×List Prop)
 |[],[]=>some ([],[])
 |a::r,b::r'=>match qQT g a b,q5q g r r' with
  |some (c,p),some (cs,ps)=>some (c::cs,p++ps)
  |_,_=>none
 |_,_=>none
def qDr (cx:Cx) (ops:List Oper) (s:AS) (o:Oper):Option Ef:=
 match q9O ops s o,q4Z cx.nt o with
 |some none,true=>opE cx s true (qNb cx.nt o) o.op
 |some (some g),true=>match opE cx s g (qNb cx.nt o) o.op with
  |some ⟨v,[],rd,ob⟩=>some ⟨.cnd g v,[],rd,ob.map fun p=>g=true→p⟩
  |some ⟨v,[(id,some (.box new))],rd,ob⟩=>match lk s.S id with
   |some (.box old)=>match q5q g old new with
    |some (m,ps)=>some ⟨.cnd g v,[(id,some (.box m))],id::rd,(ob.map fun p=>g=true→p)++ps⟩
    |none=>none
   |_=>none
  |_=>none
 |_,_=>none
def q2x (nt:Nat):List Oper→List Nat
 |[]=>[]
 |o::r=>(qNb nt o+1)::q2x nt r
def qDl (p:Nat→Bool) (v:V):V:=match V.ment p v with
 |true=>.undef
 |false=>v
def qC8 (p:Nat→Bool):Blk→Blk
 | .arr sz n g te=>.arr sz n g te
 | .box cs=>.box (cs.map (qDl p))
 | .mp z f h=>.mp z f h
def purge (p:Nat→Bool) (s:AS):AS:=
 {T:=s.T.map fun e=>(e.1,qDl p e.2)
  S:=(s.S.filter fun e=> !(p e.1)).map fun e=>(e.1,qC8 p e.2) }
def q2l (ds:List Nat) (id:Nat):Bool:=mem (id/64) ds
def AS.only (s:AS) (keep:List Nat):AS:={ s with T:=s.T.filter fun e=>mem e.1 keep }
def Ef.names (e:Ef):List Nat:=
 e.v.ids++e.rd++e.upd.flatMap fun p=>p.1::(match p.2 with
  |some b=>b.ids
  |none=>[])
def Ef.touch (e:Ef):List Nat:=e.rd++e.upd.map (·.1)
def qBy (nt:Nat) (r:List Oper) (e:Ef):Bool:=e.names.all fun id=> !(q2l (q2x nt r) id)
def qTj (o:Oper) (e:Ef) (K:Ef→Prop):Prop:=match o.op,e with
 | .pick _ _ _,⟨.bool x,upd,rd,ob⟩=>∀b:Bool,b=x→K ⟨.bool b,upd,rd,ob⟩
 | .pick _ _ _,⟨.cnd g (.bool x),upd,rd,ob⟩=>∀b:Bool,b=x→K ⟨.cnd g (.bool b),upd,rd,ob⟩
 |_,e=>K e
theorem qG2 {o:Oper} {e:Ef} {K:Ef→Prop} (h:qTj o e K):K e:=by
 unfold qTj at h;split at h
 ·exact h _ rfl
 ·exact h _ rfl
 ·exact h
def qF5 (cx:Cx) (ops:List Oper):List Oper→AS→List Ef→(AS→List Ef→Prop)→Prop
 |[],s,es,K=>K s es
 |o::r,s,es,K=>match qDr cx ops s o with
  |some e=>match qBy cx.nt r e with
   |true=>obs e.ob (qTj o e fun e=>qF5 cx ops r (s.app o.dst e) (e::es) K)
   |false=>False
  |none=>False
def qR4:V→Bool
 | .int _ _=>true
 | .bool _=>true
 | .str _=>true
 | .nil=>true
 | .undef=>true
 | .sl _ _ t=>Nat.beq t 1
 | .ptr _ _ t=>Nat.beq t 1
 |_=>false
def qHk (id:Nat):V→Bool
 | .osl k _=> !(Nat.beq k id)
 | .oref k _ _=> !(Nat.beq k id)
 |v=>qR4 v
def qXD (id:Nat):V→Bool
 | .agg cs=>cs.all (qHk id)
 |v=>qHk id v
def qNk (id:Nat):Blk→Bool
 | .arr _ _ _ te=>Nat.beq te q0l||Nat.beq te 1
 | .box cs=>cs.all (qHk id)
 | .mp _ _ _=>true
def qM1 (id:Nat) (v:V):V:=match qXD id v with
 |true=>v
 |false=>.undef
def qCC (id:Nat):List (Nat×Blk)→List Nat
 |[]=>[]
 |(k,b)::r=>match !(Nat.beq k id)&&qNk id b with
  |true=>qCC id r
  |false=>k::qCC id r
def forget (id:Nat) (s:AS):AS:=
 {T:=s.T.map fun e=>(e.1,qM1 id e.2),S:=q0Y s.S ((qCC id s.S).map fun k=>(k,none)) }
def qIP (cx:Cx) (s:AS) (o:Oper):Option (Prop×AS):=
 match o.guard,o.dst,o.op with
 |none,some d,.call c=>match c.callee,c.args.toList with
  | .value (.func f),[x,k]=>match q20 s x,q20 s k,cx.M f with
   | .osl id n,.int .i64 m,some M=>match lk s.S id,Nat.ble 64 id&&Nat.blt d cx.nt with
    |some (.arr _ _ g te),true=>match Nat.ble 2 te,M n g m with
     |true,some (ob,r)=>some (ob,{ forget id s with T:=put (forget id s).T d (.int .i64 r) })
     |_,_=>none
    |_,_=>none
   |_,_,_=>none
  |_,_=>none
 |_,_,_=>none
def xAx (cx:Cx) (s:AS) (o:Oper):Option (Nat×Nat):=
 match o.guard,o.dst,o.op with
 |none,some d,.binOp .eql t x (.const (.slice none 0 0)) _=>match Nat.blt d cx.nt&&qBL cx.tt t,q20 s x with
  |true,.sl n _ _=>some (d,n)
  |true,.osl _ n=>some (d,n)
  |true,.nil=>some (d,0)
  |_,_=>none
 |_,_,_=>none
def qZ0 (cx:Cx) (ops:List Oper):List Oper→AS→(AS→Prop)→Prop
 |[],s,K=>K s
 |o::r,s,K=>match qIP cx s o with
  |some (ob,s')=>ob∧qZ0 cx ops r s' K
  |none=>match xAx cx s o with
   |some (d,n)=>∀b:Bool,(b=true→n=0)→qZ0 cx ops r { s with T:=put s.T d (.bool b) } K
   |none=>match qDr cx ops s o with
    |some e=>match qBy cx.nt r e with
     |true=>obs e.ob (qTj o e fun e=>qZ0 cx ops r (s.app o.dst e) K)
     |false=>False
    |none=>False
def q4A (o:Oper):List Nat:=o.after.toList.filterMap fun e=>match Region.binds .any e with
 |true=>some e.on
 |false=>none
def q50:List Oper→List (List Nat)→List (List Nat)
 |[],acc=>acc
 |o::r,acc=>q50 r (acc++[q84 ((q4A o)++(q4A o).flatMap fun i=>acc.getD i [])])
def qUS (l:List Operand):List Nat:=l.filterMap fun x=>match x with
 | .tmp t=>some t
 |_=>none
def qJ0:Op→List Operand
 | .pick c a b=>[c,a,b]
 |op=>q1L op
def q9N (ops:List Oper) (o:Oper):List Nat:=
 qUS (qJ0 o.op)++
 (match o.guard with
  |some (j,_)=>match(ops[j]?).bind (·.dst)with
   |some t=>[t]
   |none=>[]
  |none=>[])
def Blk.names:Blk→List Nat:=Blk.ids
def qDJ:List Nat→List Nat→Bool
 |[],_=>true
 |k::r,l=> !mem k l&&qDJ r l
def x2f (o:Oper):List Nat:=match o.dst with
 |some d=>[d]
 |none=>[]
def qK1 (nt:Nat) (o:Oper) (e:Ef):Bool:=e.names.all fun id=> !(Nat.beq (id/64) (qNb nt o+1))
def qHW (nt:Nat) (ops:List Oper) (a:Oper) (ea:Ef) (b:Oper) (eb:Ef):Bool:=
 qDJ (x2f a) (x2f b++q9N ops b)&&qDJ (x2f b) (q9N ops a)&&
 qDJ (ea.upd.map (·.1)) eb.touch&&qDJ (eb.upd.map (·.1)) ea.touch&&qK1 nt a eb&&qK1 nt b ea
def qAC (nt:Nat) (ops:List Oper) (o:Oper) (e:Ef) (cl:List Nat):List (Oper×Ef)→Nat→Bool
 |[],_=>true
 |(o',e')::r,j=>(mem j cl||qHW nt ops o e o' e')&&qAC nt ops o e cl r (j+1)
def q9w (nt:Nat) (ops:List Oper) (cls:List (List Nat)):List (Oper×Ef)→List (Oper×Ef)→Nat→Bool
 |_,[],_=>true
 |past,(o,e)::r,i=>qAC nt ops o e (cls.getD i []) past 0&&q9w nt ops cls (past++[(o,e)]) r (i+1)
def q7C:List Oper→Nat→Bool
 |[],_=>true
 |o::r,i=>(q4A o).all (fun j=>Nat.blt j i)&&q7C r (i+1)
def region (cx:Cx) (ops:List Oper) (draw:Bool) (s:AS) (K:AS→Prop):Prop:=
 qF5 cx ops ops (purge (q2l (q2x cx.nt ops)) s) [] fun s' es=>
  match draw with
  |false=>K (s'.only cx.keep)
  |true=>match q7C ops 0&&q9w cx.nt ops (q50 ops []) [] (ops.zip es.reverse) 0 with
   |true=>K (s'.only cx.keep)
   |false=>False
def qXS (cx:Cx) (ops:List Oper) (draw:Bool) (s:AS) (K:AS→Prop):Prop:=
 match draw with
 |true=>False
 |false=>qZ0 cx ops ops (purge (q2l (q2x cx.nt ops)) s) fun s'=>K (s'.only cx.keep)
def renId (a b:Nat) (s:AS):AS:=
 let f:=fun x=>match Nat.beq x a with
  |true=>b
  |false=>x
 {T:=s.T.map fun e=>(e.1,e.2.ren f)
  S:=s.S.map fun e=>(f e.1,e.2.ren f) }
def qKw (a b:Nat) (s:AS):AS:=match Nat.beq a b||Nat.blt a 64 with
 |true=>s
 |false=>renId a b (purge (fun x=>Nat.beq x b) s)
def q25 (t:Nat):Nat:=64*(t+500001)
def q2k (id i:Nat):Nat:=64*(1000000+id*64+i)
def x4t (t sz:Nat) (s:AS):AS:=
 match lk s.T t with
 |some (.osl id _)=>qKw id (q25 t) s
 |some .nil=>
  let s:=purge (fun x=>Nat.beq x (q25 t)) s
  {T:=put s.T t (.osl (q25 t) 0),S:=put s.S (q25 t) (.arr sz 0 (fun _=>.undef) q0l) }
 |_=>s
def x53 (id i sz:Nat) (s:AS):AS:=
 match lk s.S id with
 |some (.box cs)=>match cs[i]? with
  |some (.osl x _)=>qKw x (q2k id i) s
  |some .nil=>
   let s:=purge (fun x=>Nat.beq x (q2k id i)) s
   match lk s.S id with
   |some (.box cs)=>{ s with S:=put (put s.S id (.box (cs.set i (.osl (q2k id i) 0)))) (q2k id i) (.arr sz 0 (fun _=>.undef) q0l) }
   |_=>s
  |_=>s
 |_=>s
def qSe:List (Nat×Option Nat)→AS→AS
 |[],s=>s
 |(t,some sz)::r,s=>qSe r (x4t t sz s)
 |(_,none)::r,s=>qSe r s
def qQO (id:Nat):List (Nat×Nat)→AS→AS
 |[],s=>s
 |(i,sz)::r,s=>qQO id r (x53 id i sz s)
def qYQ:List (Nat×List (Nat×Nat))→AS→AS
 |[],s=>s
 |(id,l)::r,s=>qYQ r (qQO id l s)
def qN6 (T:List (Nat×V)):List (Nat×Option Nat)→List (Nat×V)
 |[]=>[]
 |(t,_)::r=>match lk T t with
  |some v=>(t,v)::qN6 T r
  |none=>qN6 T r
def qWi (l:LK):List Nat:=
 (l.ts.filterMap fun p=>match p.2 with
  |some _=>some (q25 p.1)
  |none=>none)++l.bs.flatMap fun p=>p.1::p.2.map fun q=>q2k p.1 q.1
def qNJ (S:List (Nat×Blk)):List Nat→List (Nat×Blk)
 |[]=>[]
 |id::r=>match lk S id with
  |some b=>(id,b)::qNJ S r
  |none=>qNJ S r
def qUH (l:LK) (s:AS):AS:=
 let s:=qYQ l.bs (qSe l.ts s)
 {T:=qN6 s.T l.ts,S:=qNJ s.S (qWi l) }
def q3b:Code→Nat
 | .region id _ _=>id
 | .seq a _=>q3b a
 | .block _ a=>q3b a
 | .loop a=>q3b a
 | .cond _ a _=>q3b a
 |_=>0
def x1O (cx:Cx) (c:Code) (s:AS):AS:=match lk cx.lks (q3b c)with
 |some l=>qUH l s
 |none=>s
def x3i (next:AS→Prop) (Q:Exit→AS→Prop):Exit→AS→Prop
 | .normal,s=>next s
 |e,s=>Q e s
def qR0 (id:Nat) (Q:Exit→AS→Prop):Exit→AS→Prop
 | .exit j,s=>match Nat.beq j id with
  |true=>Q .normal s
  |false=>Q (.exit j) s
 |e,s=>Q e s
def qKH (tt:TT) (s:AS):ResultVar→Option V
 | .tmp t=>some (q20 s (.tmp t))
 | .cell a t=>match lk tt t with
  |some ti=>match qBl s.S ti (q20 s (.tmp a))with
   |some ⟨v,_,_,[]⟩=>some v
   |_=>none
  |none=>none
def qYy (tt:TT) (s:AS):List ResultVar→Option (List V)
 |[]=>some []
 |x::r=>match qKH tt s x,qYy tt s r with
  |some v,some l=>some (v::l)
  |_,_=>none
def qRY (tt:TT) (s:AS) (rs:List ResultVar):Option V:=match qYy tt s rs with
 |some [v]=>some v
 |some l=>some (.tup l)
 |none=>none
def q4U (S:List (Nat×Blk)) (lim c:Nat):V→V
 | .osl id n=>match lk S id,Nat.ble 64 id with
  |some (.arr _ _ g te),true=>match Nat.ble lim te with
   |true=>.sl n g c
   |false=>.undef
  |_,_=>.undef
 | .oref id i off=>match lk S id,Nat.ble 64 id with
  |some (.arr _ _ g te),true=>match Nat.ble lim te with
   |true=>.ptr (g i).cells off c
   |false=>.undef
  |_,_=>.undef
 | .sl n g t=>match Nat.ble lim t with
  |true=>.sl n g c
  |false=>.undef
 | .ptr cs o t=>match Nat.ble lim t with
  |true=>.ptr cs o c
  |false=>.undef
 | .agg _=>.undef
 | .tup _=>.undef
 | .fn _ _=>.undef
 | .cnd _ _=>.undef
 | .omap _=>.undef
 | .oss _ _ _ _ _=>.undef
 |v=>v
def qNP (S:List (Nat×Blk)) (lim c:Nat):V→V
 | .oref id i off=>match lk S id,Nat.ble 64 id with
  |some (.box cs),true=>match i with
   |0=>.ptr (cs.map (q4U S lim c)) off c
   |_=>.undef
  |_,_=>q4U S lim c (.oref id i off)
 | .agg cs=>.agg (cs.map (q4U S lim c))
 | .fn f cs=>.fn f (cs.map (q4U S lim c))
 |v=>q4U S lim c v
def x9a (S:List (Nat×Blk)) (lim c:Nat):V→V
 | .tup vs=>.tup (vs.map (qNP S lim c))
 |v=>qNP S lim c v
def qD6 (pol:Nat) (s:AS) (r:V):V:=match pol with
 |0=>x9a s.S 0 0 r
 |_=>x9a s.S 2 2 r
def q95:List V→Nat→List (Nat×V)
 |[],_=>[]
 |v::r,i=>(i,v)::q95 r (i+1)
def qCu:List Blk→Nat→List (Nat×Blk)
 |[],_=>[]
 |b::r,i=>(i,b)::qCu r (i+1)
set_option linter.unusedVariables false
set_option linter.unusedSimpArgs false
inductive PRep (w:World) (A:Nat→Prop):V→Value→Prop where
 |int (k:IntKind) (n:Int):PRep w A (.int k n) (.int k n)
 |bool (b:Bool):PRep w A (.bool b) (.bool b)
 |str (s:ByteArray):PRep w A (.str s) (.string s)
 |nil (a:Option Addr):PRep w A .nil (.slice a 0 0)
 |sl0 (a:Option Addr) (cap:Nat) (g:Nat→V) (t:Nat):PRep w A (.sl 0 g t) (.slice a 0 cap)
 |sl {n:Nat} {g:Nat→V} {t b off cap sz:Nat} (cv:Nat→Nat→Value) (hA:A b) (hcap:n≤cap)
   (hsz:∀i,i<n→(g i).cells.length=sz)
   (hc:∀i j,i<n→j<sz→w.cell? ⟨b,off+i*sz+j,none⟩=some (cv i j))
   (hr:∀i j,i<n→j<sz→PRep w A ((g i).cells.getD j .undef) (cv i j)):
   PRep w A (.sl n g t) (.slice (some ⟨b,off,none⟩) n cap)
 |ptr {cs:List V} {off t b base:Nat} (cv:Nat→Value) (hA:A b)
   (hc:∀j,j<cs.length→w.cell? ⟨b,base+j,none⟩=some (cv j))
   (hr:∀j,j<cs.length→PRep w A (cs.getD j .undef) (cv j)):
   PRep w A (.ptr cs off t) (.pointer (some ⟨b,base+off,none⟩))
 |agg {cs:List V} (arr:Array Value) (hs:arr.size=cs.length)
   (hr:∀j,j<cs.length→PRep w A (cs.getD j .undef) (arr.getD j Go.undef)):PRep w A (.agg cs) (.agg arr)
 |tup {cs:List V} (arr:Array Value) (hs:arr.size=cs.length)
   (hr:∀j,j<cs.length→PRep w A (cs.getD j .undef) (arr.getD j Go.undef)):PRep w A (.tup cs) (.tuple arr)
 |fn {f:FuncId} {cs:List V} (arr:Array Value) (hs:arr.size=cs.length)
   (hr:∀j,j<cs.length→PRep w A (cs.getD j .undef) (arr.getD j Go.undef)):PRep w A (.fn f cs) (.func (.func f) #[] arr)
 |undef (x:Value):PRep w A .undef x
theorem PRep.mono {w w':World} {A A':Nat→Prop} {v:V} {x:Value} (h:PRep w A v x)
  (hA:∀b,A b→A' b∧w'.heap[b]?=w.heap[b]?):PRep w' A' v x:=by
 induction h with
 |int=>exact .int _ _
 |bool=>exact .bool _
 |str=>exact .str _
 |nil=>exact .nil _
 |sl0=>exact .sl0 _ _ _ _
 |sl cv hb hcap hsz hc _ ih=>
  exact .sl cv (hA _ hb).1 hcap hsz (fun i j hi hj=>by rw[World.cell?_of_block (w:=w) (hA _ hb).2];exact hc i j hi hj) ih
 |ptr cv hb hc _ ih=>
  exact .ptr cv (hA _ hb).1 (fun j hj=>by rw[World.cell?_of_block (w:=w) (hA _ hb).2];exact hc j hj) ih
 |agg arr hs _ ih=>exact .agg arr hs ih
 |tup arr hs _ ih=>exact .tup arr hs ih
 |fn arr hs _ ih=>exact .fn arr hs ih
 |undef=>exact .undef _
theorem PRep.weaken {w:World} {A A':Nat→Prop} {v:V} {x:Value} (h:PRep w A v x) (hA:∀b,A b→A' b):PRep w A' v x:=
 h.mono fun b hb=>⟨hA b hb,rfl⟩
abbrev q1K:=Nat→Option (Nat×Nat×Nat)
def isP:V→Bool
 | .osl _ _=>false
 | .oss _ _ _ _ _=>false
 | .oref _ _ _=>false
 | .omap _=>false
 | .agg _=>false
 | .tup _=>false
 | .fn _ _=>false
 | .cnd _ _=>false
 |_=>true
def qUo (v:V):Nat:=match q2D v with
 |some t=>t
 |none=>q0l
inductive q0e (w:World) (Fr:Nat→Nat→Prop) (ι:q1K):V→Value→Prop where
 |atom {v:V} {x:Value} (hv:isP v=true) (h:PRep w (Fr (qUo v)) v x):q0e w Fr ι v x
 |osl {id n b sz m cap c:Nat} {e:TypeId} (hi:ι id=some (b,sz,m)) (hn:n≤m) (hc:n≤cap)
   (hs:w.shape? b=some (e,c)) (hcs:cap*sz≤c):q0e w Fr ι (.osl id n) (.slice (some ⟨b,0,none⟩) n cap)
 |osl0 {id:Nat} (a:Option Addr) (hi:ι id=none):q0e w Fr ι (.osl id 0) (.slice a 0 0)
 |oss {id lo n cc b sz m cap c:Nat} {e:TypeId} {x:Bool} (hi:ι id=some (b,sz,m)) (hn:lo+n≤m) (hc:n≤cap) (hcc:cc≤cap) (hx:x=true→cc=cap)
   (hs:w.shape? b=some (e,c)) (hcs:(lo+cap)*sz≤c):q0e w Fr ι (.oss id lo n cc x) (.slice (some ⟨b,lo*sz,none⟩) n cap)
 |oss0 {id lo:Nat} {x:Bool} (a:Option Addr) (h0:lo=0→ι id=none):q0e w Fr ι (.oss id lo 0 0 x) (.slice a 0 0)
 |oref {id i off b sz m:Nat} (hi:ι id=some (b,sz,m)) (him:i<m):q0e w Fr ι (.oref id i off) (.pointer (some ⟨b,i*sz+off,none⟩))
 |omap {id b sz m:Nat} (hi:ι id=some (b,sz,m)):q0e w Fr ι (.omap id) (.map (some b))
 |agg {cs:List V} (arr:Array Value) (hs:arr.size=cs.length)
   (hr:∀j,j<cs.length→q0e w Fr ι (cs.getD j .undef) (arr.getD j Go.undef)):q0e w Fr ι (.agg cs) (.agg arr)
 |tup {cs:List V} (arr:Array Value) (hs:arr.size=cs.length)
   (hr:∀j,j<cs.length→q0e w Fr ι (cs.getD j .undef) (arr.getD j Go.undef)):q0e w Fr ι (.tup cs) (.tuple arr)
 |fn {f:FuncId} {cs:List V} (arr:Array Value) (hs:arr.size=cs.length)
   (hr:∀j,j<cs.length→q0e w Fr ι (cs.getD j .undef) (arr.getD j Go.undef)):q0e w Fr ι (.fn f cs) (.func (.func f) #[] arr)
 |cnd {c:Bool} {v:V} {x:Value} (ht:c=true→q0e w Fr ι v x) (hf:c=false→x=Go.undef):q0e w Fr ι (.cnd c v) x
theorem q6B {p:Nat→Bool}:∀{cs:List V} {j:Nat},V.mentL p cs=false→j<cs.length→V.ment p (cs.getD j .undef)=false
 |[],_,_,h=>by simp at h
 |c::cs,0,h,_=>by simp[V.mentL]at h;simpa using h.1
 |c::cs,j+1,h,hj=>by
  simp[V.mentL]at h;have:=q6B (cs:=cs) (j:=j) (by simpa using h.2) (by simpa using hj);simpa using this
theorem q0e.mono {w w':World} {Fr Fr':Nat→Nat→Prop} {ι ι':q1K} {p:Nat→Bool} {v:V} {x:Value} (h:q0e w Fr ι v x)
  (hF:∀t b,Fr t b→Fr' t b∧w'.heap[b]?=w.heap[b]?) (hι:∀id,p id=false→ι' id=ι id) (hm:V.ment p v=false)
  (hsh:∀id r e,p id=false→ι id=some r→w.shape? r.1=some e→w'.shape? r.1=some e):q0e w' Fr' ι' v x:=by
 induction h with
 |atom hv hp=>exact .atom hv (hp.mono fun b hb=>hF _ b hb)
 |osl hi hn hc hs hcs=>
  have hp:=hm;simp only[V.ment]at hp;exact .osl (by rw[hι _ hp];exact hi) hn hc (hsh _ _ _ hp hi hs) hcs
 |osl0 a hi=>
  have hp:=hm;simp only[V.ment]at hp;exact .osl0 a (by rw[hι _ hp];exact hi)
 |oss hi hn hc hcc hx hs hcs=>
  have hp:=hm;simp only[V.ment]at hp;exact .oss (by rw[hι _ hp];exact hi) hn hc hcc hx (hsh _ _ _ hp hi hs) hcs
 |oss0 a h0=>
  have hp:=hm;simp only[V.ment]at hp;exact .oss0 a fun e=>by rw[hι _ hp];exact h0 e
 |omap hi=>
  have hp:=hm;simp only[V.ment]at hp;exact .omap (by rw[hι _ hp];exact hi)
 |oref hi him=>
  have hp:=hm;simp only[V.ment]at hp;exact .oref (by rw[hι _ hp];exact hi) him
 |agg arr hs _ ih=>exact .agg arr hs fun j hj=>ih j hj (q6B (by simpa[V.ment]using hm) hj)
 |tup arr hs _ ih=>exact .tup arr hs fun j hj=>ih j hj (q6B (by simpa[V.ment]using hm) hj)
 |fn arr hs _ ih=>exact .fn arr hs fun j hj=>ih j hj (q6B (by simpa[V.ment]using hm) hj)
 |cnd _ hf ih=>exact .cnd (fun hc=>ih hc (by simpa[V.ment]using hm)) hf
mutual
theorem ment_false:∀v:V,V.ment (fun _=>false) v=false
 | .osl _ _=>rfl
 | .oss _ _ _ _ _=>rfl
 | .oref _ _ _=>rfl
 | .omap _=>rfl
 | .agg cs=>q6I cs
 | .tup cs=>q6I cs
 | .fn _ cs=>q6I cs
 | .cnd _ v=>ment_false v
 | .int _ _=>rfl
 | .bool _=>rfl
 | .str _=>rfl
 | .nil=>rfl
 | .sl _ _ _=>rfl
 | .ptr _ _ _=>rfl
 | .undef=>rfl
theorem q6I:∀l:List V,V.mentL (fun _=>false) l=false
 |[]=>rfl
 |v::r=>by simp[V.mentL,ment_false v,q6I r]
end
theorem q0e.world {w w':World} {Fr Fr':Nat→Nat→Prop} {ι:q1K} {v:V} {x:Value} (h:q0e w Fr ι v x)
  (hF:∀t b,Fr t b→Fr' t b∧w'.heap[b]?=w.heap[b]?) (hsh:∀b e,w.shape? b=some e→w'.shape? b=some e):q0e w' Fr' ι v x:=
 h.mono (p:=fun _=>false) hF (fun _ _=>rfl) (ment_false v) fun _ r e _ _ hs=>hsh r.1 e hs
def qBq:List MapEntry→Int→Option Value
 |[],_=>none
 |e::es,k=>match e.key with
  | .int .i64 k'=>if k=k' then some e.val else qBq es k
  |_=>qBq es k
def qAT (w:World) (Fr:Nat→Nat→Prop) (ι:q1K) (b sz m:Nat):Blk→Prop
 | .arr sz' n g te=>sz'=sz∧n=m∧∃cells e,w.heap[b]?=some (.cells cells e (0,0))∧n*sz≤cells.size∧
   (∀i,i<n→(g i).cells.length=sz)∧
   ∀i j,i<n→j<sz→PRep w (Fr te) ((g i).cells.getD j .undef) (cells.getD (i*sz+j) Go.undef)
 | .box cs=>∃cells e,w.heap[b]?=some (.cells cells e (0,0))∧cells.size=cs.length∧
   ∀j,j<cs.length→q0e w Fr ι (cs.getD j .undef) (cells.getD j Go.undef)
 | .mp z f h=>∃es clock,w.heap[b]?=some (.map es clock)∧(∀e∈es.toList,∃k:Int,e.key=.int .i64 k)∧
   ∀k,match qBq es.toList k with
    |some x=>h k=true∧PRep w (fun _=>False) (f k) x
    |none=>h k=false∧f k=z
theorem qAT.mono {w w':World} {Fr Fr':Nat→Nat→Prop} {ι ι':q1K} {p:Nat→Bool} {b sz m:Nat} {blk:Blk} (h:qAT w Fr ι b sz m blk)
  (hb:w'.heap[b]?=w.heap[b]?) (hF:∀t b,Fr t b→Fr' t b∧w'.heap[b]?=w.heap[b]?) (hι:∀id,p id=false→ι' id=ι id)
  (hm:blk.ment p=false) (hsh:∀id r e,p id=false→ι id=some r→w.shape? r.1=some e→w'.shape? r.1=some e):qAT w' Fr' ι' b sz m blk:=by
 cases blk with
 |arr sz' n g te=>
  obtain⟨h1,h2,cells,e,hh,hsz,hg,hr⟩:=h;exact⟨h1,h2,cells,e,hb.trans hh,hsz,hg,fun i j hi hj=>(hr i j hi hj).mono fun b hb=>hF _ b hb⟩
 |box cs=>
  obtain⟨cells,e,hh,hsz,hr⟩:=h;exact⟨cells,e,hb.trans hh,hsz,fun j hj=>(hr j hj).mono hF hι (q6B (by simpa[Blk.ment]using hm) hj) hsh⟩
 |mp z f hm'=>
  obtain⟨es,c,hh,hk,hr⟩:=h;refine⟨es,c,hb.trans hh,hk,fun k=>?_⟩;have:=hr k;split at this
  ·exact⟨this.1,this.2.mono fun b hb=>absurd hb id⟩
  ·exact this
theorem qAT.mapTo {w w':World} {Fr Fr':Nat→Nat→Prop} {ι ι':q1K} {b sz m sz' m':Nat} {z:V} {f:Int→V} {hh:Int→Bool} (h:qAT w Fr ι b sz m (.mp z f hh))
  (hb:w'.heap[b]?=w.heap[b]?):qAT w' Fr' ι' b sz' m' (.mp z f hh):=by
 obtain⟨es,c,h1,hk,hr⟩:=h;refine⟨es,c,hb.trans h1,hk,fun k=>?_⟩;have:=hr k;split at this
 ·exact⟨this.1,this.2.mono fun b hb=>absurd hb id⟩
 ·exact this
theorem Blk.ment_false (b:Blk):b.ment (fun _=>false)=false:=by
 cases b with
 |arr=>rfl
 |box cs=>exact q6I cs
 |mp=>rfl
structure G where
 w0:World
 X0:Nat→Prop
 io:Nat→Prop
 nt:Nat
 ι0:q1K
 mv:Nat→Prop
def G.New (g:G) (b:Nat):Prop:=g.w0.heap.size≤b∨g.mv b
structure Rel (g:G) (s:AS) (a:Act) (w:World) (ι:q1K) (Fr:Nat→Nat→Prop):Prop where
 defers:a.defers=[]
 size:a.tmps.size=g.nt
 tmp:∀t v,lk s.T t=some v→q0e w Fr ι v (a.tmps.getD t Go.undef)
 own:∀id blk b sz m,lk s.S id=some blk→ι id=some (b,sz,m)→qAT w Fr ι b sz m blk∧(g.New b∨(g.io b∧id<64))
 nob:∀id blk,lk s.S id=some blk→ι id=none→∃sz h te,blk=.arr sz 0 h te
 inj:∀id id' blk blk' r r',lk s.S id=some blk→lk s.S id'=some blk'→ι id=some r→ι id'=some r'→r.1=r'.1→id=id'
 fr:∀t b,Fr t b→b<w.heap.size∧¬g.X0 b∧∀id blk r,lk s.S id=some blk→ι id=some r→r.1≠b
 frS:∀b,¬Fr q0l b
 fr0:∀t b,Fr t b→Fr 0 b
 fr2:∀t b,2≤t→Fr t b→g.New b
 fr1:∀b,Fr 1 b→¬g.New b
 cl:∀t b,2≤t→Fr t b→∃arr e,w.heap[b]?=some (.cells arr e (0,0))
 low:∀id,id<64→ι id=g.ι0 id
 x0:∀b,g.X0 b→b<g.w0.heap.size∧¬g.io b
 io0:∀b,g.io b→b<g.w0.heap.size
 mvio:∀b,g.mv b→g.io b
 os:w.os=g.w0.os
 tape:w.tape=g.w0.tape
 output:w.output=g.w0.output
 hsize:g.w0.heap.size≤w.heap.size
 frame:∀b,b<g.w0.heap.size→¬g.io b→w.heap[b]?=g.w0.heap[b]?
 shape:∀b e,g.w0.shape? b=some e→w.shape? b=some e
theorem Rel.newX {g:G} {s:AS} {a:Act} {w:World} {ι:q1K} {Fr:Nat→Nat→Prop} (h:Rel g s a w ι Fr) {b:Nat} (hn:g.New b):¬g.X0 b:=fun hx=>by
 obtain⟨h1,h2⟩:=h.x0 b hx;rcases hn with h3|h3
 ·omega
 ·exact h2 (h.mvio b h3)
theorem Rel.congr {g:G} {s s':AS} {a:Act} {w:World} {ι:q1K} {Fr:Nat→Nat→Prop} (h:Rel g s a w ι Fr)
  (hT:∀t,lk s'.T t=lk s.T t) (hS:∀id,lk s'.S id=lk s.S id):Rel g s' a w ι Fr:=
 {h with
  tmp:=fun t v ht=>h.tmp t v (by rw[←hT];exact ht)
  own:=fun id blk b sz m hl=>h.own id blk b sz m (by rw[←hS];exact hl)
  nob:=fun id blk hl=>h.nob id blk (by rw[←hS];exact hl)
  inj:=fun id id' blk blk' r r' h1 h2=>h.inj id id' blk blk' r r' (by rw[←hS];exact h1) (by rw[←hS];exact h2)
  fr:=fun t b hb=>⟨(h.fr t b hb).1,(h.fr t b hb).2.1,fun id blk r hl=>(h.fr t b hb).2.2 id blk r (by rw[←hS];exact hl)⟩ }
theorem Rel.less {g:G} {s s':AS} {a:Act} {w:World} {ι:q1K} {Fr:Nat→Nat→Prop} (h:Rel g s a w ι Fr)
  (hT:∀t v,lk s'.T t=some v→lk s.T t=some v) (hS:∀id b,lk s'.S id=some b→lk s.S id=some b):Rel g s' a w ι Fr:=
 {h with
  tmp:=fun t v ht=>h.tmp t v (hT _ _ ht)
  own:=fun id blk b sz m hl=>h.own id blk b sz m (hS _ _ hl)
  nob:=fun id blk hl=>h.nob id blk (hS _ _ hl)
  inj:=fun id id' blk blk' r r' h1 h2=>h.inj id id' blk blk' r r' (hS _ _ h1) (hS _ _ h2)
  fr:=fun t b hb=>⟨(h.fr t b hb).1,(h.fr t b hb).2.1,fun id blk r hl=>(h.fr t b hb).2.2 id blk r (hS _ _ hl)⟩ }
theorem q0y {a b:Nat}:Nat.beq a b=true↔a=b:=by
 constructor
 ·exact Nat.eq_of_beq_eq_true
 ·rintro rfl;exact Nat.beq_refl a
theorem q1N {a b:Nat}:Nat.beq a b=false↔a≠b:=by
 rw[←Bool.not_eq_true,q0y]
theorem q7y {α:Type} (l:List (Nat×α)) (n m:Nat):lk (del l n) m=if m=n then none else lk l m:=by
 induction l with
 |nil=>simp[del,lk]
 |cons p r ih=>
  obtain⟨k,x⟩:=p;cases hk:Nat.beq k n with
  |true=>
   have:=q0y.1 hk;subst this;simp only[del,hk,ih];by_cases hm:m=k
   ·simp[hm]
   ·simp only[hm,if_false,lk];rw[q1N.2 (fun h=>hm h.symm)]
  |false=>
   have hkn:=q1N.1 hk;simp only[del,hk,lk];cases hkm:Nat.beq k m with
   |true=>
    have:=q0y.1 hkm;subst this;simp[hkn]
   |false=>simp only[ih]
theorem q1i {α:Type} (l:List (Nat×α)) (n m:Nat) (x:α):lk (put l n x) m=if m=n then some x else lk l m:=by
 unfold put;simp only[lk];cases hk:Nat.beq n m with
 |true=>have:=q0y.1 hk;subst this;simp
 |false=>
  have:=q1N.1 hk;simp only[q7y];have h:m≠n:=fun h=>this h.symm;simp[h]
theorem q6K {n:Nat}:∀{l:List Nat},mem n l=true↔n∈l
 |[]=>by simp[mem]
 |k::r=>by
  simp only[mem,Bool.or_eq_true,q0y,q6K,List.mem_cons];constructor
  ·rintro(h|h)
   ·exact .inl h.symm
   ·exact .inr h
  ·rintro(h|h)
   ·exact .inl h.symm
   ·exact .inr h
theorem qAJ {n:Nat} {l:List Nat}:mem n l=false↔n∉l:=by
 rw[←Bool.not_eq_true,q6K]
theorem qIe {α β:Type} (f:α→β):∀(l:List (Nat×α)) (n:Nat),lk (l.map fun e=>(e.1,f e.2)) n=(lk l n).map f
 |[],_=>rfl
 |(k,x)::r,n=>by
  simp only[List.map,lk];cases Nat.beq k n with
  |true=>rfl
  |false=>exact qIe f r n
theorem q9t {α:Type} (q:Nat→Bool):∀(l:List (Nat×α)) (n:Nat),lk (l.filter fun e=>q e.1) n=if q n then lk l n else none
 |[],n=>by simp[lk]
 |(k,x)::r,n=>by
  have ih:=q9t q r n;cases hk:Nat.beq k n with
  |true=>
   have hkn:=q0y.1 hk;subst hkn;cases hq:q k with
   |true=>simp[List.filter,hq,lk,hk]
   |false=>simp[List.filter,hq,lk]at ih⊢;exact ih
  |false=>
   cases hq:q k with
   |true=>simp only[List.filter,hq,lk,hk];exact ih
   |false=>simp only[List.filter,hq,lk,hk];exact ih
def q9U (ι:q1K) (id:Nat) (r:Option (Nat×Nat×Nat)):q1K:=fun k=>if k=id then r else ι k
theorem qFf {α:Type} (a:Array α) (d t:Nat) (x y:α) (hd:d<a.size):(a.setIfInBounds d x).getD t y=if t=d then x else a.getD t y:=by
 by_cases h:t=d
 ·subst h;simp[hd]
 ·have:d≠t:=fun e=>h e.symm;simp[h,Array.getElem?_setIfInBounds_ne this]
theorem Rel.put {g:G} {s:AS} {a:Act} {w:World} {ι:q1K} {Fr:Nat→Nat→Prop} (h:Rel g s a w ι Fr) {d:Nat} {v:V} {x:Value}
  (hd:d<g.nt) (hv:q0e w Fr ι v x):Rel g { s with T:=put s.T d v } (a.put (some d) x) w ι Fr:=
 {h with
  defers:=h.defers
  size:=by simp[Act.put,h.size]
  tmp:=fun t u ht=>by
   simp only[q1i]at ht;simp only[Act.put];rw[qFf _ _ _ _ _ (by rw[h.size];exact hd)];by_cases e:t=d
   ·simp only[e,if_true]at ht⊢;rw[←Option.some.inj ht];exact hv
   ·simp only[e,if_false]at ht⊢;exact h.tmp t u ht }
theorem Rel.grow {g:G} {s:AS} {a:Act} {w w':World} {ι:q1K} {Fr:Nat→Nat→Prop} (h:Rel g s a w ι Fr)
  (hos:w'.os=w.os) (ht:w'.tape=w.tape) (ho:w'.output=w.output) (hsz:w.heap.size≤w'.heap.size)
  (hb:∀b,b<w.heap.size→w'.heap[b]?=w.heap[b]?):Rel g s a w' ι Fr:=by
 have hsh:∀b e,w.shape? b=some e→w'.shape? b=some e:=by
  intro b e he;have hlt:b<w.heap.size:=by
   rcases Nat.lt_or_ge b w.heap.size with h'|h'
   ·exact h'
   ·simp[World.shape?,Array.getElem?_eq_none h']at he
  unfold World.shape? at he⊢;rw[hb b hlt];exact he
 have hF:∀t b,Fr t b→Fr t b∧w'.heap[b]?=w.heap[b]?:=fun t b hf=>⟨hf,hb b (h.fr t b hf).1⟩;exact
  {h with
   tmp:=fun t v hv=>(h.tmp t v hv).world hF hsh
   own:=fun id blk b sz m hl hi=>by
    obtain⟨h1,h2⟩:=h.own id blk b sz m hl hi;have hlt:b<w.heap.size:=by
     rcases Nat.lt_or_ge b w.heap.size with h'|h'
     ·exact h'
     ·cases blk with
      |arr=>obtain⟨_,_,c,e,hh,_⟩:=h1;simp[Array.getElem?_eq_none h']at hh
      |box=>obtain⟨c,e,hh,_⟩:=h1;simp[Array.getElem?_eq_none h']at hh
      |mp=>obtain⟨c,e,hh,_⟩:=h1;simp[Array.getElem?_eq_none h']at hh
    exact⟨h1.mono (p:=fun _=>false) (hb b hlt) hF (fun _ _=>rfl) (Blk.ment_false blk) (fun _ r e _ _ hs=>hsh r.1 e hs),h2⟩
   fr:=fun t b hf=>⟨Nat.lt_of_lt_of_le (h.fr t b hf).1 hsz,(h.fr t b hf).2⟩
   cl:=fun t b h2 hf=>by rw[(hF t b hf).2];exact h.cl t b h2 hf
   os:=hos.trans h.os
   tape:=ht.trans h.tape
   output:=ho.trans h.output
   hsize:=Nat.le_trans h.hsize hsz
   frame:=fun b hlt hio=>(hb b (Nat.lt_of_lt_of_le hlt h.hsize)).trans (h.frame b hlt hio)
   shape:=fun b e he=>hsh b e (h.shape b e he) }
theorem qAT.lt {w:World} {Fr:Nat→Nat→Prop} {ι:q1K} {b sz m:Nat} {blk:Blk} (h:qAT w Fr ι b sz m blk):b<w.heap.size:=by
 rcases Nat.lt_or_ge b w.heap.size with h'|h'
 ·exact h'
 ·cases blk with
  |arr=>obtain⟨_,_,c,e,hh,_⟩:=h;simp[Array.getElem?_eq_none h']at hh
  |box=>obtain⟨c,e,hh,_⟩:=h;simp[Array.getElem?_eq_none h']at hh
  |mp=>obtain⟨c,e,hh,_⟩:=h;simp[Array.getElem?_eq_none h']at hh
def isC:Blk→Bool
 | .mp _ _ _=>false
 |_=>true
theorem qAT.cl {w:World} {Fr:Nat→Nat→Prop} {ι:q1K} {b sz m:Nat} {blk:Blk} (h:qAT w Fr ι b sz m blk) (hc:isC blk=true):∃arr e,w.heap[b]?=some (.cells arr e (0,0)):=by
 cases blk with
 |mp=>simp[isC]at hc
 |arr=>obtain⟨_,_,c,e,hh,_⟩:=h;exact⟨c,e,hh⟩
 |box cs=>obtain⟨c,e,hh,_⟩:=h;exact⟨c,e,hh⟩
structure q17 (s:AS) (id:Nat):Prop where
 ge:64≤id
 no:lk s.S id=none
 T:∀t v,lk s.T t=some v→V.ment (fun k=>Nat.beq k id) v=false
 S:∀k blk,lk s.S k=some blk→blk.ment (fun k=>Nat.beq k id)=false
theorem q3e {ι:q1K} {id k:Nat} {r:Option (Nat×Nat×Nat)} (h:Nat.beq k id=false):q9U ι id r k=ι k:=by
 simp[q9U,q1N.1 h]
theorem Rel.addBlk {g:G} {s:AS} {a:Act} {w:World} {ι:q1K} {Fr:Nat→Nat→Prop} (h:Rel g s a w ι Fr) {id:Nat} (hf:q17 s id)
  {b sz m:Nat} {blk:Blk} (hown:qAT w Fr (q9U ι id (some (b,sz,m))) b sz m blk) (hb:g.New b)
  (hFr:∀t,¬Fr t b) (hno:∀k c r,lk s.S k=some c→ι k=some r→r.1≠b):
  Rel g { s with S:=Go.Av.put s.S id blk } a w (q9U ι id (some (b,sz,m))) Fr:=by
 have hF:∀t b,Fr t b→Fr t b∧w.heap[b]?=w.heap[b]?:=fun t b hf=>⟨hf,rfl⟩;refine
  {h with
   tmp:=fun t v hv=>(h.tmp t v hv).mono (p:=fun k=>Nat.beq k id) hF (fun k hk=>q3e hk) (hf.T t v hv) (fun _ _ _ _ _ hs=>hs)
   low:=fun k hk=>by rw[q3e (q1N.2 (by have:=hf.ge;omega))];exact h.low k hk
   own:=?_,nob:=?_,inj:=?_,fr:=?_ }
 ·intro k c b' sz' m' hl hi;simp only[q1i]at hl;by_cases e:k=id
  ·subst e;simp only[if_true,Option.some.injEq]at hl;simp only[q9U,if_true,Option.some.injEq,Prod.mk.injEq]at hi;obtain⟨rfl,rfl,rfl⟩:=hi;subst hl;exact⟨hown,.inl hb⟩
  ·simp only[e,if_false]at hl;rw[q3e (q1N.2 e)]at hi;obtain⟨h1,h2⟩:=h.own k c b' sz' m' hl hi;exact⟨h1.mono (p:=fun k=>Nat.beq k id) rfl hF (fun k hk=>q3e hk) (hf.S k c hl) (fun _ _ _ _ _ hs=>hs),h2⟩
 ·intro k c hl hi;simp only[q1i]at hl;by_cases e:k=id
  ·subst e;simp[q9U]at hi
  ·simp only[e,if_false]at hl;rw[q3e (q1N.2 e)]at hi;exact h.nob k c hl hi
 ·intro k k' c c' r r' h1 h2 h3 h4 h5;simp only[q1i]at h1 h2;by_cases e:k=id<;>by_cases e':k'=id
  ·rw[e,e']
  ·subst e;simp only[e',if_false]at h2;rw[q3e (q1N.2 e')]at h4;simp only[q9U,if_true,Option.some.injEq]at h3;subst h3;exact absurd h5.symm (hno k' c' r' h2 h4)
  ·subst e';simp only[e,if_false]at h1;rw[q3e (q1N.2 e)]at h3;simp only[q9U,if_true,Option.some.injEq]at h4;subst h4;exact absurd h5 (hno k c r h1 h3)
  ·simp only[e,e',if_false]at h1 h2;rw[q3e (q1N.2 e)]at h3;rw[q3e (q1N.2 e')]at h4;exact h.inj k k' c c' r r' h1 h2 h3 h4 h5
 ·intro t b' hfb;refine⟨(h.fr t b' hfb).1,(h.fr t b' hfb).2.1,?_⟩;intro k c r hl hi;simp only[q1i]at hl;by_cases e:k=id
  ·subst e;simp only[q9U,if_true,Option.some.injEq]at hi;subst hi;rintro rfl;exact hFr t hfb
  ·simp only[e,if_false]at hl;rw[q3e (q1N.2 e)]at hi;exact(h.fr t b' hfb).2.2 k c r hl hi
theorem Rel.addNil {g:G} {s:AS} {a:Act} {w:World} {ι:q1K} {Fr:Nat→Nat→Prop} (h:Rel g s a w ι Fr) {id:Nat} (hf:q17 s id)
  {sz te:Nat} {f:Nat→V}:Rel g { s with S:=Go.Av.put s.S id (.arr sz 0 f te) } a w (q9U ι id none) Fr:=by
 have hF:∀t b,Fr t b→Fr t b∧w.heap[b]?=w.heap[b]?:=fun t b hf=>⟨hf,rfl⟩;refine
  {h with
   tmp:=fun t v hv=>(h.tmp t v hv).mono (p:=fun k=>Nat.beq k id) hF (fun k hk=>q3e hk) (hf.T t v hv) (fun _ _ _ _ _ hs=>hs)
   low:=fun k hk=>by rw[q3e (q1N.2 (by have:=hf.ge;omega))];exact h.low k hk
   own:=?_,nob:=?_,inj:=?_,fr:=?_ }
 ·intro k c b' sz' m' hl hi;simp only[q1i]at hl;by_cases e:k=id
  ·subst e;simp[q9U]at hi
  ·simp only[e,if_false]at hl;rw[q3e (q1N.2 e)]at hi;obtain⟨h1,h2⟩:=h.own k c b' sz' m' hl hi;exact⟨h1.mono (p:=fun k=>Nat.beq k id) rfl hF (fun k hk=>q3e hk) (hf.S k c hl) (fun _ _ _ _ _ hs=>hs),h2⟩
 ·intro k c hl hi;simp only[q1i]at hl;by_cases e:k=id
  ·subst e;simp only[if_true,Option.some.injEq]at hl;exact⟨sz,f,te,hl.symm⟩
  ·simp only[e,if_false]at hl;rw[q3e (q1N.2 e)]at hi;exact h.nob k c hl hi
 ·intro k k' c c' r r' h1 h2 h3 h4 h5;simp only[q1i]at h1 h2;by_cases e:k=id
  ·subst e;simp[q9U]at h3
  ·by_cases e':k'=id
   ·subst e';simp[q9U]at h4
   ·simp only[e,e',if_false]at h1 h2;rw[q3e (q1N.2 e)]at h3;rw[q3e (q1N.2 e')]at h4;exact h.inj k k' c c' r r' h1 h2 h3 h4 h5
 ·intro t b' hfb;refine⟨(h.fr t b' hfb).1,(h.fr t b' hfb).2.1,?_⟩;intro k c r hl hi;simp only[q1i]at hl;by_cases e:k=id
  ·subst e;simp[q9U]at hi
  ·simp only[e,if_false]at hl;rw[q3e (q1N.2 e)]at hi;exact(h.fr t b' hfb).2.2 k c r hl hi
theorem Rel.drop {g:G} {s:AS} {a:Act} {w:World} {ι:q1K} {Fr:Nat→Nat→Prop} (h:Rel g s a w ι Fr) (id:Nat):Rel g { s with S:=del s.S id } a w ι Fr:=
 h.less (fun _ _ h=>h) fun k b hl=>by
  simp only[q7y]at hl;by_cases e:k=id<;>simp[e]at hl;simpa[e]using hl
theorem q2b:∀(ids:List Nat) (S:List (Nat×Blk)) (k:Nat),lk (q0Y S (ids.map fun id=>(id,none))) k=if k∈ids then none else lk S k
 |[],S,k=>by simp[q0Y]
 |id::r,S,k=>by
  simp only[List.map,q0Y];rw[q2b r,q7y];by_cases h1:k∈r<;>by_cases h2:k=id<;>simp[h1,h2]
def FrK (Fr:Nat→Nat→Prop) (S:List (Nat×Blk)) (ι:q1K) (ids:List Nat) (te:Nat):Nat→Nat→Prop:=fun t b=>
 Fr t b∨((t=te∨t=0)∧∃id∈ids,∃blk r,lk S id=some blk∧ι id=some r∧r.1=b∧isC blk=true)∨(t=te∧2≤te∧te≠q0l∧∃t',2≤t'∧Fr t' b)
theorem Rel.freezeL {g:G} {s:AS} {a:Act} {w:World} {ι:q1K} {Fr:Nat→Nat→Prop} (h:Rel g s a w ι Fr) (te:Nat) (ids:List Nat)
  (ht:(te≠q0l∧te≠1)∨ids=[]) (h64:∀id∈ids,64≤id):
  Rel g { s with S:=q0Y s.S (ids.map fun id=>(id,none)) } a w ι (FrK Fr s.S ι ids te):=by
 have hF:∀t b,Fr t b→FrK Fr s.S ι ids te t b∧w.heap[b]?=w.heap[b]?:=fun t b hf=>⟨.inl hf,rfl⟩;have hS:∀k blk,lk (q0Y s.S (ids.map fun id=>(id,none))) k=some blk→k∉ids∧lk s.S k=some blk:=by
  intro k blk hk;rw[q2b]at hk;by_cases e:k∈ids
  ·simp[e]at hk
  ·simp only[e,if_false]at hk;exact⟨e,hk⟩
 have hmine:∀id∈ids,∀blk r,lk s.S id=some blk→ι id=some r→g.New r.1∧r.1<w.heap.size:=by
  intro id hid blk r hl hi;obtain⟨b,sz,m⟩:=r;obtain⟨h1,h2⟩:=h.own id blk b sz m hl hi;rcases h2 with h2|⟨_,h2⟩
  ·exact⟨h2,h1.lt⟩
  ·have:=h64 id hid;omega
 refine
  {h with
   tmp:=fun t v hv=>(h.tmp t v hv).world hF (fun _ _ hs=>hs)
   own:=fun id blk b sz m hl hi=>⟨(h.own id blk b sz m (hS _ _ hl).2 hi).1.mono (p:=fun _=>false) rfl hF (fun _ _=>rfl) (Blk.ment_false blk) (fun _ _ _ _ _ hs=>hs),(h.own id blk b sz m (hS _ _ hl).2 hi).2⟩
   nob:=fun id blk hl=>h.nob id blk (hS _ _ hl).2
   inj:=fun id id' blk blk' r r' h1 h2=>h.inj id id' blk blk' r r' (hS _ _ h1).2 (hS _ _ h2).2
   fr:=?_,frS:=?_,fr0:=?_,fr2:=?_,fr1:=?_,cl:=?_ }
 ·rintro t b (hf|⟨_,id,hid,blk,r,hl,hi,rfl,hcc⟩|⟨_,_,_,t',_,hf⟩)
  ·exact⟨(h.fr t b hf).1,(h.fr t b hf).2.1,fun id blk r hl=>(h.fr t b hf).2.2 id blk r (hS _ _ hl).2⟩
  rotate_left
  ·exact⟨(h.fr t' b hf).1,(h.fr t' b hf).2.1,fun id blk r hl=>(h.fr t' b hf).2.2 id blk r (hS _ _ hl).2⟩
  ·obtain⟨h1,h2⟩:=hmine id hid blk r hl hi;refine⟨h2,fun hx=>h.newX h1 hx,fun k c r' hl' hi' e=>?_⟩
   ·have:=h.inj k id c blk r' r (hS _ _ hl').2 hl hi' hi e;exact(hS _ _ hl').1 (this▸hid)
 ·rintro b (hf|⟨e,id,hid,_⟩|⟨e,_,h7,_⟩)
  ·exact h.frS b hf
  rotate_left
  ·exact h7 e.symm
  ·rcases ht with⟨ht,_⟩|rfl
   ·rcases e with e|e
    ·exact ht e.symm
    ·exact absurd e (by decide)
   ·cases hid
 ·rintro t b (hf|⟨_,hid⟩|⟨_,_,_,t',_,hf⟩)
  ·exact .inl (h.fr0 t b hf)
  ·exact .inr (.inl ⟨.inr rfl,hid⟩)
  ·exact .inl (h.fr0 t' b hf)
 ·rintro t b h2' (hf|⟨_,id,hid,blk,r,hl,hi,rfl,hcc⟩|⟨_,_,_,t',h8,hf⟩)
  ·exact h.fr2 t b h2' hf
  ·exact(hmine id hid blk r hl hi).1
  ·exact h.fr2 t' b h8 hf
 ·rintro b (hf|⟨e,id,hid,_⟩|⟨e,h7,_⟩)
  ·exact h.fr1 b hf
  ·rcases ht with⟨_,ht⟩|rfl
   ·rcases e with e|e
    ·exact absurd e.symm ht
    ·exact absurd e (by decide)
   ·cases hid
  ·omega
 ·rintro t b h2' (hf|⟨_,id,hid,blk,r,hl,hi,rfl,hcc⟩|⟨_,_,_,t',h8,hf⟩)
  ·exact h.cl t b h2' hf
  ·exact(h.own id blk r.1 r.2.1 r.2.2 hl hi).1.cl hcc
  ·exact h.cl t' b h8 hf
theorem Rel.setOwn {g:G} {s:AS} {a:Act} {w w':World} {ι:q1K} {Fr:Nat→Nat→Prop} (h:Rel g s a w ι Fr) {id b sz m:Nat} {old new:Blk}
  (hl:lk s.S id=some old) (hi:ι id=some (b,sz,m)) (hos:w'.os=w.os) (ht:w'.tape=w.tape) (ho:w'.output=w.output) (hsz:w'.heap.size=w.heap.size)
  (hb:∀k,k≠b→w'.heap[k]?=w.heap[k]?) (hsh:∀k e,w.shape? k=some e→w'.shape? k=some e) (hnew:qAT w' Fr ι b sz m new):
  Rel g { s with S:=Go.Av.put s.S id new } a w' ι Fr:=by
 have hF:∀t k,Fr t k→Fr t k∧w'.heap[k]?=w.heap[k]?:=fun t k hf=>⟨hf,hb k fun e=>(h.fr t k hf).2.2 id old _ hl hi e.symm⟩;refine
  {h with
   tmp:=fun t v hv=>(h.tmp t v hv).world hF hsh
   own:=?_,nob:=?_,inj:=?_,fr:=?_
   cl:=fun t k h2 hf=>by rw[(hF t k hf).2];exact h.cl t k h2 hf
   os:=hos.trans h.os,tape:=ht.trans h.tape,output:=ho.trans h.output,hsize:=by rw[hsz];exact h.hsize
   frame:=?_,shape:=fun k e he=>hsh k e (h.shape k e he) }
 ·intro k c b' sz' m' hl' hi';simp only[q1i]at hl';by_cases e:k=id
  ·subst e;simp only[if_true,Option.some.injEq]at hl';rw[hi]at hi';simp only[Option.some.injEq,Prod.mk.injEq]at hi';obtain⟨rfl,rfl,rfl⟩:=hi';subst hl';exact⟨hnew,(h.own k old b sz m hl hi).2⟩
  ·simp only[e,if_false]at hl';obtain⟨h1,h2⟩:=h.own k c b' sz' m' hl' hi';have hbb:b'≠b:=fun e'=>e (h.inj k id c old _ _ hl' hl hi' hi e');exact⟨h1.mono (p:=fun _=>false) (hb b' hbb) hF (fun _ _=>rfl) (Blk.ment_false c) (fun _ r e _ _ hs=>hsh r.1 e hs),h2⟩
 ·intro k c hl' hi';simp only[q1i]at hl';by_cases e:k=id
  ·subst e;rw[hi]at hi';cases hi'
  ·simp only[e,if_false]at hl';exact h.nob k c hl' hi'
 ·intro k k' c c' r r' h1 h2 h3 h4 h5;have fix:∀k c,lk (Go.Av.put s.S id new) k=some c→∃c',lk s.S k=some c':=by
   intro k c hk;simp only[q1i]at hk;by_cases e:k=id
   ·subst e;exact⟨_,hl⟩
   ·simp only[e,if_false]at hk;exact⟨_,hk⟩
  obtain⟨d,hd⟩:=fix k c h1;obtain⟨d',hd'⟩:=fix k' c' h2;exact h.inj k k' d d' r r' hd hd' h3 h4 h5
 ·intro t k hf;refine⟨by rw[hsz];exact(h.fr t k hf).1,(h.fr t k hf).2.1,?_⟩;intro k' c r hl' hi';simp only[q1i]at hl';by_cases e:k'=id
  ·subst e;exact(h.fr t k hf).2.2 k' old r hl hi'
  ·simp only[e,if_false]at hl';exact(h.fr t k hf).2.2 k' c r hl' hi'
 ·intro k hlt hio;have hkb:k≠b:=by
   rintro rfl;rcases(h.own id old k sz m hl hi).2 with(h'|h')|h'
   ·omega
   ·exact hio (h.mvio _ h')
   ·exact hio h'.1
  rw[hb k hkb];exact h.frame k hlt hio
structure q4K (P:Program) (tt:TT):Prop where
 und:∀t ti,lk tt t=some ti→P.underlying t=some ti.desc
 cmp:∀t ti,lk tt t=some ti→ti.cmp=true→P.stoodInHeld t=false∧P.eqGuardType P.depth t=false∧∀fs,ti.desc=.struct fs→∀f∈fs.toList,f.name≠"_"
 info:∀t ti,lk tt t=some ti→∃i,P.info? t=some i∧i.size=ti.size∧i.bytes=ti.bytes∧
  ∃z,i.zero=some z∧(∀w,PRep w (fun _=>False) ti.zero z)∧ti.zero.cells.length=ti.size∧z.cells.size=ti.size∧(q5I ti.desc=true↔∃cs,ti.zero=.agg cs)
section
variable {P:Program} {tt:TT} (hT:q4K P tt)
theorem q98 {t:Nat} {d:TypeDesc} (h:P.underlying t=some d) (w:World):(underlying t).run P w=.ok d w:=by
 simp[underlying,h]
include hT in
theorem q4v {t:Nat} {ti:TI} (h:lk tt t=some ti) (w:World):(underlying t).run P w=.ok ti.desc w:=q98 (hT.und t ti h) w
include hT in
theorem q2c {t:Nat} {ti:TI} (h:lk tt t=some ti) (w:World):(sizeOf t).run P w=.ok ti.size w:=by
 obtain⟨i,hi,hs,_⟩:=hT.info t ti h;simp[sizeOf,typeInfo,hi,hs]
include hT in
theorem qHi {t:Nat} {ti:TI} (h:lk tt t=some ti) (w:World):∃i,(typeInfo t).run P w=.ok i w∧i.bytes=ti.bytes∧i.size=ti.size:=by
 obtain⟨i,hi,hs,hb,_⟩:=hT.info t ti h;exact⟨i,by simp[typeInfo,hi],hb,hs⟩
include hT in
theorem qFW {t:Nat} {ti:TI} (h:lk tt t=some ti) (w:World):∃z,(zeroValue t).run P w=.ok z w∧PRep w (fun _=>False) ti.zero z∧ti.zero.cells.length=ti.size∧z.cells.size=ti.size∧(q5I ti.desc=true↔∃cs,ti.zero=.agg cs):=by
 obtain⟨i,hi,_,_,z,hz,hr,hc,hzc,ha⟩:=hT.info t ti h;exact⟨z,by simp[zeroValue,typeInfo,hi,hz],hr w,hc,hzc,ha⟩
include hT in
theorem qAR {t:Nat} {ti:TI} (h:lk tt t=some ti) (w:World):(isAgg t).run P w=.ok (q5I ti.desc) w:=by
 unfold isAgg;rw[Sem.run_bind,q4v hT h];simp only[Result.andThen_ok];cases ti.desc<;>rfl
end
theorem q0e.ofP {w:World} {Fr:Nat→Nat→Prop} {ι:q1K} {v:V} {x:Value} (h:PRep w (fun _=>False) v x):q0e w Fr ι v x:=by
 induction h with
 |int k n=>exact .atom rfl (.int k n)
 |bool b=>exact .atom rfl (.bool b)
 |str s=>exact .atom rfl (.str s)
 |nil a=>exact .atom rfl (.nil a)
 |sl0 a c g t=>exact .atom rfl (.sl0 a c g t)
 |sl _ hA=>exact hA.elim
 |ptr _ hA=>exact hA.elim
 |agg arr hs _ ih=>exact .agg arr hs ih
 |tup arr hs _ ih=>exact .tup arr hs ih
 |fn arr hs _ ih=>exact .fn arr hs ih
 |undef x=>exact .atom rfl (.undef x)
def one:Value→Bool
 | .agg _=>false
 | .tuple _=>false
 |_=>true
theorem qID {x:Value} (h:one x=true):x.cells= #[x]:=by
 cases x<;>first|rfl|simp[one]at h
theorem q0e.one {w:World} {Fr:Nat→Nat→Prop} {ι:q1K} {v:V} {x:Value} (h:q0e w Fr ι v x) (hs:q1l v=true):Go.Av.one x=true:=by
 cases h with
 |atom hv hp=>cases hp<;>first|rfl|(simp[q1l]at hs;done)
 |osl=>rfl
 |osl0=>rfl
 |oss=>simp[q1l]at hs
 |oss0=>simp[q1l]at hs
 |oref=>rfl
 |omap=>simp[q1l]at hs
 |agg=>simp[q1l]at hs
 |tup=>simp[q1l]at hs
 |fn=>rfl
 |cnd=>simp[q1l]at hs
theorem q5c {p:V→Bool} {cs:List V} {j:Nat} (h:cs.all p=true) (hj:j<cs.length):p (cs.getD j .undef)=true:=by
 rw[List.all_eq_true]at h;have:cs.getD j .undef=cs[j]:=by simp[List.getD,List.getElem?_eq_getElem hj]
 rw[this];exact h _ (List.getElem_mem hj)
theorem q0e.cells {w:World} {Fr:Nat→Nat→Prop} {ι:q1K} {v:V} {x:Value} (h:q0e w Fr ι v x) (hs:q87 v=true):
  x.cells.size=v.cells.length∧∀j,j<v.cells.length→q0e w Fr ι (v.cells.getD j .undef) (x.cells.getD j Go.undef)∧q1l (v.cells.getD j .undef)=true:=by
 by_cases hv:∃cs,v=.agg cs
 ·obtain⟨cs,rfl⟩:=hv;cases h with
  |atom hv _=>simp[isP]at hv
  |agg arr h1 h2=>
   refine⟨h1,fun j hj=>⟨h2 j hj,?_⟩⟩;exact q5c (cs:=cs) hs hj
 ·have hA:q1l v=true:=by
   cases v<;>first|exact hs|exact absurd ⟨_,rfl⟩ hv
  have hc:v.cells=[v]:=by
   cases v<;>first|rfl|exact absurd ⟨_,rfl⟩ hv
  rw[qID (h.one hA),hc];refine⟨rfl,fun j hj=>?_⟩;have hj0:j=0:=by simpa using hj
  subst hj0;exact⟨by simpa using h,by simpa using hA⟩
theorem qEO {w:World} {Fr:Nat→Nat→Prop} {ι:q1K} (x:Value):q0e w Fr ι (q6L x) x:=by
 unfold q6L;split
 ·exact .atom rfl (.int _ _)
 ·exact .atom rfl (.bool _)
 ·exact .atom rfl (.str _)
 ·exact .atom rfl (.nil _)
 ·exact .atom rfl (.undef _)
theorem qJm {w:World} {Fr:Nat→Nat→Prop} {ι:q1K} (x:Value):q0e w Fr ι (qGU x) x:=by
 unfold qGU;split
 ·rename_i cs;refine .agg cs (by simp) fun j hj=>?_;have hj':j<cs.size:=by simpa using hj
  have:(List.map q6L cs.toList).getD j .undef=q6L (cs.getD j Go.undef):=by simp[hj']
  rw[this];exact qEO _
 ·exact .fn #[] rfl fun j hj=>by simp at hj
 ·exact qEO _
theorem q63 {g:G} {s:AS} {a:Act} {w:World} {ι:q1K} {Fr:Nat→Nat→Prop} (h:Rel g s a w ι Fr) (x:Operand):q0e w Fr ι (q20 s x) (a.eval x):=by
 cases x with
 |tmp t=>
  simp only[q20,Act.eval];cases hl:lk s.T t with
  |some v=>exact h.tmp t v hl
  |none=>exact .atom rfl (.undef _)
 |const v=>exact qJm v
 |global n=>exact .atom rfl (.undef _)
 |func f=>exact .fn #[] rfl fun j hj=>by simp at hj
def q90 (P:Program) (g:G) (s':AS) (a:Act) (w:World) (o:Oper):Prop:=
 ∀(next:Act→World→Prop) (Q:Exit→Act→World→Prop),(∀a' w' ι' Fr',Rel g s' a' w' ι' Fr'→next a' w')→o.wp P a w next Q
theorem qYX {s:AS} {dst:Option Tmp} {v:V} {rd:List Nat} {ob:List Prop}:
  s.app dst ⟨v,[],rd,ob⟩=match dst with
   |some d=>{ s with T:=put s.T d v }
   |none=>s:=by
 cases dst<;>rfl
theorem qEL {P:Program} {g:G} {s:AS} {a:Act} {w:World} {ι:q1K} {Fr:Nat→Nat→Prop} {o:Oper} {v:V} {x:Value} {rd:List Nat} {ob:List Prop}
  (h:Rel g s a w ι Fr) (hd:q4Z g.nt o=true) (hr:(execOp a.eval o).run P w=.ok (.value x) w) (hv:q0e w Fr ι v x):
  q90 P g (s.app o.dst ⟨v,[],rd,ob⟩) a w o:=by
 intro next Q hn
 unfold Oper.wp;rw[hr];simp only[Oper.upon];rw[qYX]at hn;cases hdst:o.dst with
 |none=>rw[hdst]at hn;exact hn _ _ ι Fr h
 |some d=>
  rw[hdst]at hn;have hlt:d<g.nt:=by
   unfold q4Z at hd;rw[hdst]at hd;exact Nat.le_of_ble_eq_true hd
  exact hn _ _ ι Fr (h.put hlt hv)
section
variable {P:Program} {a:Act} {w:World} {o:Oper}
theorem qHl (x:Operand) (h:o.op=.move x∨o.op=.assign x):(execOp a.eval o).run P w=.ok (.value (a.eval x)) w:=by
 rcases h with h|h<;>(unfold execOp;rw[h];rfl)
end
theorem q7Z {P:Program} {w w':World} {s:Sem Value} {x:Value} (h:s.run P w=.ok x w'):(do pure (.value (←s)):Sem Next).run P w=.ok (.value x) w':=by
 simp[h]
theorem qYB {P:Program} {w w':World} {s:Sem Unit} (h:s.run P w=.ok () w'):(do s;pure .skip:Sem Next).run P w=.ok .skip w':=by
 simp[h]
theorem q8n {k k':IntKind} (h:qDv k k'=true):k=k':=by
 cases k<;>cases k'<;>first|rfl|simp[qDv]at h
theorem q31 {w:World} {Fr:Nat→Nat→Prop} {ι:q1K} {k:IntKind} {n:Int} {x:Value} (h:q0e w Fr ι (.int k n) x):x=.int k n:=by
 cases h with
 |atom _ hp=>cases hp;rfl
theorem q52 {w:World} {Fr:Nat→Nat→Prop} {ι:q1K} {b:Bool} {x:Value} (h:q0e w Fr ι (.bool b) x):x=.bool b:=by
 cases h with
 |atom _ hp=>cases hp;rfl
theorem q5W {w:World} {Fr:Nat→Nat→Prop} {ι:q1K} {s:ByteArray} {x:Value} (h:q0e w Fr ι (.str s) x):x=.string s:=by
 cases h with
 |atom _ hp=>cases hp;rfl
theorem qMB {P:Program} {w:World} {op:BinOp} {k:IntKind} {m n:Int} {t:TypeId} {e:Ef} (he:qQw op k m n=some e) (ho:∀p∈e.ob,p):
  e.upd=[]∧∃x,(binOp op t (.int k m) (.int k n)).run P w=.ok x w∧∀Fr ι,q0e w Fr ι e.v x:=by
 have R:∀(v:Value) (u:V),(∀Fr ι,q0e w Fr ι u v)→∀(y:Sem Value),y.run P w=.ok v w→e=⟨u,[],[],e.ob⟩→binOp op t (.int k m) (.int k n)=y→
   e.upd=[]∧∃x,(binOp op t (.int k m) (.int k n)).run P w=.ok x w∧∀Fr ι,q0e w Fr ι e.v x:=by
  intro v u hu y hy hev hb;refine⟨by rw[hev],v,by rw[hb];exact hy,?_⟩;rw[hev];exact hu
 cases op<;>simp only[qQw,ok,okO,Option.some.injEq,reduceCtorEq]at he
 case add=>
  subst he;exact R (.int k (m+n)) _ (fun _ _=>.atom rfl (.int _ _)) (pure (.int k (k.wrap (m+n)))) (by have:=ho (inK k (m+n)) (by simp);rw[show k.wrap (m+n)=m+n from this];rfl) rfl (by simp[binOp,Op.intArith])
 case sub=>
  subst he;exact R (.int k (m-n)) _ (fun _ _=>.atom rfl (.int _ _)) (pure (.int k (k.wrap (m-n)))) (by have:=ho (inK k (m-n)) (by simp);rw[show k.wrap (m-n)=m-n from this];rfl) rfl (by simp[binOp,Op.intArith])
 case mul=>
  subst he;exact R (.int k (m*n)) _ (fun _ _=>.atom rfl (.int _ _)) (pure (.int k (k.wrap (m*n)))) (by have:=ho (inK k (m*n)) (by simp);rw[show k.wrap (m*n)=m*n from this];rfl) rfl (by simp[binOp,Op.intArith])
 case quo=>
  subst he;have h0:=ho (n≠0) (by simp);exact R (.int k (m.tdiv n)) _ (fun _ _=>.atom rfl (.int _ _)) (pure (.int k (k.wrap (m.tdiv n)))) (by have:=ho (inK k (m.tdiv n)) (by simp);rw[show k.wrap (m.tdiv n)=m.tdiv n from this];rfl) rfl (by simp[binOp,Op.intDiv,h0])
 case rem=>
  subst he;have h0:=ho (n≠0) (by simp);exact R (.int k (m.tmod n)) _ (fun _ _=>.atom rfl (.int _ _)) (pure (.int k (m.tmod n))) rfl rfl (by simp[binOp,Op.intDiv,h0])
 case and=>
  subst he;exact R (.int k (qNZ .and k m n)) _ (fun _ _=>.atom rfl (.int _ _)) (pure (.int k (qNZ .and k m n))) rfl rfl (by simp[binOp,Op.intBits,qNZ])
 case or=>
  subst he;exact R (.int k (qNZ .or k m n)) _ (fun _ _=>.atom rfl (.int _ _)) (pure (.int k (qNZ .or k m n))) rfl rfl (by simp[binOp,Op.intBits,qNZ])
 case xor=>
  subst he;exact R (.int k (qNZ .xor k m n)) _ (fun _ _=>.atom rfl (.int _ _)) (pure (.int k (qNZ .xor k m n))) rfl rfl (by simp[binOp,Op.intBits,qNZ])
 all_goals
  subst he;exact R (.bool _) _ (fun _ _=>.atom rfl (.bool _)) (pure (.bool _)) rfl rfl (by simp[binOp,Op.intCmp])
theorem qYh {P:Program} {w:World} {op:BinOp} {k k':IntKind} {m n:Int} {t:TypeId} {e:Ef} (he:shV op k m n=some e) (ho:∀p∈e.ob,p):
  e.upd=[]∧∃x,(binOp op t (.int k m) (.int k' n)).run P w=.ok x w∧∀Fr ι,q0e w Fr ι e.v x:=by
 cases op<;>simp only[shV,okO,Option.some.injEq,reduceCtorEq]at he
 case shl=>
  subst he;obtain⟨h0,h1⟩:=ho _ (List.mem_cons_self ..);have h2:inK k (m*2^n.toNat):=ho _ (by simp);refine⟨rfl,.int k (m*2^n.toNat),?_,fun _ _=>.atom rfl (.int _ _)⟩;have hn:¬n<0:=by omega
  have hm:min n.toNat k.bits=n.toNat:=by omega
  simp only[binOp,Op.shift,hn,if_false,hm];rw[show k.wrap (m*2^n.toNat)=m*2^n.toNat from h2];rfl
 case shr=>
  subst he;obtain⟨h0,h1⟩:=ho _ (List.mem_cons_self ..);refine⟨rfl,.int k (m.fdiv (2^n.toNat)),?_,fun _ _=>.atom rfl (.int _ _)⟩;have hn:¬n<0:=by omega
  have hm:min n.toNat k.bits=n.toNat:=by omega
  simp only[binOp,Op.shift,hn,if_false,hm];rfl
theorem qN0 {P:Program} {w:World} {op:BinOp} {m n:ByteArray} {t:TypeId} {e:Ef} (he:qQW op m n=some e) (ho:∀p∈e.ob,p):
  e.upd=[]∧∃x,(binOp op t (.string m) (.string n)).run P w=.ok x w∧∀Fr ι,q0e w Fr ι e.v x:=by
 cases op<;>simp only[qQW,ok,okO,Option.some.injEq,reduceCtorEq]at he
 case add=>
  subst he;have h0:=ho _ (List.mem_singleton.2 rfl);refine⟨rfl,.string (m++n),?_,fun _ _=>.atom rfl (.str _)⟩;have hm:IntKind.i64.max=9223372036854775807:=by decide
  have h1:¬((m.size+n.size:Nat):Int)>IntKind.i64.max:=by rw[hm];omega
  simp only[binOp,Op.stringOp,h1,if_false];rfl
 all_goals
  subst he;exact⟨rfl,.bool _,rfl,fun _ _=>.atom rfl (.bool _)⟩
theorem q5b (b o j:Nat):(⟨b,o,none⟩:Addr).add j=⟨b,o+j,none⟩:=by
 unfold Addr.add;split
 ·rename_i h;subst h;rfl
 ·rfl
theorem q4Q {w:World} {b k:Nat} {cells:Array Value} {e:TypeId} {f:Nat×Nat} (h:w.heap[b]?=some (.cells cells e f)) (hk:k<cells.size):
  w.cell? ⟨b,k,none⟩=some (cells.getD k Go.undef):=by
 unfold World.cell?;simp[h,hk]
theorem q4z (f:Nat→Nat):∀(cs:List V) (j:Nat),j<cs.length→(V.tagL f cs).getD j .undef=V.tag f (cs.getD j .undef)
 |[],_,h=>by simp at h
 |_::_,0,_=>by simp[V.tagL]
 |_::cs,j+1,h=>by simpa[V.tagL]using q4z f cs j (by simpa using h)
theorem q1e (f:Nat→Nat):∀cs:List V,(V.tagL f cs).length=cs.length
 |[]=>rfl
 |_::cs=>by simp[V.tagL,q1e f cs]
theorem PRep.retag {w:World} {Fr:Nat→Nat→Prop} {ι:q1K} {t:Nat} {v:V} {x:Value} (h:PRep w (Fr t) v x):q0e w Fr ι (v.tag fun _=>t) x:=by
 induction h with
 |int k n=>exact .atom rfl (.int k n)
 |bool b=>exact .atom rfl (.bool b)
 |str s=>exact .atom rfl (.str s)
 |nil a=>exact .atom rfl (.nil a)
 |sl0 a c g t=>exact .atom rfl (.sl0 a c g _)
 |sl cv hA hcap hsz hc hr=>exact .atom rfl (.sl cv hA hcap hsz hc hr)
 |ptr cv hA hc hr=>exact .atom rfl (.ptr cv hA hc hr)
 |agg arr hs _ ih=>exact .agg arr (by rw[q1e];exact hs) fun j hj=>by rw[q1e]at hj;rw[q4z _ _ _ hj];exact ih j hj
 |tup arr hs _ ih=>exact .tup arr (by rw[q1e];exact hs) fun j hj=>by rw[q1e]at hj;rw[q4z _ _ _ hj];exact ih j hj
 |fn arr hs _ ih=>exact .fn arr (by rw[q1e];exact hs) fun j hj=>by rw[q1e]at hj;rw[q4z _ _ _ hj];exact ih j hj
 |undef x=>exact .atom rfl (.undef x)
section
variable {P:Program} {tt:TT} (hT:q4K P tt)
include hT in
theorem q9L {t:Nat} {ti:TI} (hl:lk tt t=some ti) {w:World} {b o:Nat} {f:Nat→Value} {cs:List V} {off:Nat} {v:V} (hr:qAB ti cs off=some v)
  (hc:∀j,j<cs.length→w.cell? ⟨b,o+j,none⟩=some (f j)):
  ∃x,(Instr.loadAt t (.pointer (some ⟨b,o+off,none⟩))).run P w=.ok x w∧
   ((v=.agg ((cs.drop off).take ti.size)∧x=.agg (((List.range ti.size).map fun j=>f (off+j)).toArray)∧off+ti.size≤cs.length)∨
    (v=cs.getD off .undef∧off<cs.length∧x=f off)):=by
 unfold qAB at hr;cases hb:Nat.ble (off+ti.size) cs.length with
 |false=>simp[hb]at hr
 |true=>
  have hle:=Nat.le_of_ble_eq_true hb;rw[hb]at hr;cases ha:q5I ti.desc with
  |true=>
   rw[ha]at hr;simp only[Option.some.injEq]at hr;refine⟨_,?_,.inl ⟨hr.symm,rfl,hle⟩⟩;unfold Instr.loadAt Instr.sureAddr loadVar;simp only[Sem.run_bind,Sem.run_pure,Result.andThen_ok,qAR hT hl,ha,if_true,q2c hT hl];rw[run_loadCells w _ _ (fun j=>f (off+j)) (fun j hj=>by rw[q5b,Nat.add_assoc];exact hc _ (by omega))];rfl
  |false=>
   rw[ha]at hr;cases hs:ti.size with
   |zero=>simp[hs]at hr
   |succ m=>
    cases m with
    |succ m=>simp[hs]at hr
    |zero=>
     simp[hs]at hr;have hlt:off<cs.length:=by rw[hs]at hle;omega
     refine⟨f off,?_,.inr ⟨?_,hlt,rfl⟩⟩
     ·unfold Instr.loadAt Instr.sureAddr loadVar;simp only[Sem.run_bind,Sem.run_pure,Result.andThen_ok,qAR hT hl,ha,Bool.false_eq_true,if_false,run_load,hc off hlt]
     ·simp[List.getD,hr]
theorem qRo {w:World} {Fr:Nat→Nat→Prop} {ι:q1K} {cs:List V} {off n:Nat} {f:Nat→Value} (hle:off+n≤cs.length)
  (h:∀j,j<cs.length→q0e w Fr ι (cs.getD j .undef) (f j)):q0e w Fr ι (.agg ((cs.drop off).take n)) (.agg (((List.range n).map fun j=>f (off+j)).toArray)):=by
 refine .agg _ (by simp;omega) fun j hj=>?_;have hj':j<n:=by simp at hj;omega
 have e1:((cs.drop off).take n).getD j .undef=cs.getD (off+j) .undef:=by
  simp[List.getD,List.getElem?_take,hj']
 have e2:(((List.range n).map fun j=>f (off+j)).toArray).getD j Go.undef=f (off+j):=by simp[hj']
 rw[e1,e2];exact h _ (by omega)
theorem qF7 {w:World} {A:Nat→Prop} {cs:List V} {off n:Nat} {f:Nat→Value} (hle:off+n≤cs.length)
  (h:∀j,j<cs.length→PRep w A (cs.getD j .undef) (f j)):PRep w A (.agg ((cs.drop off).take n)) (.agg (((List.range n).map fun j=>f (off+j)).toArray)):=by
 refine .agg _ (by simp;omega) fun j hj=>?_;have hj':j<n:=by simp at hj;omega
 have e1:((cs.drop off).take n).getD j .undef=cs.getD (off+j) .undef:=by
  simp[List.getD,List.getElem?_take,hj']
 have e2:(((List.range n).map fun j=>f (off+j)).toArray).getD j Go.undef=f (off+j):=by simp[hj']
 rw[e1,e2];exact h _ (by omega)
include hT in
theorem qLk {g:G} {s:AS} {a:Act} {w:World} {ι:q1K} {Fr:Nat→Nat→Prop} (h:Rel g s a w ι Fr) {t:Nat} {ti:TI} (hl:lk tt t=some ti) {p:V} {x:Value} {e:Ef}
  (he:qBl s.S ti p=some e) (ho:∀q∈e.ob,q) (hp:q0e w Fr ι p x):
  e.upd=[]∧∃y,(Instr.loadAt t x).run P w=.ok y w∧q0e w Fr ι e.v y:=by
 cases p with
 |ptr cs off tg=>
  simp only[qBl]at he;cases hr:qAB ti cs off with
  |none=>simp[hr]at he
  |some v=>
   simp only[hr,ok,Option.some.injEq]at he;subst he;cases hp with
   |atom _ hp=>
    cases hp with
    |ptr cv hA hc hpr=>
     obtain⟨y,hy,hcase⟩:=q9L hT hl hr hc;refine⟨rfl,y,hy,?_⟩;refine PRep.retag ?_;rcases hcase with⟨rfl,rfl,hle⟩|⟨rfl,hlt,rfl⟩
     ·exact qF7 hle hpr
     ·exact hpr _ hlt
 |oref id i off=>
  simp only[qBl]at he;cases hb:lk s.S id with
  |none=>simp[hb]at he
  |some blk=>
   cases hp with
   |atom hv _=>simp[isP]at hv
   | @oref _ _ _ b sz m hi him=>
    have hown:=(h.own id blk b sz m hb hi).1;cases blk with
    |mp=>simp[hb]at he
    |box cs=>
     simp only[hb]at he;cases i with
     |succ i=>simp at he
     |zero=>
      cases hr:qAB ti cs off with
      |none=>simp[hr]at he
      |some v=>
       simp only[hr,Option.some.injEq]at he;subst he;obtain⟨cells,e',hh,hsz,hcr⟩:=hown;obtain⟨y,hy,hcase⟩:=q9L hT hl (b:=b) (o:=0) (f:=fun j=>cells.getD j Go.undef) hr (w:=w) (fun j hj=>by rw[Nat.zero_add];exact q4Q hh (by omega));refine⟨rfl,y,?_,?_⟩
       ·rw[Nat.zero_mul];exact hy
       ·rcases hcase with⟨rfl,rfl,hle⟩|⟨rfl,hlt,rfl⟩
        ·exact qRo hle hcr
        ·exact hcr _ hlt
    |arr sz' n g' te=>
     simp only[hb]at he;cases hr:qAB ti (qDi sz' (g' i)) off with
     |none=>simp[hr]at he
     |some v=>
      simp only[hr,Option.some.injEq]at he;subst he;have hin:i<n:=ho _ (List.mem_singleton.2 rfl);obtain⟨rfl,rfl,cells,e',hh,hsz,hlen,hcr⟩:=hown;have hli:=hlen i hin;rw[qHn hli]at hr;have hmul:i*sz'+sz'≤cells.size:=by
       have h1:i*sz'+sz'=(i+1)*sz':=by rw[Nat.add_mul,Nat.one_mul]
       have h2:(i+1)*sz'≤n*sz':=Nat.mul_le_mul_right _ hin;omega
      obtain⟨y,hy,hcase⟩:=q9L hT hl (b:=b) (o:=i*sz') (f:=fun j=>cells.getD (i*sz'+j) Go.undef) hr (w:=w) (fun j hj=>q4Q hh (by omega));refine⟨rfl,y,hy,?_⟩;refine PRep.retag ?_;rcases hcase with⟨rfl,rfl,hle⟩|⟨rfl,hlt,rfl⟩
      ·exact qF7 hle fun j hj=>hcr i j hin (by omega)
      ·exact hcr i _ hin (by omega)
 |_=>simp[qBl]at he
include hT in
theorem qHp {st f off:Nat} {ti:TI} (h:q8h tt st f=some (off,ti)) (w:World):
  ∃fs fd,(underlying st).run P w=.ok (.struct fs) w∧fs[f]?=some fd∧fd.offset=off∧lk tt fd.type=some ti:=by
 unfold q8h at h;split at h
 ·rename_i fs _ _ _ _ _ hl;split at h
  ·rename_i fd hf;split at h
   ·rename_i ti' hti;simp only[Option.some.injEq,Prod.mk.injEq]at h;obtain⟨rfl,rfl⟩:=h;exact⟨fs,fd,q4v hT hl w,by simpa using hf,rfl,hti⟩
   ·simp at h
  ·simp at h
 ·simp at h
include hT in
theorem qFL {w:World} {ι:q1K} {Fr:Nat→Nat→Prop} {st f:Nat} {p:V} {x:Value} {e:Ef} (he:qB8 tt st f p=some e) (hp:q0e w Fr ι p x):
  e.upd=[]∧∃y,(Instr.fieldAt st x f).run P w=.ok y w∧q0e w Fr ι e.v y:=by
 unfold qB8 at he;cases hf:q8h tt st f with
 |none=>simp[hf]at he
 |some q=>
  obtain⟨off',ti⟩:=q;simp only[hf]at he;cases hs:ti.size with
  |zero=>simp[hs]at he
  |succ m=>
   simp only[hs]at he;obtain⟨fs,fd,hu,hfd,hoff,hti⟩:=qHp hT hf w;have hsz:=q2c hT hti w;have key:∀b o,(Instr.fieldAt st (.pointer (some ⟨b,o,none⟩)) f).run P w=.ok (.pointer (some ⟨b,o+off',none⟩)) w:=by
    intro b o;unfold Instr.fieldAt Instr.sureAddr fieldPlace;simp only[Sem.run_bind,hu,Result.andThen_ok,hfd,Sem.run_pure,hsz,hs,Nat.add_eq_zero_iff,Nat.succ_ne_self,and_false,if_false,Sem.run_ite,q5b,hoff]
   cases p with
   |ptr cs off t=>
    simp only[ok,Option.some.injEq]at he;subst he;cases hp with
    |atom _ hp=>
     cases hp with
     |ptr cv hA hc hr=>exact⟨rfl,_,key _ _,.atom rfl (by rw[Nat.add_assoc];exact .ptr cv hA hc hr)⟩
   |oref id i off=>
    simp only[ok,Option.some.injEq]at he;subst he;cases hp with
    |atom hv _=>simp[isP]at hv
    |oref hi him=>exact⟨rfl,_,key _ _,by rw[Nat.add_assoc];exact .oref hi him⟩
   |_=>simp at he
theorem q9J {P:Program} {tt:TT} (hT:q4K P tt) {t:Nat} {ti:TI} (hl:lk tt t=some ti) {w:World} {ι:q1K} {Fr:Nat→Nat→Prop} {cs:List V} {arr:Array Value} {off:Nat} {v:V}
  (hr:qAB ti cs off=some v) (hs:arr.size=cs.length) (hc:∀j,j<cs.length→q0e w Fr ι (cs.getD j .undef) (arr.getD j Go.undef)):
  ∃y,(part t arr off).run P w=.ok y w∧q0e w Fr ι v y:=by
 unfold qAB at hr;cases hb:Nat.ble (off+ti.size) cs.length with
 |false=>simp[hb]at hr
 |true=>
  have hle:=Nat.le_of_ble_eq_true hb;rw[hb]at hr;cases ha:q5I ti.desc with
  |true=>
   rw[ha]at hr;simp only[Option.some.injEq]at hr;subst hr;refine⟨.agg (arr.extract off (off+ti.size)),?_,?_⟩
   ·unfold part;simp[qAR hT hl,ha,q2c hT hl]
   ·refine .agg _ (by simp;omega) fun j hj=>?_;have hj':j<ti.size:=by simp at hj;omega
    have e1:((cs.drop off).take ti.size).getD j .undef=cs.getD (off+j) .undef:=by simp[List.getD,List.getElem?_take,hj']
    have e2:(arr.extract off (off+ti.size)).getD j Go.undef=arr.getD (off+j) Go.undef:=by
     have h1:j<min (off+ti.size) arr.size-off:=by omega
     have h2:off+j<arr.size:=by omega
     simp[h1,h2]
    rw[e1,e2];exact hc _ (by omega)
  |false=>
   rw[ha]at hr;cases hs':ti.size with
   |zero=>simp[hs']at hr
   |succ m=>
    cases m with
    |succ m=>simp[hs']at hr
    |zero=>
     simp[hs']at hr;have hlt:off<cs.length:=by rw[hs']at hle;omega
     have hlt':off<arr.size:=by omega
     refine⟨arr.getD off Go.undef,?_,?_⟩
     ·unfold part;simp[qAR hT hl,ha,hlt']
     ·have:v=cs.getD off .undef:=by simp[List.getD,hr]
      rw[this];exact hc off hlt
include hT in
theorem qPs {w:World} {ι:q1K} {Fr:Nat→Nat→Prop} {st f:Nat} {p:V} {x:Value} {e:Ef} (he:qPd tt st f p=some e) (hp:q0e w Fr ι p x):
  e.upd=[]∧∃y,(Instr.field st x f).run P w=.ok y w∧q0e w Fr ι e.v y:=by
 unfold qPd at he;cases hf:q8h tt st f with
 |none=>simp[hf]at he
 |some q=>
  obtain⟨off',ti⟩:=q;simp only[hf]at he;cases p with
  |agg cs=>
   cases hr:qAB ti cs off' with
   |none=>simp[hr]at he
   |some v=>
    simp only[hr,ok,Option.some.injEq]at he;subst he;obtain⟨fs,fd,hu,hfd,hoff,hti⟩:=qHp hT hf w;cases hp with
    |atom hv _=>simp[isP]at hv
    |agg arr hs hc=>
     obtain⟨y,hy,hv⟩:=q9J hT hti hr hs hc;refine⟨rfl,y,?_,hv⟩;unfold Instr.field;simp[hu,hfd,asAgg,hoff,hy]
  |_=>simp at he
include hT in
theorem q3z {t:Nat} {ti:TI} (h:q2Q tt t=some ti) (w:World):
  ∃e,(underlying t).run P w=.ok (.slice e) w∧lk tt e=some ti:=by
 unfold q2Q at h;split at h
 ·rename_i e _ _ _ _ _ hl;exact⟨e,q4v hT hl w,h⟩
 ·simp at h
include hT in
theorem qFe {g:G} {s:AS} {a:Act} {w:World} {ι:q1K} {Fr:Nat→Nat→Prop} (h:Rel g s a w ι Fr) {t:Nat} {p ix:V} {x y:Value} {e:Ef}
  (he:q3p tt s.S t p ix=some e) (ho:∀q∈e.ob,q) (hp:q0e w Fr ι p x) (hi:q0e w Fr ι ix y):
  e.upd=[]∧∃z,(Instr.indexAt t x y).run P w=.ok z w∧q0e w Fr ι e.v z:=by
 unfold q3p at he;cases hel:q2Q tt t with
 |none=>simp[hel]at he
 |some ti=>
  obtain⟨el,hu,hle⟩:=q3z hT hel w;have hsz:=q2c hT hle w;cases ix with
  |int k i=>
   have hy:=q31 hi;subst hy;have key:∀b o n cap:Nat,0≤i→i<(n:Int)→(Instr.indexAt t (.slice (some ⟨b,o,none⟩) n cap) (.int k i)).run P w=.ok (.pointer (some ⟨b,o+i.toNat*ti.size,none⟩)) w:=by
    intro b o n cap h0 h1;unfold Instr.indexAt asIntOf;simp only[Sem.run_bind,Sem.run_pure,Result.andThen_ok,hu,hsz,h0,h1,and_self,if_true,Sem.run_ite,q5b]
   cases p with
   |sl n g' tg=>
    simp only[hel]at he;cases hb:Nat.beq (g' i.toNat).cells.length ti.size with
    |false=>simp[hb]at he
    |true=>
     simp only[hb,okO,Option.some.injEq]at he;subst he;have hob:=ho _ (List.mem_singleton.2 rfl);have hlt:i.toNat<n:=by omega
     have hsz':=q0y.1 hb;cases hp with
     |atom _ hp=>
      cases hp with
      |sl0=>omega
      | @sl _ _ _ b off cap sz cv hA hcap hlen hc hr=>
       have hs0:=hlen _ hlt;refine⟨rfl,_,key _ _ _ _ hob.1 hob.2,?_⟩;have e0:sz=ti.size:=by omega
       subst e0;have hh:∀j,j<(g' i.toNat).cells.length→w.cell? ⟨b,off+i.toNat*ti.size+j,none⟩=some (cv i.toNat j):=fun j hj=>hc _ j hlt (by omega);exact .atom rfl (.ptr (base:=off+i.toNat*ti.size) (off:=0) (cv i.toNat) hA hh fun j hj=>hr _ j hlt (by omega))
   |osl id n=>
    simp only[hel]at he;cases hb:lk s.S id with
    |none=>simp[hb]at he
    |some blk=>
     cases blk with
     |mp=>simp[hb]at he
     |box cs=>simp[hb]at he
     |arr sz n' g' te=>
      simp only[hb]at he;cases hbq:Nat.beq sz ti.size with
      |false=>simp[hbq]at he
      |true=>
       simp only[hbq,Option.some.injEq]at he;subst he;have hob:=ho _ (List.mem_singleton.2 rfl);have e0:=q0y.1 hbq;subst e0;cases hp with
       |atom hv _=>simp[isP]at hv
       |osl0=>omega
       | @osl _ _ b sz m cap c e1 hid hn hc hs hcs=>
        have hown:=(h.own id _ b sz m hb hid).1;obtain⟨rfl,_⟩:=hown;refine⟨rfl,_,key _ _ _ _ hob.1 hob.2,?_⟩;have:(⟨b,0+i.toNat*ti.size,none⟩:Addr)=⟨b,i.toNat*ti.size+0,none⟩:=by simp
        rw[this];exact .oref hid (by omega)
   |_=>simp[hel]at he
  |_=>simp[hel]at he
end
section
variable {P:Program} {tt:TT} (hT:q4K P tt)
theorem qB2 {w:World} {Fr:Nat→Nat→Prop} {ι:q1K} {cs:List V} {x:Value} (h:q0e w Fr ι (.agg cs) x):
  ∃arr:Array Value,x=.agg arr∧arr.size=cs.length∧∀j,j<cs.length→q0e w Fr ι (cs.getD j .undef) (arr.getD j Go.undef):=by
 cases h with
 |atom hv _=>simp[isP]at hv
 |agg arr hs hr=>exact⟨arr,rfl,hs,hr⟩
include hT in
theorem qKf {w:World} {Fr:Nat→Nat→Prop} {ι:q1K} {E:Nat→V→V→Option Bool} {D:Nat} {as bs:List V} {xs ys:Array Value}
  (hE:∀t x y p vx vy,E t x y=some p→q0e w Fr ι x vx→q0e w Fr ι y vy→(Op.equalIn D t vx vy).run P w=.ok p w)
  (hx1:xs.size=as.length) (hx:∀j,j<as.length→q0e w Fr ι (as.getD j .undef) (xs.getD j Go.undef))
  (hy1:ys.size=bs.length) (hy:∀j,j<bs.length→q0e w Fr ι (bs.getD j .undef) (ys.getD j Go.undef)):
  ∀(fs:List Field) (p:Bool),(∀f∈fs,f.name≠"_")→x3y tt E as bs fs=some p→(Op.eqFields D xs ys fs).run P w=.ok p w
 |[],p,_,h=>by
  simp only[x3y,Option.some.injEq]at h;subst h;simp[Op.eqFields]
 |f::fs,p,hn,h=>by
  unfold x3y at h;split at h
  case h_2=>simp at h
  case h_1 ti hti=>
   split at h
   case h_2=>simp at h
   case h_1 x y hrx hry=>
    obtain⟨vx,hvx,hrx'⟩:=q9J hT hti hrx hx1 hx;obtain⟨vy,hvy,hry'⟩:=q9J hT hti hry hy1 hy;split at h
    case h_2=>simp at h
    case h_1 q hq=>
     have he:=hE _ _ _ _ _ _ hq hrx' hry';have hn0:f.name≠"_":=hn f (List.mem_cons_self ..);cases fs with
     |nil=>
      simp only[Option.some.injEq]at h;subst h;simp only[Op.eqFields,if_pos hn0,Sem.run_bind,hvx,hvy,he,Result.andThen_ok];cases q<;>simp
     |cons f' fs'=>
      simp only at h;split at h
      case h_2=>simp at h
      case h_1 r hr=>
       simp only[Option.some.injEq]at h;subst h;have ih:=qKf hE hx1 hx hy1 hy (f'::fs') r (fun g hg=>hn g (List.mem_cons_of_mem _ hg)) hr;rw[Op.eqFields];simp only[if_pos hn0,Sem.run_bind,hvx,hvy,he,Result.andThen_ok];cases q
       ·simp
       ·simpa using ih
include hT in
theorem qDD {w:World} {Fr:Nat→Nat→Prop} {ι:q1K}:∀(d D t:Nat) (x y:V) (p:Bool) (vx vy:Value),d≤D→eqT tt d t x y=some p→q0e w Fr ι x vx→q0e w Fr ι y vy→
  (Op.equalIn D t vx vy).run P w=.ok p w
 |0,_,_,_,_,_,_,_,_,h,_,_=>by simp[eqT]at h
 |d+1,0,_,_,_,_,_,_,hd,_,_,_=>by omega
 |d+1,D+1,t,x,y,p,vx,vy,hd,h,hx,hy=>by
  unfold eqT at h;split at h
  ·rename_i kd _ _ _ _ _ k a k' b hl;have hx':=q31 hx;have hy':=q31 hy;subst hx' hy';split at h
   ·rename_i hk;have:=q8n hk;subst this;simp only[Option.some.injEq]at h;subst h;exact run_equalIn_int w D t k kd a b (hT.und _ _ hl)
   ·simp at h
  ·rename_i _ _ _ _ _ a b hl;have hx':=q52 hx;have hy':=q52 hy;subst hx' hy';simp only[Option.some.injEq]at h;subst h;exact run_equalIn_bool' w D t a b (hT.und _ _ hl)
  ·rename_i _ _ _ _ _ a b hl;have hx':=q5W hx;have hy':=q5W hy;subst hx' hy';simp only[Option.some.injEq]at h;subst h;exact run_equalIn_string w D t a b (hT.und _ _ hl)
  ·rename_i fs _ _ _ _ as bs hl;obtain⟨xs,rfl,hx1,hx2⟩:=qB2 hx;obtain⟨ys,rfl,hy1,hy2⟩:=qB2 hy;obtain⟨hc1,hc2,hc3⟩:=hT.cmp _ _ hl rfl;have hu:=hT.und _ _ hl;have hf:P.fieldsOf t=fs:=by simp[Program.fieldsOf,hu]
   rw[run_equalIn_struct w D t xs ys (by rw[hf];exact hu) hc1,hf];exact qKf hT (fun t x y p vx vy hE h1 h2=>qDD d D t x y p vx vy (by omega) hE h1 h2) hx1 hx2 hy1 hy2 _ p (hc3 fs rfl) h
  ·simp at h
theorem qCh {op:BinOp} {t:Nat} {x y:Operand} {a b:Value} {w:World} (h:∀cs ds,a=.agg cs→b=.agg ds→P.eqGuardType P.depth t=false)
  (hn:a≠.nilIface):(eqGuard op t x y a b).run P w=.ok () w:=by
 unfold eqGuard;cases op<;>simp only[Bool.not_false,Bool.not_true,if_true,Bool.false_eq_true,if_false,Sem.run_pure]<;>try rfl
 all_goals
  cases a<;>cases b<;>first
   |rfl
   |exact absurd rfl hn
   |(have:=h _ _ rfl rfl;simp[this])
   |simp
include hT in
theorem qS6 {w:World} {Fr:Nat→Nat→Prop} {ι:q1K} {op:BinOp} {t:Nat} {ox oy:Operand} {x y:V} {vx vy:Value} {e:Ef} (he:x6h tt op t x y=some e) (ho:∀p∈e.ob,p)
  (hx:q0e w Fr ι x vx) (hy:q0e w Fr ι y vy):
  e.upd=[]∧∃z,(do eqGuard op t ox oy vx vy;binOp op t vx vy:Sem Value).run P w=.ok z w∧q0e w Fr ι e.v z:=by
 have guard0:(∀cs ds,vx=.agg cs→vy=.agg ds→P.eqGuardType P.depth t=false)→vx≠.nilIface→∀z,(binOp op t vx vy).run P w=.ok z w→
   (do eqGuard op t ox oy vx vy;binOp op t vx vy:Sem Value).run P w=.ok z w:=by
  intro h1 h2 z hz;simp only[Sem.run_bind,qCh h1 h2,Result.andThen_ok,hz]
 unfold x6h at he;split at he
 ·rename_i k a k' b;have hx':=q31 hx;have hy':=q31 hy;subst hx' hy';split at he
  ·obtain⟨h1,z,hz,hv⟩:=qYh (P:=P) (w:=w) (t:=t) (k':=k') he ho;exact⟨h1,z,guard0 (fun _ _ h=>by cases h) (by simp) z hz,hv Fr ι⟩
  split at he
  ·rename_i hk;have:=q8n hk;subst this;obtain⟨h1,z,hz,hv⟩:=qMB (P:=P) (w:=w) (t:=t) he ho;exact⟨h1,z,guard0 (fun _ _ h=>by cases h) (by simp) z hz,hv Fr ι⟩
  ·simp at he
 ·rename_i a b;have hx':=q5W hx;have hy':=q5W hy;subst hx' hy';obtain⟨h1,z,hz,hv⟩:=qN0 (P:=P) (w:=w) (t:=t) he ho;exact⟨h1,z,guard0 (fun _ _ h=>by cases h) (by simp) z hz,hv Fr ι⟩
 ·rename_i a b;have hx':=q52 hx;have hy':=q52 hy;subst hx' hy';split at he
  ·rename_i p hp;simp only[ok,Option.some.injEq]at he;subst he;have hr:=qDD hT 5 10000 t _ _ p _ _ (by omega) hp hx hy;exact⟨rfl,.bool p,guard0 (fun _ _ h=>by cases h) (by simp) _ (by simp[binOp,Op.equal,Op.maxDepth,hr]),.atom rfl (.bool _)⟩
  ·rename_i p hp;simp only[ok,Option.some.injEq]at he;subst he;have hr:=qDD hT 5 10000 t _ _ p _ _ (by omega) hp hx hy;exact⟨rfl,.bool (!p),guard0 (fun _ _ h=>by cases h) (by simp) _ (by simp[binOp,Op.equal,Op.maxDepth,hr]),.atom rfl (.bool _)⟩
  ·simp at he
 ·rename_i as bs;have hcmp:∀p,eqT tt 5 t (.agg as) (.agg bs)=some p→P.eqGuardType P.depth t=false:=by
   intro p hp;unfold eqT at hp;split at hp
   ·rename_i h _;cases h
   ·rename_i h _;cases h
   ·rename_i h _;cases h
   ·rename_i hl _ _;exact(hT.cmp _ _ hl rfl).2.1
   ·simp at hp
  obtain⟨xs,rfl,_⟩:=qB2 hx;obtain⟨ys,rfl,_⟩:=qB2 hy;split at he
  ·rename_i p hp;simp only[ok,Option.some.injEq]at he;subst he;have hr:=qDD hT 5 10000 t _ _ p _ _ (by omega) hp hx hy;exact⟨rfl,.bool p,guard0 (fun _ _ _ _=>hcmp p hp) (by simp) _ (by rw[run_eql_struct];simp[hr]),.atom rfl (.bool _)⟩
  ·rename_i p hp;simp only[ok,Option.some.injEq]at he;subst he;have hr:=qDD hT 5 10000 t _ _ p _ _ (by omega) hp hx hy;exact⟨rfl,.bool (!p),guard0 (fun _ _ _ _=>hcmp p hp) (by simp) _ (by rw[run_neq_struct];simp[hr]),.atom rfl (.bool _)⟩
  ·simp at he
 ·simp at he
include hT in
theorem qFq {t:Nat} (h:q97 tt t=true) (w:World):(underlying t).run P w=.ok .string w:=by
 unfold q97 at h;split at h
 ·rename_i _ _ _ _ _ hl;exact q4v hT hl w
 ·simp at h
include hT in
theorem q9X {t:Nat} (h:qBL tt t=true) (w:World):∃e ti,q2Q tt t=some ti∧(underlying t).run P w=.ok (.slice e) w∧lk tt e=some ti:=by
 unfold qBL at h;split at h
 ·rename_i ti hti;obtain⟨e,h1,h2⟩:=q3z hT hti w;exact⟨e,ti,hti,h1,h2⟩
 ·simp at h
include hT in
theorem qU5 {w:World} {Fr:Nat→Nat→Prop} {ι:q1K} {t rt:Nat} {x:V} {vx:Value} {e:Ef} (rest:List TypeId) (he:xB9 tt t x=some e) (hx:q0e w Fr ι x vx):
  e.upd=[]∧∃z,(Builtin.len_ (t::rest).toArray rt #[vx]).run P w=.ok z w∧q0e w Fr ι e.v z:=by
 have str:∀s,vx=.string s→q97 tt t=true→(Builtin.len_ (t::rest).toArray rt #[vx]).run P w=.ok (.int .i64 s.size) w:=by
  intro s hs hst;subst hs;unfold Builtin.len_;simp[qFq hT hst,goInt]
 have sl:∀a n c,vx=.slice a n c→qBL tt t=true→(Builtin.len_ (t::rest).toArray rt #[vx]).run P w=.ok (.int .i64 n) w:=by
  intro a n c hs hst;subst hs;obtain⟨e,ti,_,hu,_⟩:=q9X hT hst w;unfold Builtin.len_;simp[hu,goInt]
 unfold xB9 at he;split at he
 ·rename_i s hs;simp only[ok,Option.some.injEq]at he;subst he;exact⟨rfl,_,str s (q5W hx) hs,.atom rfl (.int _ _)⟩
 ·rename_i hs;simp only[ok,Option.some.injEq]at he;subst he;cases hx with
  |atom _ hp=>cases hp;exact⟨rfl,_,sl _ _ _ rfl hs,.atom rfl (.int _ _)⟩
 ·rename_i n g t hs;simp only[ok,Option.some.injEq]at he;subst he;cases hx with
  |atom _ hp=>
   cases hp with
   |sl0=>exact⟨rfl,_,sl _ _ _ rfl hs,.atom rfl (.int _ _)⟩
   |sl=>exact⟨rfl,_,sl _ _ _ rfl hs,.atom rfl (.int _ _)⟩
 ·rename_i id n hs;simp only[ok,Option.some.injEq]at he;subst he;cases hx with
  |atom hv _=>simp[isP]at hv
  |osl0=>exact⟨rfl,_,sl _ _ _ rfl hs,.atom rfl (.int _ _)⟩
  |osl=>exact⟨rfl,_,sl _ _ _ rfl hs,.atom rfl (.int _ _)⟩
 ·rename_i id lo n c e hs;simp only[ok,Option.some.injEq]at he;subst he;cases hx with
  |atom hv _=>simp[isP]at hv
  |oss0=>exact⟨rfl,_,sl _ _ _ rfl hs,.atom rfl (.int _ _)⟩
  |oss=>exact⟨rfl,_,sl _ _ _ rfl hs,.atom rfl (.int _ _)⟩
 ·simp at he
end
section
variable {P:Program} {tt:TT} (hT:q4K P tt)
def qJe (lo:Option V) (v:Option Value):Prop:=∀b,q5J lo=some b→(v=none∧b=none)∨∃k i,v=some (.int k i)∧b=some i
theorem x8m {w:World} {Fr:Nat→Nat→Prop} {ι:q1K} {x:Option Operand} {ρ:Operand→V} {ev:Operand→Value} (h:∀o,x=some o→q0e w Fr ι (ρ o) (ev o)):qJe (x.map ρ) (x.map ev):=by
 intro b hb;cases x with
 |none=>simp only[Option.map_none,q5J,Option.some.injEq]at hb;exact .inl ⟨rfl,hb.symm⟩
 |some o=>
  have hr:=h o rfl;simp only[Option.map_some]at hb⊢;cases hv:ρ o with
  |int k i=>
   rw[hv]at hb hr;simp only[q5J,Option.some.injEq]at hb;exact .inr ⟨k,i,by rw[q31 hr],hb.symm⟩
  |_=>rw[hv]at hb;simp[q5J]at hb
theorem q4V {w:World} {k:IntKind} {i:Int} {y:Nat} {c:BoundsCode} (h0:0≤i) (h1:i≤(y:Int)):(Instr.sliceBound (.int k i) y c).run P w=.ok i.toNat w:=by
 unfold Instr.sliceBound asIntOf;simp[h0,h1]
theorem qEK {w:World} {isS:Bool} {len cap:Nat} {lo hi:Option V} {vlo vhi:Option Value} {l h:Option Int} (h1:q5J lo=some l) (h2:q5J hi=some h)
  (r1:qJe lo vlo) (r2:qJe hi vhi) (hl:0≤l.getD 0) (hlh:l.getD 0≤h.getD len) (hh:h.getD (len:Int)≤(cap:Int)):
  (Instr.sliceBounds isS len cap vlo vhi none).run P w=.ok ((l.getD 0).toNat,(h.getD (len:Int)).toNat,cap) w:=by
 unfold Instr.sliceBounds;rcases r1 l h1 with⟨rfl,rfl⟩|⟨k1,i1,rfl,rfl⟩<;>rcases r2 h h2 with⟨rfl,rfl⟩|⟨k2,i2,rfl,rfl⟩
 ·simp
 ·simp only[Option.getD_none,Option.getD_some]at*;simp[q4V (P:=P) (w:=w) (k:=k2) (y:=cap) hlh hh]
 ·simp only[Option.getD_none,Option.getD_some]at*;simp[q4V (P:=P) (w:=w) (k:=k1) (y:=len) hl hlh]
 ·simp only[Option.getD_some]at*;have e2:=q4V (P:=P) (w:=w) (k:=k2) (i:=i2) (y:=cap) (c:=if isS=true then .sliceAcap else .sliceAlen) (by omega) hh;have e1:=q4V (P:=P) (w:=w) (k:=k1) (i:=i1) (y:=i2.toNat) (c:=.sliceB) hl (by omega);simp[e1,e2]
include hT in
theorem qR5 {t:Nat} (ht:q97 tt t=true) {w:World} {s:ByteArray} {lo hi:Option V} {vlo vhi:Option Value} {l h:Option Int} (h1:q5J lo=some l) (h2:q5J hi=some h)
  (r1:qJe lo vlo) (r2:qJe hi vhi) (hl:0≤l.getD 0) (hlh:l.getD 0≤h.getD s.size) (hh:h.getD (s.size:Int)≤(s.size:Int)):
  (Instr.sliceAt t (.string s) vlo vhi none).run P w=.ok (.string (s.extract (l.getD 0).toNat (h.getD (s.size:Int)).toNat)) w:=by
 have hu:=qFq hT ht w;unfold Instr.sliceAt Instr.slice;simp only[Sem.run_bind,hu,Result.andThen_ok,Option.isSome_none,Bool.false_eq_true,if_false,Sem.run_pure,qEK (P:=P) (w:=w) (isS:=false) h1 h2 r1 r2 hl hlh hh]
include hT in
theorem q7Y {t:Nat} {ti:TI} (ht:q2Q tt t=some ti) {w:World} {a:Option Addr} {len cap:Nat} {lo hi:Option V} {vlo vhi:Option Value} {l h:Option Int}
  (h1:q5J lo=some l) (h2:q5J hi=some h) (r1:qJe lo vlo) (r2:qJe hi vhi) (hl:0≤l.getD 0) (hlh:l.getD 0≤h.getD len) (hh:h.getD (len:Int)≤(cap:Int)):
  (Instr.sliceAt t (.slice a len cap) vlo vhi none).run P w=
   .ok (.slice (if cap=(l.getD 0).toNat then a else a.map (·.add ((l.getD 0).toNat*ti.size))) ((h.getD (len:Int)).toNat-(l.getD 0).toNat) (cap-(l.getD 0).toNat)) w:=by
 obtain⟨e,hu,he⟩:=q3z hT ht w;have hsz:=q2c hT he w;unfold Instr.sliceAt Instr.slice;simp only[Sem.run_bind,hu,Result.andThen_ok,Sem.run_pure,hsz,qEK (P:=P) (w:=w) (isS:=true) h1 h2 r1 r2 hl hlh hh]
include hT in
theorem qZX {t:Nat} {e:TypeId} {w:World} (hu:(underlying t).run P w=.ok (.slice e) w) {ti:TI} (he:lk tt e=some ti) {a:Option Addr} {len cap:Nat} {vlo:Option Value} {k1 k2:IntKind} (hlo:vlo=none∨∃k,vlo=some (.int k 0)):
  (Instr.sliceAt t (.slice a len cap) vlo (some (.int k1 0)) (some (.int k2 0))).run P w=.ok (.slice a 0 0) w:=by
 have hsz:=q2c hT he w;have e1:=q4V (P:=P) (w:=w) (k:=k2) (i:=0) (y:=cap) (c:=.slice3Acap) (by omega) (by omega);have e2:=q4V (P:=P) (w:=w) (k:=k1) (i:=0) (y:=0) (c:=.slice3B) (by omega) (by omega);unfold Instr.sliceAt Instr.slice Instr.sliceBounds;rcases hlo with rfl|⟨k,rfl⟩
 ·simp[hu,e1,e2,hsz]
 ·have e3:=q4V (P:=P) (w:=w) (k:=k) (i:=0) (y:=0) (c:=.slice3C) (by omega) (by omega);simp[hu,e1,e2,e3,hsz]
include hT in
theorem qMI {g:G} {s:AS} {ac:Act} {w:World} {Fr:Nat→Nat→Prop} {ι:q1K} (_h:Rel g s ac w ι Fr) {t:Nat} {x:V} {vx:Value} {lo hi mx:Option V} {vlo vhi vmx:Option Value} {e:Ef}
  (he:qPA tt t x lo hi mx=some e) (ho:∀p∈e.ob,p) (hx:q0e w Fr ι x vx) (r1:qJe lo vlo) (r2:qJe hi vhi) (r3:qJe mx vmx) (hm:mx=none→vmx=none):
  e.upd=[]∧∃z,(Instr.sliceAt t vx vlo vhi vmx).run P w=.ok z w∧q0e w Fr ι e.v z:=by
 unfold qPA at he;split at he
 ·rename_i s l h h1 h2;have:=hm rfl;subst this;split at he
  ·rename_i ht;simp only[okO,Option.some.injEq]at he;subst he;have hob:=ho _ (List.mem_singleton.2 rfl);have:=q5W hx;subst this;exact⟨rfl,_,qR5 hT ht h1 h2 r1 r2 hob.1 hob.2.1 hob.2.2,.atom rfl (.str _)⟩
  ·simp at he
 ·rename_i n f tg l h h1 h2;have:=hm rfl;subst this;split at he
  ·rename_i ti ht hti;simp only[okO,Option.some.injEq]at he;subst he;have hob:=ho _ (List.mem_cons_self ..);have hsz:q13 ti.size n f:=ho _ (List.mem_cons_of_mem _ (List.mem_singleton.2 rfl));cases hx with
   |atom _ hp=>
    generalize hl':l.getD 0=l' at hob;generalize hh':h.getD (n:Int)=h' at hob;cases hp with
    |sl0 a cap=>
     have e1:l'=0:=by omega
     have e2:h'=0:=by omega
     have hrun:=q7Y (P:=P) hT hti (w:=w) (a:=a) (len:=0) (cap:=cap) h1 h2 r1 r2 (by rw[hl',e1];omega) (by rw[hl',hh',e1,e2];omega) (by rw[hh',e2];omega);refine⟨rfl,_,hrun,?_⟩;rw[hl',hh',e1,e2];exact .atom rfl (.sl0 _ _ _ _)
    | @sl _ _ _ b off cap sz cv hA hcap hlen hc hr=>
     have hrun:=q7Y (P:=P) hT hti (w:=w) (a:=some ⟨b,off,none⟩) (len:=n) (cap:=cap) h1 h2 r1 r2 (by rw[hl'];omega) (by rw[hl',hh'];omega) (by rw[hh'];omega);refine⟨rfl,_,hrun,?_⟩;rw[hl',hh'];by_cases hz:h'.toNat-l'.toNat=0
     ·simp only[hz];exact .atom rfl (.sl0 _ _ _ _)
     ·have hne:¬cap=l'.toNat:=by omega
      have hs1:sz=ti.size:=by rw[←hlen 0 (by omega)];exact(hsz 0 (by omega)).1
      subst hs1;simp only[hne,if_false,Option.map_some,q5b];have key:PRep w (Fr tg) (.sl (h'.toNat-l'.toNat) (q32 f l'.toNat) tg) (.slice (some ⟨b,off+l'.toNat*ti.size,none⟩) (h'.toNat-l'.toNat) (cap-l'.toNat)):=by
       refine .sl (sz:=ti.size) (fun i j=>cv (l'.toNat+i) j) hA (by omega) (fun i hi=>hlen _ (by omega)) (fun i j hi hj=>?_) (fun i j hi hj=>hr _ j (by omega) hj);have e:off+l'.toNat*ti.size+i*ti.size+j=off+(l'.toNat+i)*ti.size+j:=by rw[Nat.add_mul];omega
       rw[e];exact hc _ j (by omega) hj
      cases l with
      |none=>
       simp only[Option.getD_none]at hl';subst hl';have:q32 f (0:Int).toNat=f:=by funext i;simp[q32]
       rw[this]at key;exact .atom rfl key
      |some l0=>exact .atom rfl key
  ·simp at he
 ·rename_i id n h h1 h2;have:=hm rfl;subst this;split at he
  ·rename_i ht;simp only[okO,Option.some.injEq]at he;subst he;have hob:=ho _ (List.mem_singleton.2 rfl);obtain⟨el,ti,hti,hu,hel⟩:=q9X hT ht w;cases hx with
   |atom hv _=>simp[isP]at hv
   |osl0 a hi=>
    have e2:h=0:=by omega
    subst e2;have hrun:=q7Y (P:=P) hT hti (w:=w) (a:=a) (len:=0) (cap:=0) h1 h2 r1 r2 (by simp) (by simp) (by simp);refine⟨rfl,_,hrun,?_⟩;simp;exact .osl0 _ hi
   | @osl _ _ b sz m cap c e1 hid hn hc hs hcs=>
    have hrun:=q7Y (P:=P) hT hti (w:=w) (a:=some ⟨b,0,none⟩) (len:=n) (cap:=cap) h1 h2 r1 r2 (by simp) (by simpa using hob.1) (by simp;omega);refine⟨rfl,_,hrun,?_⟩;simp only[Option.getD_none,Option.getD_some,Int.toNat_zero,Nat.zero_mul,Nat.sub_zero,Option.map_some,q5b,Nat.add_zero,ite_self];exact .osl hid (by omega) (by omega) hs hcs
  ·simp at he
 ·rename_i h h1 h2;have:=hm rfl;subst this;split at he
  ·rename_i ht;simp only[okO,Option.some.injEq]at he;subst he;have e2:h=0:=ho _ (List.mem_singleton.2 rfl);subst e2;obtain⟨el,ti,hti,hu,hel⟩:=q9X hT ht w;cases hx with
   |atom _ hp=>
    cases hp with
    |nil a=>
     have hrun:=q7Y (P:=P) hT hti (w:=w) (a:=a) (len:=0) (cap:=0) h1 h2 r1 r2 (by simp) (by simp) (by simp);refine⟨rfl,_,hrun,?_⟩;simp;exact .atom rfl (.nil _)
  ·simp at he
 ·rename_i x _ _ _ _ lo' k0 h1 h2;obtain⟨k1,hk1⟩:∃k,vhi=some (.int k 0):=by
   rcases r2 _ h2 with⟨_,h⟩|⟨k,i,hv,h⟩
   ·cases h
   ·cases h;exact⟨k,hv⟩
  obtain⟨k2,hk2⟩:∃k,vmx=some (.int k 0):=by
   rcases r3 (some 0) rfl with⟨_,h⟩|⟨k,i,hv,h⟩
   ·cases h
   ·cases h;exact⟨k,hv⟩
  subst hk1 hk2;have fin:∀a n c,vx=.slice a n c→qBL tt t=true→(lo'=none∨lo'=some 0)→(Instr.sliceAt t vx vlo (some (.int k1 0)) (some (.int k2 0))).run P w=.ok (.slice a 0 0) w:=by
   intro a n c hv ht hlo;subst hv;obtain⟨el,ti,hti,hu,hel⟩:=q9X hT ht w;refine qZX (P:=P) hT hu hel ?_;rcases r1 _ h1 with⟨hv,_⟩|⟨k,i,hv,hb⟩
   ·exact .inl hv
   ·rcases hlo with rfl|rfl
    ·cases hb
    ·cases hb;exact .inr ⟨k,hv⟩
  have sl:∀n f tg,x=.sl n f tg→∃a c,vx=.slice a n c:=by
   rintro n f tg rfl;cases hx with
   |atom _ hp=>cases hp<;>exact⟨_,_,rfl⟩
  have osl:∀id n,x=.osl id n→∃a c,vx=.slice a n c:=by
   rintro id n rfl;cases hx with
   |atom hv _=>simp[isP]at hv
   |osl0=>exact⟨_,_,rfl⟩
   |osl=>exact⟨_,_,rfl⟩
  have nl:x=.nil→∃a c,vx=.slice a 0 c:=by
   rintro rfl;cases hx with
   |atom _ hp=>cases hp;exact⟨_,_,rfl⟩
  split at he<;>simp only[ok,Option.some.injEq,reduceCtorEq]at he<;>subst he
  ·rename_i ht;obtain⟨a,c,hv⟩:=sl _ _ _ rfl;exact⟨rfl,_,fin _ _ _ hv ht (.inl rfl),.atom rfl (.nil _)⟩
  ·rename_i ht;obtain⟨a,c,hv⟩:=osl _ _ rfl;exact⟨rfl,_,fin _ _ _ hv ht (.inl rfl),.atom rfl (.nil _)⟩
  ·rename_i ht;obtain⟨a,c,hv⟩:=nl rfl;exact⟨rfl,_,fin _ _ _ hv ht (.inl rfl),.atom rfl (.nil _)⟩
  ·rename_i ht;obtain⟨a,c,hv⟩:=sl _ _ _ rfl;exact⟨rfl,_,fin _ _ _ hv ht (.inr rfl),.atom rfl (.nil _)⟩
  ·rename_i ht;obtain⟨a,c,hv⟩:=osl _ _ rfl;exact⟨rfl,_,fin _ _ _ hv ht (.inr rfl),.atom rfl (.nil _)⟩
  ·rename_i ht;obtain⟨a,c,hv⟩:=nl rfl;exact⟨rfl,_,fin _ _ _ hv ht (.inr rfl),.atom rfl (.nil _)⟩
 ·simp at he
theorem qT4 {w:World} {Fr:Nat→Nat→Prop} {ι:q1K} {x y z:V} {vx vy:Value} (h:xBx x y=some z) (hx:q0e w Fr ι x vx) (hy:q0e w Fr ι y vy):
  ∃u,(Builtin.max2 vx vy).run P w=.ok u w∧q0e w Fr ι z u:=by
 unfold xBx at h;split at h
 ·have hx':=q31 hx;have hy':=q31 hy;subst hx' hy';split at h
  ·simp only[Option.some.injEq]at h;subst h;exact⟨_,rfl,.atom rfl (.int _ _)⟩
  ·simp at h
 ·simp at h
theorem qSQ {w:World} {Fr:Nat→Nat→Prop} {ι:q1K} {x y z:V} {vx vy:Value} (h:x7W x y=some z) (hx:q0e w Fr ι x vx) (hy:q0e w Fr ι y vy):
  ∃u,(Builtin.min2 vx vy).run P w=.ok u w∧q0e w Fr ι z u:=by
 unfold x7W at h;split at h
 ·have hx':=q31 hx;have hy':=q31 hy;subst hx' hy';split at h
  ·simp only[Option.some.injEq]at h;subst h;exact⟨_,rfl,.atom rfl (.int _ _)⟩
  ·simp at h
 ·simp at h
theorem qFZ {w:World} {Fr:Nat→Nat→Prop} {ι:q1K} {f:V→V→Option V} {m:Value→Value→Sem Value}
  (hf:∀x y z vx vy,f x y=some z→q0e w Fr ι x vx→q0e w Fr ι y vy→∃u,(m vx vy).run P w=.ok u w∧q0e w Fr ι z u):
  ∀(l:List V) (vl:List Value) (x z:V) (vx:Value),qMJ f x l=some z→q0e w Fr ι x vx→l.length=vl.length→(∀j,j<l.length→q0e w Fr ι (l.getD j .undef) (vl.getD j Go.undef))→
   ∃u,(vl.foldlM m vx).run P w=.ok u w∧q0e w Fr ι z u
 |[],[],x,z,vx,h,hx,_,_=>by
  simp only[qMJ,Option.some.injEq]at h;subst h;exact⟨vx,by simp,hx⟩
 |y::l,vy::vl,x,z,vx,h,hx,hlen,hr=>by
  unfold qMJ at h;split at h
  ·rename_i t ht;obtain⟨u,hu,hur⟩:=hf _ _ _ _ _ ht hx (by simpa using hr 0 (by simp));obtain⟨u',hu',hur'⟩:=qFZ hf l vl t z u h hur (by simpa using hlen) (fun j hj=>by simpa using hr (j+1) (by simpa using hj));exact⟨u',by simp[hu,hu'],hur'⟩
  ·simp at h
 |[],_::_,_,_,_,_,_,h,_=>by simp at h
 |_::_,[],_,_,_,_,_,h,_=>by simp at h
include hT in
theorem qOA {w:World} {Fr:Nat→Nat→Prop} {ι:q1K} {src dst:Nat} {x:V} {vx:Value} {e:Ef} (he:qXT tt src dst x=some e) (ho:∀p∈e.ob,p) (hx:q0e w Fr ι x vx):
  e.upd=[]∧∃z,(convert src dst vx).run P w=.ok z w∧q0e w Fr ι e.v z:=by
 unfold qXT at he;split at he
 ·rename_i h1 h2;simp only[okO,Option.some.injEq]at he;subst he;have hi:=q31 hx;subst hi;have hk:=ho _ (List.mem_singleton.2 rfl);refine⟨rfl,_,?_,.atom rfl (.int _ _)⟩;unfold convert;simp only[Sem.run_bind,q4v hT h1,q4v hT h2,Result.andThen_ok,Conv.intToInt];rw[hk];rfl
 ·rename_i h1 h2;simp only[ok,Option.some.injEq]at he;subst he;have hi:=q5W hx;subst hi;refine⟨rfl,_,?_,.atom rfl (.str _)⟩;unfold convert;simp[q4v hT h1,q4v hT h2]
 ·simp at he
end
theorem q40 {f:V→V} {cs:List V} {j:Nat} (hj:j<cs.length):(cs.map f).getD j .undef=f (cs.getD j .undef):=by
 simp[List.getD,hj]
theorem qEz (S:List (Nat×Blk)) (te:Nat) (v:V):(q6V S te v).cells=[q6V S te v]:=by
 cases v<;>simp only[q6V]<;>first|rfl|skip
 split
 ·split<;>rfl
 ·rfl
set_option backward.match.sparseCases false in
def qYY (te:Nat) (c:V):Bool:=match q2D c with
 |some t=>(Nat.beq t te&& !(Nat.beq t q0l))||Nat.beq te 0||(Nat.ble 2 te&&Nat.ble 2 t&& !(Nat.beq te q0l))
 |none=>match c with
  | .fn _ _=>false
  | .osl _ _=>false
  | .oref _ _ _=>false
  |_=>true
theorem qGG {te:Nat} {v:V} (h:qYz te v=true):q87 v=true∧∀j,j<v.cells.length→qYY te (v.cells.getD j .undef)=true:=by
 unfold qYz at h;rw[Bool.and_eq_true]at h;exact⟨h.1,fun j hj=>q5c (p:=qYY te) h.2 hj⟩
theorem qKr {g:G} {s:AS} {a:Act} {w:World} {ι:q1K} {Fr:Nat→Nat→Prop} (h:Rel g s a w ι Fr) {te:Nat} {ids:List Nat} {c:V} {v:Value}
  (hc:q0e w Fr ι c v) (hid:∀id∈c.ids,id∈ids) (hf:qYY te (q6V s.S te c)=true) (hs:q1l (q6V s.S te c)=true):
  PRep w (FrK Fr s.S ι ids te te) (q6V s.S te c) v:=by
 cases hc with
 |osl hi hn hcap hsh hcs=>
  rename_i id n b sz m cap cz e;simp only[q6V]at hf hs⊢;split at hs
  ·rename_i sz' m' f te' hl h64;split at hs
   ·rename_i h1;obtain⟨rfl,rfl,cells,e',hh,hsz,hlen,hr⟩:=(h.own id _ b sz m hl hi).1;refine .sl (sz:=sz') (off:=0) (fun i j=>cells.getD (i*sz'+j) Go.undef) (.inr (.inl ⟨.inl rfl,id,hid id (by simp[V.ids]),_,_,hl,hi,rfl,rfl⟩)) hcap (fun i hin=>hlen i (by omega)) (fun i j hin hj=>?_) (fun i j hin hj=>?_)
    ·have hmul:i*sz'+sz'≤cells.size:=by
      have h1:i*sz'+sz'=(i+1)*sz':=by rw[Nat.add_mul,Nat.one_mul]
      have h2:(i+1)*sz'≤m'*sz':=Nat.mul_le_mul_right _ (by omega);omega
     rw[Nat.zero_add];exact q4Q hh (by omega)
    ·refine(hr i j (by omega) hj).weaken fun b' hb'=>?_;simp only[Bool.or_eq_true,Bool.and_eq_true,Bool.not_eq_true',q0y,q1N]at h1;rcases h1 with((rfl|rfl)|rfl)|⟨⟨h5,h6⟩,h7⟩
     ·exact .inl hb'
     ·exact absurd hb' (h.frS b')
     ·exact .inl (h.fr0 _ _ hb')
     ·exact .inr (.inr ⟨rfl,Nat.le_of_ble_eq_true h6,h7,_,Nat.le_of_ble_eq_true h5,hb'⟩)
   ·simp[q1l]at hs
  ·simp[q1l]at hs
 |osl0 x hi=>
  rename_i id;simp only[q6V]at hf hs⊢;split at hs
  ·rename_i sz' m' f te' hl h64;split at hs
   ·exact .sl0 _ _ _ _
   ·simp[q1l]at hs
  ·simp[q1l]at hs
 |oref=>simp[q6V,q1l]at hs
 |oss=>simp[q6V,q1l]at hs
 |oss0=>simp[q6V,q1l]at hs
 |omap=>simp[q6V,q1l]at hs
 |agg=>simp[q6V,q1l]at hs
 |tup=>simp[q6V,q1l]at hs
 |fn=>simp[q6V,q1l]at hs
 |cnd=>simp[q6V,q1l]at hs
 |atom hv hp=>
  have he:q6V s.S te c=c:=by cases c<;>first|rfl|(simp[isP]at hv;done)
  rw[he]at hf⊢;refine hp.weaken fun b' hb'=>?_;unfold qYY at hf;unfold qUo at hb';cases ht:q2D c with
  |none=>rw[ht]at hb';exact absurd hb' (h.frS b')
  |some t=>
   rw[ht]at hf hb';simp only[Bool.or_eq_true,Bool.and_eq_true,Bool.not_eq_true',q0y,q1N]at hf;rcases hf with(⟨rfl,_⟩|rfl)|⟨⟨h5,h6⟩,h7⟩
   ·exact .inl hb'
   ·exact .inl (h.fr0 _ _ hb')
   ·exact .inr (.inr ⟨rfl,Nat.le_of_ble_eq_true h5,h7,_,Nat.le_of_ble_eq_true h6,hb'⟩)
theorem qRs {x:V} (hx:∃cs,x=.agg cs):∀j,j<x.cells.length→∀id∈(x.cells.getD j .undef).ids,id∈x.ids:=by
 obtain⟨cs,rfl⟩:=hx;simp only[V.cells,V.ids];intro j hj id hid;induction cs generalizing j with
 |nil=>simp at hj
 |cons c cs ih=>
  simp only[V.idsL,List.mem_append];cases j with
  |zero=>left;simpa using hid
  |succ j=>right;exact ih j (by simpa using hj) (by simpa using hid)
theorem qRG {g:G} {s:AS} {a:Act} {w:World} {ι:q1K} {Fr:Nat→Nat→Prop} (h:Rel g s a w ι Fr) {te:Nat} {ids:List Nat} {x:V} {v:Value}
  (hx:q0e w Fr ι x v) (hid:∀id∈x.ids,id∈ids) (hf:qYz te (frz s.S te x)=true):
  v.cells.size=(frz s.S te x).cells.length∧(frz s.S te x).cells.length=x.cells.length∧(∀j,j<v.cells.size→one (v.cells.getD j Go.undef)=true)∧
   ∀j,j<(frz s.S te x).cells.length→PRep w (FrK Fr s.S ι ids te te) ((frz s.S te x).cells.getD j .undef) (v.cells.getD j Go.undef):=by
 obtain⟨hsol,hfit⟩:=qGG hf;by_cases hag:∃cs,x=.agg cs
 ·have hids:=qRs hag;obtain⟨cs,rfl⟩:=hag;obtain⟨arr,rfl,hsz,hr⟩:=qB2 hx;simp only[frz,V.cells,List.length_map]at hfit hids⊢;have hsa:∀j,j<cs.length→q1l (q6V s.S te (cs.getD j .undef))=true:=by
   intro j hj;have:=q5c (cs:=cs.map (q6V s.S te)) hsol (j:=j) (by simpa using hj)
   rwa [q40 hj]at this
  have key:∀j,j<cs.length→PRep w (FrK Fr s.S ι ids te te) (q6V s.S te (cs.getD j .undef)) (arr.getD j Go.undef):=by
   intro j hj;have h2:=hfit j hj;rw[q40 hj]at h2;exact qKr h (hr j hj) (fun id hi=>hid id (hids j hj id hi)) h2 (hsa j hj)
  refine⟨hsz,trivial,fun j hj=>?_,fun j hj=>?_⟩
  ·have hj':j<cs.length:=by simpa[Value.cells,hsz]using hj
   have:=(q0e.atom (Fr:=fun _=>FrK Fr s.S ι ids te te) (ι:=ι) (by
    have:=hsa j hj';cases hfz:q6V s.S te (cs.getD j .undef)<;>first|rfl|(rw[hfz]at this;simp[q1l]at this;done)|skip
    all_goals
     exfalso;have h2:=hfit j hj';rw[q40 hj',hfz]at h2;simp[qYY,q2D]at h2) (key j hj')).one (hsa j hj')
   exact this
  ·rw[q40 hj];exact key j hj
 ·have hfz:(frz s.S te x)=q6V s.S te x:=by
   cases x<;>first|rfl|exact absurd ⟨_,rfl⟩ hag
  have hc1:=qEz s.S te x;rw[hfz]at hsol hfit⊢;rw[hc1]at hfit⊢;have hsa:q1l (q6V s.S te x)=true:=by
   cases hy:q6V s.S te x<;>first|(rw[hy]at hsol;exact hsol)|skip
   rename_i cs;rw[hy]at hc1;simp only[V.cells]at hc1;have:(V.agg cs)=V.undef:=by
    exfalso;cases x<;>simp only[q6V]at hy<;>first|cases hy|skip
    split at hy
    ·split at hy<;>cases hy
    ·cases hy
   cases this
  have hp:=qKr h hx hid (by simpa using hfit 0 (by simp)) hsa;have hxc:x.cells=[x]:=by
   cases x<;>first|rfl|exact absurd ⟨_,rfl⟩ hag
  have hone:one v=true:=by
   refine hx.one ?_;cases x<;>first|rfl|(simp[q6V,q1l]at hsa;done)
  rw[qID hone,hxc];refine⟨by simp,by simp,fun j hj=>?_,fun j hj=>?_⟩
  ·have:j=0:=by simpa using hj
   subst this;simpa using hone
  ·have:j=0:=by simpa using hj
   subst this;simpa using hp
def q1b:Array Value→Nat→List Value→Array Value
 |arr,_,[]=>arr
 |arr,o,v::r=>q1b (arr.setIfInBounds o v) (o+1) r
theorem q28:∀(l:List Value) (arr:Array Value) (o:Nat),(q1b arr o l).size=arr.size
 |[],_,_=>rfl
 |v::r,arr,o=>by rw[q1b,q28 r];simp
theorem q3D:∀(l:List Value) (arr:Array Value) (o j:Nat),o+l.length≤arr.size→
  (q1b arr o l).getD j Go.undef=if o≤j∧j<o+l.length then l.getD (j-o) Go.undef else arr.getD j Go.undef
 |[],arr,o,j,_=>by
  have:¬(o≤j∧j<o+([]:List Value).length):=by simp
  rw[if_neg this];rfl
 |v::r,arr,o,j,h=>by
  simp only[List.length_cons]at h;rw[q1b,q3D r _ _ _ (by simp;omega),qFf _ _ _ _ _ (by omega)];by_cases h1:j=o
  ·subst h1;have e1:¬(j+1≤j∧j<j+1+r.length):=by omega
   have e2:j≤j∧j<j+(v::r).length:=by simp
   rw[if_neg e1,if_pos rfl,if_pos e2];simp
  ·by_cases h2:o+1≤j∧j<o+1+r.length
   ·have e2:o≤j∧j<o+(v::r).length:=by simp only[List.length_cons];omega
    rw[if_pos h2,if_pos e2];have:j-o=(j-(o+1))+1:=by omega
    rw[this];simp
   ·have e2:¬(o≤j∧j<o+(v::r).length):=by simp only[List.length_cons];omega
    rw[if_neg h2,if_neg e2,if_neg h1]
theorem q3B:∀(cs:List V) (off:Nat) (xs:List V),(qAI cs off xs).length=cs.length
 |[],_,_=>by simp[qAI]
 |_::_,0,[]=>rfl
 |_::cs,0,_::xs=>by simp[qAI,q3B cs]
 |_::cs,off+1,xs=>by simp[qAI,q3B cs]
theorem q6E:∀(cs:List V) (off:Nat) (xs:List V) (j:Nat),off+xs.length≤cs.length→
  (qAI cs off xs).getD j .undef=if off≤j∧j<off+xs.length then xs.getD (j-off) .undef else cs.getD j .undef
 |[],off,xs,j,h=>by
  have:¬(off≤j∧j<off+xs.length):=by simp only[List.length_nil]at h;omega
  rw[if_neg this];rfl
 |c::cs,0,[],j,_=>by
  have:¬(0≤j∧j<0+([]:List V).length):=by simp
  rw[if_neg this];rfl
 |c::cs,0,x::xs,j,h=>by
  simp only[List.length_cons]at h;rw[qAI];cases j with
  |zero=>simp
  |succ j=>
   have ih:=q6E cs 0 xs j (by omega);simp only[List.getD_cons_succ,ih];by_cases h2:j<xs.length
   ·rw[if_pos (by omega),if_pos (by simp;omega)];simp
   ·rw[if_neg (by omega),if_neg (by simp;omega)]
 |c::cs,off+1,xs,j,h=>by
  simp only[List.length_cons]at h;rw[qAI];cases j with
  |zero=>rw[if_neg (by omega)];simp
  |succ j=>
   have ih:=q6E cs off xs j (by omega);simp only[List.getD_cons_succ,ih];by_cases h2:off≤j∧j<off+xs.length
   ·rw[if_pos h2,if_pos (by omega)];congr 1;omega
   ·rw[if_neg h2,if_neg (by omega)]
section
variable {P:Program}
def q18 (w:World) (b:Nat) (arr:Array Value) (e:TypeId):World:={ w with heap:=w.heap.setIfInBounds b (.cells arr e (0,0)) }
theorem qAb {w:World} {b o:Nat} {arr:Array Value} {e:TypeId} {v:Value} (h:w.heap[b]?=some (.cells arr e (0,0))):
  w.setCell ⟨b,o,none⟩ v=q18 w b (arr.setIfInBounds o v) e:=by
 have hb:b<w.heap.size:=by
  rcases Nat.lt_or_ge b w.heap.size with h'|h'
  ·exact h'
  ·simp[Array.getElem?_eq_none h']at h
 unfold World.setCell q18;congr 1;apply Array.ext_getElem?;intro k;rw[Array.getElem?_modify,Array.getElem?_setIfInBounds];by_cases hk:b=k
 ·subst hk;have hg:w.heap[b]=.cells arr e (0,0):=by
   rw[Array.getElem?_eq_getElem hb]at h;exact Option.some.inj h
  simp[hb,hg]
 ·simp[hk]
theorem q4H {w:World} {b:Nat} {arr:Array Value} {e:TypeId} (hb:b<w.heap.size):(q18 w b arr e).heap[b]?=some (.cells arr e (0,0)):=by
 simp[q18,hb]
theorem q3Y {w:World} {b k:Nat} {arr:Array Value} {e:TypeId} (hk:k≠b):(q18 w b arr e).heap[k]?=w.heap[k]?:=by
 have:b≠k:=fun h=>hk h.symm;simp[q18,Array.getElem?_setIfInBounds_ne this]
theorem qE2 (w:World) (b:Nat) (arr arr':Array Value) (e e':TypeId):q18 (q18 w b arr e) b arr' e'=q18 w b arr' e':=by
 simp[q18]
theorem q5g {w:World} {b:Nat} {arr:Array Value} {e:TypeId}:(q18 w b arr e).heap.size=w.heap.size:=by simp[q18]
theorem q5d {b:Nat} {e:TypeId}:∀(l:List Value) (w:World) (arr:Array Value) (o i:Nat),w.heap[b]?=some (.cells arr e (0,0))→o+i+l.length≤arr.size→
  (∀v∈l,one v=true)→(storeCells ⟨b,o,none⟩ l i).run P w=.ok () (if l=[]then w else q18 w b (q1b arr (o+i) l) e)
 |[],w,arr,o,i,_,_,_=>by simp[storeCells]
 |v::r,w,arr,o,i,h,hsz,hone=>by
  have hb:b<w.heap.size:=by
   rcases Nat.lt_or_ge b w.heap.size with h'|h'
   ·exact h'
   ·simp[Array.getElem?_eq_none h']at h
  simp only[List.length_cons]at hsz;have hv:v.oneCell'=true:=by
   have:=hone v (List.mem_cons_self ..);cases v<;>first|rfl|(simp[one]at this;done)
  have hc:=q4Q h (k:=o+i) (by omega);have hfz:w.frozen? ⟨b,o+i,none⟩=false:=by simp[World.frozen?,h]
  have h1:(store ((⟨b,o,none⟩:Addr).add i) v).run P w=.ok () (q18 w b (arr.setIfInBounds (o+i) v) e):=by
   rw[q5b,run_store P w _ v .plain hv,hc];simp only[hfz,Bool.false_eq_true,if_false];rw[qAb h]
  have ih:=q5d r (q18 w b (arr.setIfInBounds (o+i) v) e) (arr.setIfInBounds (o+i) v) o (i+1) (q4H hb) (by simp;omega) (fun v hv=>hone v (List.mem_cons_of_mem _ hv));rw[storeCells,Sem.run_bind,h1];simp only[Result.andThen_ok,ih];congr 1;simp only[reduceCtorEq,if_false,q1b,qE2];split
  ·rename_i hr;subst hr;simp[q1b]
  ·congr 1
theorem q8v {w:World} {b k:Nat} {arr arr':Array Value} {e:TypeId} {f:Nat×Nat} {s:TypeId×Nat} (h:w.heap[b]?=some (.cells arr e f)) (hs:arr'.size=arr.size)
  (hk:w.shape? k=some s):(q18 w b arr' e).shape? k=some s:=by
 have hb:b<w.heap.size:=by
  rcases Nat.lt_or_ge b w.heap.size with h'|h'
  ·exact h'
  ·simp[Array.getElem?_eq_none h']at h
 unfold World.shape? at hk⊢;by_cases e1:k=b
 ·subst e1;rw[q4H hb];rw[h]at hk;simpa[hs]using hk
 ·rw[q3Y e1];exact hk
end
theorem qEp {s:AS} {id:Nat} (h:q17 s id) (x:Operand):V.ment (fun k=>Nat.beq k id) (q1H (q20 s x))=false:=by
 have key:V.ment (fun k=>Nat.beq k id) (q20 s x)=false:=by
  cases x with
  |tmp t=>
   simp only[q20];cases hl:lk s.T t with
   |some v=>exact h.T t v hl
   |none=>rfl
  |const v=>
   simp only[q20];unfold qGU;have hcell:∀v,V.ment (fun k=>Nat.beq k id) (q6L v)=false:=by
    intro v;unfold q6L;split<;>rfl
   split
   ·rename_i cs;simp only[V.ment];induction cs.toList with
    |nil=>rfl
    |cons c l ih=>simp only[List.map,V.mentL,hcell,Bool.false_or];exact ih
   ·rfl
   ·exact hcell _
  |global n=>rfl
  |func f=>rfl
 cases hv:q20 s x with
 |cnd c v=>rw[hv]at key;exact key
 |_=>rw[hv]at key;exact key
theorem qDZ {p:Nat→Bool} {v:V} (h:V.ment p v=false):V.mentL p v.cells=false:=by
 cases v with
 |agg cs=>exact h
 |_=>simp only[V.cells,V.mentL,h,Bool.false_or]
theorem Rel.newBlk {g:G} {s:AS} {a:Act} {w:World} {ι:q1K} {Fr:Nat→Nat→Prop} (h:Rel g s a w ι Fr) {id:Nat} (hf:q17 s id) {arr:Array Value} {e:TypeId} {sz m:Nat} {blk:Blk}
  (hown:∀w':World,w'.heap[w.heap.size]?=some (.cells arr e (0,0))→(∀b,b<w.heap.size→w'.heap[b]?=w.heap[b]?)→(∀b x,w.shape? b=some x→w'.shape? b=some x)→
   qAT w' Fr (q9U ι id (some (w.heap.size,sz,m))) w.heap.size sz m blk):
  Rel g { s with S:=Go.Av.put s.S id blk } a (w.alloc (.cells arr e (0,0))) (q9U ι id (some (w.heap.size,sz,m))) Fr:=by
 have hb:∀b,b<w.heap.size→(w.alloc (.cells arr e (0,0))).heap[b]?=w.heap[b]?:=fun b hb=>Go.RowKit.Below.heap_alloc _ _ _ hb;have hsh:∀b x,w.shape? b=some x→(w.alloc (.cells arr e (0,0))).shape? b=some x:=by
  intro b x hx;have hlt:b<w.heap.size:=by
   rcases Nat.lt_or_ge b w.heap.size with h'|h'
   ·exact h'
   ·simp[World.shape?,Array.getElem?_eq_none h']at hx
  unfold World.shape? at hx⊢;rw[hb b hlt];exact hx
 have h1:=h.grow (w':=w.alloc (.cells arr e (0,0))) rfl rfl rfl (by simp) hb;refine h1.addBlk hf (hown _ (heap_alloc_new w _) hb hsh) (.inl h.hsize) (fun t ht=>?_) (fun k c r hl hi e1=>?_)
 ·have:=(h.fr t _ ht).1;omega
 ·obtain⟨b,sz',m'⟩:=r;have:=(h.own k c b sz' m' hl hi).1.lt;simp only at e1;omega
theorem q3c {P:Program} {g:G} {s:AS} {a:Act} {w w':World} {ι':q1K} {Fr':Nat→Nat→Prop} {o:Oper} {e:Ef} {x:Value}
  (hd:q4Z g.nt o=true) (hr:(execOp a.eval o).run P w=.ok (.value x) w') (h:Rel g { s with S:=q0Y s.S e.upd } a w' ι' Fr') (hv:q0e w' Fr' ι' e.v x):
  q90 P g (s.app o.dst e) a w o:=by
 intro next Q hn
 unfold Oper.wp;rw[hr];simp only[Oper.upon];unfold AS.app at hn;cases hdst:o.dst with
 |none=>rw[hdst]at hn;exact hn _ _ ι' Fr' h
 |some d=>
  rw[hdst]at hn;have hlt:d<g.nt:=by
   unfold q4Z at hd;rw[hdst]at hd;exact Nat.le_of_ble_eq_true hd
  exact hn _ _ ι' Fr' (h.put hlt hv)
theorem qDg {P:Program} {g:G} {s:AS} {a:Act} {w w':World} {ι':q1K} {Fr':Nat→Nat→Prop} {o:Oper} {e:Ef}
  (hd:q4Z g.nt o=true) (hr:(execOp a.eval o).run P w=.ok .skip w') (h:Rel g { s with S:=q0Y s.S e.upd } a w' ι' Fr') (hv:e.v=.undef):
  q90 P g (s.app o.dst e) a w o:=by
 intro next Q hn
 unfold Oper.wp;rw[hr];simp only[Oper.upon];unfold AS.app at hn;cases hdst:o.dst with
 |none=>rw[hdst]at hn;exact hn _ _ ι' Fr' h
 |some d=>
  rw[hdst]at hn;have hlt:d<g.nt:=by
   unfold q4Z at hd;rw[hdst]at hd;exact Nat.le_of_ble_eq_true hd
  exact hn _ _ ι' Fr' (h.put hlt (by rw[hv];exact .atom rfl (.undef _)))
section
variable {P:Program} {tt:TT} (hT:q4K P tt)
theorem qEu (t:TypeId) (v:Value) (w:World):(newVar t v).run P w=.ok ⟨w.heap.size,0,none⟩ (w.alloc (.cells v.cells t (0,0))):=by
 unfold newVar newRow;simp
theorem qPD {g:G} {s:AS} {a:Act} {w:World} {ι:q1K} {Fr:Nat→Nat→Prop} (h:Rel g s a w ι Fr) {id:Nat} (hf:q17 s id) {cs:List V} {arr:Array Value} (t:TypeId)
  (hs:arr.size=cs.length) (hr:∀j,j<cs.length→q0e w Fr ι (cs.getD j .undef) (arr.getD j Go.undef)) (hm:V.mentL (fun k=>Nat.beq k id) cs=false):
  Rel g { s with S:=put s.S id (.box cs) } a (w.alloc (.cells arr t (0,0))) (q9U ι id (some (w.heap.size,1,1))) Fr∧
   q0e (w.alloc (.cells arr t (0,0))) Fr (q9U ι id (some (w.heap.size,1,1))) (.oref id 0 0) (.pointer (some ⟨w.heap.size,0,none⟩)):=by
 refine⟨h.newBlk (blk:=.box cs) (sz:=1) (m:=1) hf fun w' hw hb hsh=>?_,?_⟩
 ·refine⟨arr,t,hw,hs,fun j hj=>?_⟩;exact(hr j hj).mono (p:=fun k=>Nat.beq k id) (fun t b hb'=>⟨hb',hb b (h.fr t b hb').1⟩) (fun k hk=>q3e hk) (q6B hm hj) (fun _ r e _ _ hs=>hsh _ _ hs)
 ·have:=q0e.oref (w:=w.alloc (.cells arr t (0,0))) (Fr:=Fr) (ι:=q9U ι id (some (w.heap.size,1,1))) (id:=id) (i:=0) (off:=0) (b:=w.heap.size) (sz:=1) (m:=1) (by simp[q9U]) (by omega);simpa using this
include hT in
theorem qNI {g:G} {s:AS} {a:Act} {w:World} {ι:q1K} {Fr:Nat→Nat→Prop} (h:Rel g s a w ι Fr) {o:Oper} {el:TypeId} {ti:TI} (hop:o.op=.alloc el) (hl:lk tt el=some ti)
  {id:Nat} (hf:q17 s id) (hd:q4Z g.nt o=true):q90 P g (s.app o.dst ⟨.oref id 0 0,[(id,some (.box ti.zero.cells))],[],[]⟩) a w o:=by
 obtain⟨z,hz,hzr,hzc,hzs,_⟩:=qFW hT hl w;have hcells:z.cells.size=ti.zero.cells.length∧∀j,j<ti.zero.cells.length→q0e w Fr ι (ti.zero.cells.getD j .undef) (z.cells.getD j Go.undef):=by
  refine⟨by rw[hzs,hzc],fun j hj=>?_⟩;by_cases hag:∃cs,ti.zero=.agg cs
  ·obtain⟨cs,hcs⟩:=hag;rw[hcs]at hzr hj⊢;cases hzr with
   |agg arr h1 h2=>exact q0e.ofP (h2 j hj)
  ·have hc:ti.zero.cells=[ti.zero]:=by
    cases hv:ti.zero<;>first|rfl|exact absurd ⟨_,hv⟩ hag
   rw[hc]at hj hzc⊢;have hj0:j=0:=by simpa using hj
   subst hj0;have h1:z.cells.size=1:=by rw[hzs,←hzc];rfl
   have:z.cells.getD 0 Go.undef=z∨ti.zero=.undef:=by
    cases hzv:z with
    |agg cs=>
          right;rw[hzv]at hzr;cases hv:ti.zero<;>rw[hv]at hzr<;>first|rfl|(exfalso;cases hzr;done)|skip
          exact absurd ⟨_,hv⟩ hag
    |_=>left;rfl
   rcases this with h2|h2
   ·rw[h2];exact q0e.ofP hzr
   ·rw[h2];exact .atom rfl (.undef _)
 have hm:V.mentL (fun k=>Nat.beq k id) ti.zero.cells=false:=by
  have hno:∀{v:V} {x:Value},PRep w (fun _=>False) v x→∀p,V.ment p v=false:=by
   intro v x hp p;induction hp with
   | @agg cs arr hs _ ih=>
    simp only[V.ment];have:∀(l:List V),(∀j,j<l.length→V.ment p (l.getD j .undef)=false)→V.mentL p l=false:=by
     intro l;induction l with
     |nil=>intro _;rfl
     |cons c l ih=>intro h;simp only[V.mentL,Bool.or_eq_false_iff];exact⟨by simpa using h 0 (by simp),ih fun j hj=>by simpa using h (j+1) (by simpa using hj)⟩
    exact this cs ih
   | @tup cs arr hs _ ih=>
    simp only[V.ment];have:∀(l:List V),(∀j,j<l.length→V.ment p (l.getD j .undef)=false)→V.mentL p l=false:=by
     intro l;induction l with
     |nil=>intro _;rfl
     |cons c l ih=>intro h;simp only[V.mentL,Bool.or_eq_false_iff];exact⟨by simpa using h 0 (by simp),ih fun j hj=>by simpa using h (j+1) (by simpa using hj)⟩
    exact this cs ih
   | @fn _ cs arr hs _ ih=>
    simp only[V.ment];have:∀(l:List V),(∀j,j<l.length→V.ment p (l.getD j .undef)=false)→V.mentL p l=false:=by
     intro l;induction l with
     |nil=>intro _;rfl
     |cons c l ih=>intro h;simp only[V.mentL,Bool.or_eq_false_iff];exact⟨by simpa using h 0 (by simp),ih fun j hj=>by simpa using h (j+1) (by simpa using hj)⟩
    exact this cs ih
   |_=>rfl
  exact qDZ (hno hzr _)
 obtain⟨h1,h2⟩:=qPD h hf el hcells.1 hcells.2 hm;refine q3c (x:=.pointer (some ⟨w.heap.size,0,none⟩)) hd ?_ h1 h2;unfold execOp;rw[hop];refine q7Z ?_;unfold Instr.alloc;simp[hz,qEu]
theorem qSv {g:G} {s:AS} {a:Act} {w:World} {ι:q1K} {Fr:Nat→Nat→Prop} (h:Rel g s a w ι Fr) {o:Oper} {el:TypeId} {x:Operand} (hop:o.op=.box el x)
  (hx:q0e w Fr ι (q1H (q20 s x)) (a.eval x)) (hs:q87 (q1H (q20 s x))=true)
  {id:Nat} (hf:q17 s id) (hd:q4Z g.nt o=true):q90 P g (s.app o.dst ⟨.oref id 0 0,[(id,some (.box (q1H (q20 s x)).cells))],[],[]⟩) a w o:=by
 obtain⟨h1,h2⟩:=hx.cells hs;obtain⟨h3,h4⟩:=qPD h hf el h1 (fun j hj=>(h2 j hj).1) (qDZ (qEp hf x));refine q3c (x:=.pointer (some ⟨w.heap.size,0,none⟩)) hd ?_ h3 h4;unfold execOp;rw[hop];refine q7Z ?_;unfold Instr.box;simp[qEu]
theorem q9F {cs cs':List V} {off:Nat} {xs:List V} (h:qDG cs off xs=some cs'):off+xs.length≤cs.length∧cs'=qAI cs off xs:=by
 unfold qDG at h;split at h
 ·rename_i hb;exact⟨Nat.le_of_ble_eq_true hb,by simpa using h.symm⟩
 ·simp at h
include hT in
theorem qIg {t:Nat} {ti:TI} (hl:lk tt t=some ti) {w:World} {b o:Nat} {arr:Array Value} {e:TypeId} {v:Value} (hb:w.heap[b]?=some (.cells arr e (0,0)))
  (hsz:v.cells.size=ti.size) (hle:o+ti.size≤arr.size) (hone:∀j,j<v.cells.size→one (v.cells.getD j Go.undef)=true):
  (Instr.storeAt t (.pointer (some ⟨b,o,none⟩)) v).run P w=.ok () (if v.cells.toList=[]then w else q18 w b (q1b arr o v.cells.toList) e):=by
 unfold Instr.storeAt Instr.sureAddr storeVar;have h1:∀x∈v.cells.toList,one x=true:=by
  intro x hx;obtain⟨j,hj,rfl⟩:=List.mem_iff_getElem.1 hx;have:=hone j (by simpa using hj);simpa[show j<v.cells.size by simpa using hj]using this
 have:=q5d (P:=P) v.cells.toList w arr o 0 hb (by simp;omega) h1;simp only[Sem.run_bind,Sem.run_pure,Result.andThen_ok,q2c hT hl,hsz,ne_eq,not_true_eq_false,if_false,Nat.add_zero]at this⊢;exact this
end
theorem q6z {w:World} {b:Nat} {arr:Array Value} {e:TypeId} (h:w.heap[b]?=some (.cells arr e (0,0))):q18 w b arr e=w:=by
 unfold q18;have:w.heap.setIfInBounds b (.cells arr e (0,0))=w.heap:=by
  apply Array.ext_getElem?;intro k;by_cases hk:b=k
  ·subst hk;have hb:b<w.heap.size:=by
    rcases Nat.lt_or_ge b w.heap.size with h'|h'
    ·exact h'
    ·simp[Array.getElem?_eq_none h']at h
   simp[hb];rw[Array.getElem?_eq_getElem hb]at h;exact(Option.some.inj h).symm
  ·rw[Array.getElem?_setIfInBounds_ne hk]
 rw[this]
theorem qA1:∀{l:List Nat},qJE l=true→∀id∈l,64≤id
 |[],_,_,h=>by cases h
 |k::r,h,id,hid=>by
  simp only[qJE,Bool.and_eq_true]at h;rcases List.mem_cons.1 hid with rfl|hid
  ·exact Nat.le_of_ble_eq_true h.1
  ·exact qA1 h.2 id hid
theorem qMT {v:V} {cs:List V} (hl:cs.length=v.cells.length) (hs:∀j,j<cs.length→∀ds,cs.getD j .undef≠.agg ds):
  (qB6 (qLV v) cs).cells=cs:=by
 by_cases hag:∃ds,v=.agg ds
 ·obtain⟨ds,rfl⟩:=hag;rfl
 ·have h1:qLV v=false:=by
   cases v<;>first|rfl|exact absurd ⟨_,rfl⟩ hag
  have h2:v.cells=[v]:=by
   cases v<;>first|rfl|exact absurd ⟨_,rfl⟩ hag
  rw[h1];rw[h2]at hl
  match cs,hl with
  |[c],_=>
   simp only[qB6,List.headD];have:=hs 0 (by simp);cases c<;>first|rfl|exact absurd rfl (this _)
theorem qLY:∀(ds:List V),(∀j,j<ds.length→(ds.getD j .undef).ids=[])→V.idsL ds=[]
 |[],_=>rfl
 |c::l,h=>by
  have h0:=h 0 (by simp);simp only[List.getD_cons_zero]at h0;rw[V.idsL,h0,qLY l fun j hj=>by simpa using h (j+1) (by simpa using hj)];rfl
section
variable {P:Program} {tt:TT} (hT:q4K P tt)
include hT in
theorem qGu {t:Nat} {ti:TI} (hl:lk tt t=some ti) {w:World} {b o:Nat} {arr:Array Value} {e:TypeId} {v:Value} (hb:w.heap[b]?=some (.cells arr e (0,0)))
  (hsz:v.cells.size=ti.size) (hle:o+ti.size≤arr.size) (hone:∀j,j<v.cells.size→one (v.cells.getD j Go.undef)=true):
  (Instr.storeAt t (.pointer (some ⟨b,o,none⟩)) v).run P w=.ok () (q18 w b (q1b arr o v.cells.toList) e):=by
 rw[qIg hT hl hb hsz hle hone];split
 ·rename_i h;rw[h,q1b,q6z hb]
 ·rfl
theorem q5X (a:Array Value) (j:Nat):a.toList.getD j Go.undef=a.getD j Go.undef:=by
 by_cases h:j<a.size
 ·simp[h]
 ·simp[h]
include hT in
theorem qN9 {g:G} {s:AS} {a:Act} {w:World} {ι:q1K} {Fr:Nat→Nat→Prop} (h:Rel g s a w ι Fr) {o:Oper} {t:TypeId} {ti:TI} {p x:Operand} (hop:o.op=.store t p x) (hl:lk tt t=some ti)
  (hp:q0e w Fr ι (q1H (q20 s p)) (a.eval p)) (hx:q0e w Fr ι (q1H (q20 s x)) (a.eval x)) (hd:q4Z g.nt o=true)
  {e:Ef} (he:qBY s.S ti (q1H (q20 s p)) (q1H (q20 s x))=some e) (ho:∀q∈e.ob,q):q90 P g (s.app o.dst e) a w o:=by
 generalize q1H (q20 s p)=pv at*;generalize q1H (q20 s x)=xv at*;have hrun:∀w',(Instr.storeAt t (a.eval p) (a.eval x)).run P w=.ok () w'→(execOp a.eval o).run P w=.ok .skip w':=by
  intro w' hr;unfold execOp;rw[hop];exact qYB hr
 generalize a.eval p=vp at hp hrun;unfold qBY at he;split at he
 case h_2=>simp at he
 case h_1 id i off hcond=>
  simp only[Bool.and_eq_true,q0y]at hcond;obtain⟨hlen,hsol⟩:=hcond;obtain⟨hxc,hxr⟩:=hx.cells hsol;cases hp with
  |atom hv _=>simp[isP]at hv
  | @oref _ _ _ b sz m hi him=>
   cases hb:lk s.S id with
   |none=>simp[hb]at he
   |some blk=>
    have hown:=(h.own id blk b sz m hb hi).1;have hblt:=hown.lt;cases blk with
    |mp=>simp[hb]at he
    |box cs=>
     simp only[hb]at he;cases i with
     |succ i=>simp at he
     |zero=>
      cases hw:qDG cs off xv.cells with
      |none=>simp[hw]at he
      |some cs'=>
       simp only[hw,Option.some.injEq]at he;subst he;obtain⟨hle,rfl⟩:=q9F hw;obtain⟨arr,e',hh,hsz,hcr⟩:=hown;have hst:=qGu (P:=P) hT hl (o:=off) hh (v:=a.eval x) (by omega) (by omega) (fun j hj=>(hxr j (by omega)).1.one (hxr j (by omega)).2);have hval:(.pointer (some ⟨b,0*sz+off,none⟩):Value)=.pointer (some ⟨b,off,none⟩):=by simp
       have hw1:=hrun (q18 w b (q1b arr off (a.eval x).cells.toList) e') (by rw[hval];exact hst);refine qDg (ι':=ι) (Fr':=Fr) hd hw1 ?_ rfl;have hF:∀t k,Fr t k→Fr t k∧(q18 w b (q1b arr off (a.eval x).cells.toList) e').heap[k]?=w.heap[k]?:=fun t k hf=>⟨hf,q3Y fun e1=>(h.fr t k hf).2.2 id _ _ hb hi e1.symm⟩;have hsh:∀k x',w.shape? k=some x'→(q18 w b (q1b arr off (a.eval x).cells.toList) e').shape? k=some x':=fun k x' hk=>q8v hh (q28 _ _ _) hk;refine h.setOwn hb hi rfl rfl rfl q5g (fun k hk=>q3Y hk) hsh ⟨_,e',q4H hblt,by rw[q28,q3B];exact hsz,fun j hj=>?_⟩;rw[q3B]at hj;rw[q6E _ _ _ _ hle,q3D _ _ _ _ (by simp;omega)];by_cases hjr:off≤j∧j<off+xv.cells.length
       ·rw[if_pos hjr,if_pos (by simp;omega),q5X];exact(hxr _ (by omega)).1.world hF hsh
       ·rw[if_neg hjr,if_neg (by simp;omega)];exact(hcr j hj).world hF hsh
    |arr sz' n f te=>
     simp only[hb]at he;cases hw:qDG (qDi sz' (f i)) off (frz s.S te xv).cells with
     |none=>simp[hw]at he
     |some cs'=>
      cases hc2:qYz te (frz s.S te xv)&& !(mem id xv.ids)&&qJE xv.ids&&(xv.ids.isEmpty|| !(Nat.beq te 1))with
      |false=>simp[hw,hc2]at he
      |true=>
       simp only[hw,hc2,Option.some.injEq]at he;subst he;simp only[Bool.and_eq_true,Bool.or_eq_true,List.isEmpty_iff,Bool.not_eq_true',q1N]at hc2;obtain⟨⟨⟨hfit,hmem⟩,hge⟩,hne1⟩:=hc2;have hnid:id∉xv.ids:=qAJ.1 hmem;have h64:=qA1 hge;have hin:i<n:=ho _ (List.mem_singleton.2 rfl);have hcN:qDi sz' (f i)=(f i).cells:=by
        obtain⟨e1,_,_,_,_,_,hg,_⟩:=hown;subst e1;exact qHn (hg i hin)
       rw[hcN]at hw;obtain⟨hle,rfl⟩:=q9F hw;obtain⟨q1,q2,q3,q4⟩:=qRG h hx (ids:=xv.ids) (fun _ h=>h) hfit;have htag:te≠q0l∨xv.ids=[]:=by
        by_cases ht:te=q0l
        ·right;subst ht;obtain⟨hsol2,hft⟩:=qGG hfit;have key:∀c:V,qYY q0l (q6V s.S q0l c)=true→q1l (q6V s.S q0l c)=true→c.ids=[]:=by
          intro c h1 h2;cases c with
          |osl k n=>
           have hy:(∃g',q6V s.S q0l (.osl k n)=.sl n g' q0l)∨q6V s.S q0l (.osl k n)=.undef:=by
            simp only[q6V];split
            ·split
             ·exact .inl ⟨_,rfl⟩
             ·exact .inr rfl
            ·exact .inr rfl
           rcases hy with⟨g',hy⟩|hy
           ·rw[hy]at h1;simp[qYY,q2D,q0l]at h1
           ·rw[hy]at h2;simp[q1l]at h2
          |oref=>simp[q6V,q1l]at h2
          |omap=>simp[q6V,q1l]at h2
          |oss=>simp[q6V,q1l]at h2
          |agg=>simp[q6V,q1l]at h2
          |tup=>simp[q6V,q1l]at h2
          |fn=>simp[q6V,q1l]at h2
          |cnd=>simp[q6V,q1l]at h2
          |_=>rfl
         by_cases hag:∃ds,xv=.agg ds
         ·obtain⟨ds,rfl⟩:=hag;simp only[frz,V.cells,List.length_map]at hft;simp only[V.ids];have hall:∀j,j<ds.length→(ds.getD j .undef).ids=[]:=by
           intro j hj;have h1:=hft j hj;rw[q40 hj]at h1;have h2:=q5c (cs:=ds.map (q6V s.S q0l)) hsol2 (j:=j) (by simpa using hj);rw[q40 hj]at h2;exact key _ h1 h2
          exact qLY _ hall
         ·have hfz:(frz s.S q0l xv)=q6V s.S q0l xv:=by
           cases xv<;>first|rfl|exact absurd ⟨_,rfl⟩ hag
          rw[hfz]at hft hsol2;rw[qEz]at hft;refine key xv (by simpa using hft 0 (by simp)) ?_;cases hy:q6V s.S q0l xv<;>rw[hy]at hsol2<;>first|exact hsol2|skip
          exfalso;cases xv<;>simp only[q6V]at hy<;>first|cases hy|skip
          ·split at hy
           ·split at hy<;>cases hy
           ·cases hy
        ·exact .inl ht
       have hfr:=h.freezeL te xv.ids (by rcases hne1 with h'|h';exact .inr h';rcases htag with h''|h'';exact .inl ⟨h'',h'⟩;exact .inr h'') h64;obtain⟨rfl,rfl,arr,e',hh,hsz,hgl,hcr⟩:=hown;have hgi:=hgl i hin;have hmul:i*sz'+sz'≤arr.size:=by
        have h1:i*sz'+sz'=(i+1)*sz':=by rw[Nat.add_mul,Nat.one_mul]
        have h2:(i+1)*sz'≤n*sz':=Nat.mul_le_mul_right _ hin;omega
       have hst:=qGu (P:=P) hT hl (o:=i*sz'+off) hh (v:=a.eval x) (by omega) (by omega) q3;have hw1:=hrun (q18 w b (q1b arr (i*sz'+off) (a.eval x).cells.toList) e') hst;refine qDg (ι':=ι) (Fr':=FrK Fr s.S ι xv.ids te) hd hw1 ?_ rfl;have hFk:∀t k,FrK Fr s.S ι xv.ids te t k→FrK Fr s.S ι xv.ids te t k∧(q18 w b (q1b arr (i*sz'+off) (a.eval x).cells.toList) e').heap[k]?=w.heap[k]?:=by
        intro t k hf;refine⟨hf,q3Y fun e1=>?_⟩;subst e1;rcases hf with hf|⟨_,id',hid',blk',r',hl',hi',e1,_⟩|⟨_,_,_,t',_,hf⟩
        ·exact(h.fr t k hf).2.2 id _ _ hb hi rfl
        rotate_left
        ·exact(h.fr t' k hf).2.2 id _ _ hb hi rfl
        ·have:=h.inj id' id blk' _ r' _ hl' hb hi' hi e1;exact hnid (this▸hid')
       have hsh:∀k x',w.shape? k=some x'→(q18 w b (q1b arr (i*sz'+off) (a.eval x).cells.toList) e').shape? k=some x':=fun k x' hk=>q8v hh (q28 _ _ _) hk;have hb':lk (q0Y s.S (xv.ids.map fun id=>(id,none))) id=some (.arr sz' n f te):=by rw[q2b,if_neg hnid];exact hb
       have hset:=hfr.setOwn (w':=q18 w b (q1b arr (i*sz'+off) (a.eval x).cells.toList) e') hb' hi rfl rfl rfl q5g (fun k hk=>q3Y hk) hsh
        (new:=.arr sz' n (q65 f i (qB6 (x4P sz' (f i)) (qAI (f i).cells off (frz s.S te xv).cells))) te) ?_
       ·refine hset.congr (fun _=>rfl) fun k=>?_;show lk (q0Y (put s.S id _) (kills xv)) k=_;unfold kills;rw[q2b,q1i,q1i,q2b];by_cases e1:k=id
        ·subst e1;simp[hnid]
        ·simp[e1]
       ·have hec:(qB6 (x4P sz' (f i)) (qAI (f i).cells off (frz s.S te xv).cells)).cells=qAI (f i).cells off (frz s.S te xv).cells:=by
         unfold x4P;cases Nat.beq sz' 1 with
         |false=>rfl
         |true=>
         simp only[];by_cases hag:∃ds,f i=.agg ds
         ·obtain⟨ds,hds⟩:=hag;rw[hds];rfl
         ·refine qMT (q3B _ _ _) fun j hj ds=>?_;rw[q3B]at hj;have h2:(f i).cells=[f i]:=by
           cases hv:f i<;>first|rfl|exact absurd ⟨_,hv⟩ hag
          rw[q6E _ _ _ _ hle];split
          ·rename_i hjr;intro e1;have:=(qGG hfit);have hsa:q1l ((frz s.S te xv).cells.getD (j-off) .undef)=true:=by
            have hs2:=this.1;by_cases hag2:∃es,frz s.S te xv=.agg es
            ·obtain⟨es,hes⟩:=hag2;rw[hes]at hs2 hjr⊢;exact q5c (cs:=es) hs2 (by simp only[V.cells]at hjr;omega)
            ·have h3:(frz s.S te xv).cells=[frz s.S te xv]:=by
              cases hv:frz s.S te xv<;>first|rfl|exact absurd ⟨_,hv⟩ hag2
             have h4:q1l (frz s.S te xv)=true:=by
              cases hv:frz s.S te xv<;>rw[hv]at hs2<;>first|exact hs2|exact absurd ⟨_,hv⟩ hag2
             rw[h3]at hjr⊢;have h5:j-off=0:=by simp only[List.length_singleton]at hjr;omega
             rw[h5];simpa using h4
           rw[e1]at hsa;simp[q1l]at hsa
          ·intro e1;rw[h2]at e1 hj;have h5:j=0:=by simpa using hj
           subst h5;simp only[List.getD_cons_zero]at e1;exact hag ⟨_,e1⟩
        refine⟨rfl,rfl,_,e',q4H hblt,by rw[q28];exact hsz,fun k hk=>?_,fun k j hk hj=>?_⟩
        ·rw[q2F];split
         ·rw[hec,q3B];exact hgi
         ·exact hgl k hk
        ·rw[q3D _ _ _ _ (by simp;omega)];have hnum:∀k',k'≠i→k'<n→¬(i*sz'+off≤k'*sz'+j∧k'*sz'+j<i*sz'+off+(a.eval x).cells.toList.length):=by
          intro k' hne hk';have hlen2:(a.eval x).cells.toList.length=(frz s.S te xv).cells.length:=by simp;omega
          rw[hlen2];rcases Nat.lt_or_gt_of_ne hne with h1|h1
          ·have:(k'+1)*sz'≤i*sz':=Nat.mul_le_mul_right _ h1;rw[Nat.add_mul,Nat.one_mul]at this;omega
          ·have:(i+1)*sz'≤k'*sz':=Nat.mul_le_mul_right _ h1;rw[Nat.add_mul,Nat.one_mul]at this;omega
         by_cases hki:k=i
         ·subst hki;simp only[q2F,if_true];rw[hec,q6E _ _ _ _ hle];have hlen2:(a.eval x).cells.toList.length=(frz s.S te xv).cells.length:=by simp;omega
          by_cases hjr:off≤j∧j<off+(frz s.S te xv).cells.length
          ·rw[if_pos hjr,if_pos (by rw[hlen2];omega),q5X];have e1:k*sz'+j-(k*sz'+off)=j-off:=by omega
           rw[e1];exact(q4 _ (by omega)).mono fun b hb=>hFk _ b hb
          ·rw[if_neg hjr,if_neg (by rw[hlen2];omega)];exact(hcr k j hk hj).mono fun b hb=>⟨.inl hb,(hFk _ b (.inl hb)).2⟩
         ·simp only[q2F,hki,if_false];rw[if_neg (hnum k hki hk)];exact(hcr k j hk hj).mono fun b hb=>⟨.inl hb,(hFk _ b (.inl hb)).2⟩
end
theorem qCK:∀(l:List Value) (arr:Array Value) (off k:Nat),
  (l.zipIdx k).foldl (fun cs (p:Value×Nat)=>cs.setIfInBounds (off+p.2) p.1) arr=q1b arr (off+k) l
 |[],_,_,_=>rfl
 |v::r,arr,off,k=>by
  simp only[List.zipIdx_cons,List.foldl_cons,q1b];rw[qCK r _ off (k+1)];rfl
theorem qIC (place:Nat→Option (Nat×Nat)) (arr:Array Value) (i off size:Nat) (v:Value) (rest:List (Nat×Value)) (hp:place i=some (off,size)) (hs:v.cells.size=size) (hle:off+size≤arr.size):
  Instr.fill place arr ((i,v)::rest)=Instr.fill place (q1b arr off v.cells.toList) rest:=by
 have h1:(v.cells.size≠size||off+v.cells.size>arr.size)=false:=by
  simp;omega
 rw[Instr.fill,hp];simp only[h1,Bool.false_eq_true,if_false];congr 1;have:=qCK v.cells.toList arr off 0;rw[Nat.add_zero]at this;rw[←this,←Array.foldl_toList,Array.toList_zipIdx]
section
variable {P:Program} {tt:TT} (hT:q4K P tt)
theorem qED {w:World} {ι:q1K} {Fr:Nat→Nat→Prop} (l:List (Nat×TI)) (place:Nat→Option (Nat×Nat)) (hpl:∀i off ti,l[i]?=some (off,ti)→place i=some (off,ti.size)):
  ∀(ps:List (Nat×V)) (vs:List (Nat×Value)) (cs cs':List V) (arr:Array Value),ps.length=vs.length→
   (∀j,j<ps.length→(ps.getD j (0,.undef)).1=(vs.getD j (0,Go.undef)).1∧q0e w Fr ι (ps.getD j (0,.undef)).2 (vs.getD j (0,Go.undef)).2)→
   q76 l cs ps=some cs'→arr.size=cs.length→(∀j,j<cs.length→q0e w Fr ι (cs.getD j .undef) (arr.getD j Go.undef))→
   ∃arr',Instr.fill place arr vs=some arr'∧arr'.size=cs'.length∧∀j,j<cs'.length→q0e w Fr ι (cs'.getD j .undef) (arr'.getD j Go.undef)
 |[],[],cs,cs',arr,_,_,hb,hs,hr=>by
  simp only[q76,Option.some.injEq]at hb;subst hb;exact⟨arr,rfl,hs,hr⟩
 |(i,x)::ps,(i',v)::vs,cs,cs',arr,hlen,hv,hb,hs,hr=>by
  have h0:=hv 0 (by simp);simp only[List.getD_cons_zero]at h0;obtain⟨rfl,hx⟩:=h0;simp only[q76]at hb;split at hb
  case h_2=>simp at hb
  case h_1 off ti hti=>
   split at hb
   case h_2=>simp at hb
   case h_1 cs1 hc hw=>
    simp only[Bool.and_eq_true,q0y]at hc;obtain⟨hxl,hsol⟩:=hc;obtain⟨hle,rfl⟩:=q9F hw;obtain⟨h1,h2⟩:=hx.cells hsol;rw[qIC place arr i off ti.size v vs (hpl i off ti hti) (by omega) (by omega)];refine qED l place hpl ps vs _ cs' _ (by simpa using hlen) (fun j hj=>by simpa using hv (j+1) (by simpa using hj)) hb (by rw[q28,q3B];exact hs) (fun j hj=>?_);rw[q3B]at hj;rw[q6E _ _ _ _ hle,q3D _ _ _ _ (by simp;omega)];by_cases hjr:off≤j∧j<off+x.cells.length
    ·rw[if_pos hjr,if_pos (by simp;omega),q5X];exact(h2 _ (by omega)).1
    ·rw[if_neg hjr,if_neg (by simp;omega)];exact hr j hj
 |[],_::_,_,_,_,h,_,_,_,_=>by simp at h
 |_::_,[],_,_,_,h,_,_,_,_=>by simp at h
include hT in
theorem qF4 {w:World}:∀(fs:List Field) (l:List (Nat×TI)),qA2 tt fs=some l→
  (fs.mapM fun f=>do pure (f.offset,←sizeOf f.type):Sem (List (Nat×Nat))).run P w=.ok (l.map fun p=>(p.1,p.2.size)) w
 |[],l,h=>by
  simp only[qA2,Option.some.injEq]at h;subst h;simp
 |f::fs,l,h=>by
  simp only[qA2]at h;split at h
  ·rename_i ti l' hti hl;simp only[Option.some.injEq]at h;subst h;have ih:=qF4 (w:=w) fs l' hl;simp only[List.mapM_cons,Sem.run_bind,q2c hT hti,Result.andThen_ok,Sem.run_pure,ih,List.map_cons]
  ·simp at h
include hT in
theorem qF2 {t:Nat} {ti:TI} (hl:lk tt t=some ti) (w:World):∃z,(zeroValue t).run P w=.ok z w∧z.cells.size=ti.size∧ti.zero.cells.length=ti.size∧
  ∀w' Fr ι j,j<ti.size→(q0e w' Fr ι (ti.zero.cells.getD j .undef) (z.cells.getD j Go.undef)∧PRep w' (fun _=>False) (ti.zero.cells.getD j .undef) (z.cells.getD j Go.undef)):=by
 obtain⟨i,hi,_,_,z,hz,hzr,hzc,hzs,_⟩:=hT.info t ti hl;refine⟨z,by simp[zeroValue,typeInfo,hi,hz],hzs,hzc,fun w' Fr ι j hj=>?_⟩;have key:PRep w' (fun _=>False) (ti.zero.cells.getD j .undef) (z.cells.getD j Go.undef):=by
  have hzr:=hzr w';by_cases hag:∃cs,ti.zero=.agg cs
  ·obtain⟨cs,hcs⟩:=hag;rw[hcs]at hzr hzc⊢;cases hzr with
   |agg arr h1 h2=>exact h2 j (by simp only[V.cells]at hzc;omega)
  ·have hc:ti.zero.cells=[ti.zero]:=by
    cases hv:ti.zero<;>first|rfl|exact absurd ⟨_,hv⟩ hag
   rw[hc]at hzc⊢;have hj0:j=0:=by simp only[List.length_singleton]at hzc;omega
   subst hj0;simp only[List.getD_cons_zero];have:z.cells.getD 0 Go.undef=z∨ti.zero=.undef:=by
    cases hzv:z with
    |agg cs=>
          right;rw[hzv]at hzr;cases hv:ti.zero<;>rw[hv]at hzr<;>first|rfl|(exfalso;cases hzr;done)|skip
          exact absurd ⟨_,hv⟩ hag
    |_=>left;rfl
   rcases this with h2|h2
   ·rw[h2];exact hzr
   ·rw[h2];exact .undef _
 exact⟨q0e.ofP key,key⟩
include hT in
theorem qML {g:G} {s:AS} {a:Act} {w:World} {ι:q1K} {Fr:Nat→Nat→Prop} (h:Rel g s a w ι Fr) {o:Oper} {t:TypeId} {ps:Array (Nat×Operand)} (hop:o.op=.build t ps)
  (hx:∀p∈ps.toList,q0e w Fr ι (q1H (q20 s p.2)) (a.eval p.2)) (hd:q4Z g.nt o=true)
  {e:Ef} (he:qRQ tt t (ps.toList.map fun p=>(p.1,q1H (q20 s p.2)))=some e):q90 P g (s.app o.dst e) a w o:=by
 unfold qRQ at he;split at he
 case h_2=>simp at he
 case h_1 fs _ _ z _ _ hl=>
  split at he
  case h_2=>simp at he
  case h_1 l hfl=>
   split at he
   case h_2=>simp at he
   case h_1 cs hb=>
    simp only[ok,Option.some.injEq]at he;subst he;obtain⟨zv,hz,hzs,hzc,hzr⟩:=qF2 hT hl w;obtain⟨arr',h1,h2,h3⟩:=qED (w:=w) (ι:=ι) (Fr:=Fr) l (fun i=>((l.map fun p=>(p.1,p.2.size)).toArray)[i]?) (fun i off ti hi=>by simp[hi])
     (ps.toList.map fun p=>(p.1,q1H (q20 s p.2))) (ps.toList.map fun p=>(p.1,a.eval p.2)) z.cells cs zv.cells (by simp)
     (fun j hj=>by
      have hj':j<ps.size:=by simpa using hj
      have hmem:ps[j]∈ps.toList:=by simp
      simp only[List.getD,List.getElem?_map,Array.getElem?_toList,Array.getElem?_eq_getElem hj',Option.map_some,Option.getD_some];exact⟨trivial,hx _ hmem⟩) hb (by rw[hzs];exact hzc.symm) (fun j hj=>(hzr w Fr ι j (by rw[←hzc];exact hj)).1)
    refine qEL h hd (x:=.agg arr') ?_ (.agg arr' h2 h3);unfold execOp;rw[hop];refine q7Z ?_;unfold Instr.build;have hpl:=qF4 (P:=P) hT (w:=w) fs.toList l hfl;have hmap:(fs.mapM fun f=>do pure (f.offset,←sizeOf f.type):Sem (Array (Nat×Nat))).run P w=.ok (l.map fun p=>(p.1,p.2.size)).toArray w:=by
     rw[Array.mapM_eq_mapM_toList,Sem.run_map,hpl];rfl
    simp only[Sem.run_bind,hz,Result.andThen_ok,q4v hT hl,hmap,Array.toList_map];rw[h1];rfl
theorem qEM:∀{l:List V} {ss:List ByteArray},qGk l=some ss→∀i,i<l.length→V.str (ss.getD i default)=l.getD i .undef
 |[],_,_,i,h=>by simp at h
 |v::r,ss,h,i,hi=>by
  cases v<;>simp only[qGk,reduceCtorEq]at h;split at h
  ·rename_i l' hl;simp only[Option.some.injEq]at h;subst h;cases i with
   |zero=>simp
   |succ i=>simpa using qEM hl i (by simpa using hi)
  ·simp at h
theorem qEk:∀{k:IntKind} {l:List V} {ns:List Int},qHV k l=some ns→∀i,i<l.length→V.int k (ns.getD i 0)=l.getD i .undef
 |_,[],_,_,i,h=>by simp at h
 |k,v::r,ns,h,i,hi=>by
  cases v<;>simp only[qHV,reduceCtorEq]at h;split at h
  ·rename_i l' hk hl;simp only[Option.some.injEq]at h;subst h;have:=q8n hk;subst this;cases i with
   |zero=>simp
   |succ i=>simpa using qEk hl i (by simpa using hi)
  ·simp at h
theorem qKb (l:List V) (i:Nat) (hi:i<l.length):q3C l i=l.getD i .undef:=by
 unfold q3C;split
 ·rename_i s r;cases hs:qGk r with
  |some ss=>
   cases i with
   |zero=>simp
   |succ i=>simpa using qEM hs i (by simpa using hi)
  |none=>rfl
 ·rename_i k n r;cases hs:qHV k r with
  |some ns=>
   cases i with
   |zero=>simp
   |succ i=>simpa using qEk hs i (by simpa using hi)
  |none=>rfl
 ·rfl
def qOM (w:World) (A:Nat→Prop) (size:Nat) (es:List V) (arr:Array Value):Prop:=
 arr.size=es.length*size∧(∀i,i<es.length→(es.getD i .undef).cells.length=size)∧
  ∀i j,i<es.length→j<size→PRep w A ((es.getD i .undef).cells.getD j .undef) (arr.getD (i*size+j) Go.undef)
theorem qLL (es:List V) (i k:Nat) (x:V) (hi:i<es.length):(es.set i x).getD k .undef=if k=i then x else es.getD k .undef:=by
 by_cases h:k=i
 ·subst h;simp[hi]
 ·have:i≠k:=fun e=>h e.symm;simp[h,List.getElem?_set_ne this]
theorem qLO {g:G} {s:AS} {a:Act} {w:World} {ι:q1K} {Fr:Nat→Nat→Prop} (h:Rel g s a w ι Fr) {size te n:Nat} {ids:List Nat}:
  ∀(ps:List (Nat×V)) (vs:List (Nat×Value)) (es es':List V) (arr:Array Value),ps.length=vs.length→
   (∀j,j<ps.length→(ps.getD j (0,.undef)).1=(vs.getD j (0,Go.undef)).1∧q0e w Fr ι (ps.getD j (0,.undef)).2 (vs.getD j (0,Go.undef)).2)→
   (∀p∈ps,∀id∈p.2.ids,id∈ids)→es.length=n→
   q6f size te s.S es ps=some es'→qOM w (FrK Fr s.S ι ids te te) size es arr→
   ∃arr',Instr.fill (fun i=>some (i*size,size)) arr vs=some arr'∧es'.length=n∧qOM w (FrK Fr s.S ι ids te te) size es' arr'
 |[],[],es,es',arr,_,_,_,hn,hb,hr=>by
  simp only[q6f,Option.some.injEq]at hb;subst hb;exact⟨arr,rfl,hn,hr⟩
 |(i,x)::ps,(i',v)::vs,es,es',arr,hlen,hv,hids,hn,hb,hr=>by
  have h0:=hv 0 (by simp);simp only[List.getD_cons_zero]at h0;obtain⟨rfl,hx⟩:=h0;simp only[q6f]at hb;split at hb
  case h_2=>simp at hb
  case h_1 h1 h2 h3=>
   have hi:i<es.length:=Nat.le_of_ble_eq_true h1;have hxl:=q0y.1 h2;obtain⟨q1,q2,q3,q4⟩:=qRG h hx (ids:=ids) (hids _ (List.mem_cons_self ..)) h3;obtain⟨r1,r2,r3⟩:=hr;have hmul:i*size+size≤arr.size:=by
    have e1:i*size+size=(i+1)*size:=by rw[Nat.add_mul,Nat.one_mul]
    have e2:(i+1)*size≤es.length*size:=Nat.mul_le_mul_right _ hi;omega
   rw[qIC _ arr i (i*size) size v vs rfl (by omega) hmul];refine qLO h ps vs _ es' _ (by simpa using hlen) (fun j hj=>by simpa using hv (j+1) (by simpa using hj)) (fun p hp=>hids p (List.mem_cons_of_mem _ hp)) (by simpa using hn) hb
    ⟨by rw[q28];simpa using r1,fun k hk=>?_,fun k j hk hj=>?_⟩
   ·rw[qLL _ _ _ _ hi];split
    ·omega
    ·exact r2 k (by simpa using hk)
   ·have hk':k<es.length:=by simpa using hk
    rw[qLL _ _ _ _ hi,q3D _ _ _ _ (by simp;omega)];by_cases hki:k=i
    ·subst hki;rw[if_pos rfl,if_pos (by simp;omega),q5X];have e1:k*size+j-k*size=j:=by omega
     rw[e1];exact q4 j (by omega)
    ·have hno:¬(i*size≤k*size+j∧k*size+j<i*size+v.cells.toList.length):=by
      have hl2:v.cells.toList.length=size:=by simp;omega
      rw[hl2];rcases Nat.lt_or_gt_of_ne hki with h5|h5
      ·have:(k+1)*size≤i*size:=Nat.mul_le_mul_right _ h5;rw[Nat.add_mul,Nat.one_mul]at this;omega
      ·have:(i+1)*size≤k*size:=Nat.mul_le_mul_right _ h5;rw[Nat.add_mul,Nat.one_mul]at this;omega
     rw[if_neg hki,if_neg hno];exact r3 k j hk' hj
 |[],_::_,_,_,_,h,_,_,_,_,_=>by simp at h
 |_::_,[],_,_,_,h,_,_,_,_,_=>by simp at h
theorem qRO {z:Array Value} {n size k:Nat} (hz:z.size=size) (hk:k<n*size):
  ((Array.range (n*size)).map (z[· %z.size]!)).getD k Go.undef=z.getD (k%size) Go.undef:=by
 have hpos:0<size:=by
  rcases Nat.eq_zero_or_pos size with h|h
  ·subst h;simp at hk
  ·exact h
 have hlt:k%size<z.size:=by rw[hz];exact Nat.mod_lt _ hpos
 subst hz;simp[hk,hlt]
include hT in
theorem qD3 {t:Nat} {ti:TI} (hl:lk tt t=some ti) (w:World) (n:Nat):∃z,(zeroValue t).run P w=.ok z w∧z.cells.size=ti.size∧
  ∀(w':World) (A:Nat→Prop),qOM w' A ti.size (List.replicate n ti.zero) ((Array.range (n*ti.size)).map (z.cells[· %z.cells.size]!)):=by
 obtain⟨z,hz,hzs,hzc,hzr⟩:=qF2 hT hl w;refine⟨z,hz,hzs,fun w' A=>⟨by simp,fun i hi=>?_,fun i j hi hj=>?_⟩⟩
 ·have hi':i<n:=by simpa using hi
  simp only[List.getD,List.getElem?_replicate,hi',if_true,Option.getD_some];exact hzc
 ·have hi':i<n:=by simpa using hi
  have hlt:i*ti.size+j<n*ti.size:=by
   have e1:i*ti.size+ti.size=(i+1)*ti.size:=by rw[Nat.add_mul,Nat.one_mul]
   have e2:(i+1)*ti.size≤n*ti.size:=Nat.mul_le_mul_right _ hi';omega
  rw[qRO hzs hlt];have e1:(i*ti.size+j)%ti.size=j:=by rw[Nat.mul_comm,Nat.mul_add_mod];exact Nat.mod_eq_of_lt hj
  rw[e1];simp only[List.getD,List.getElem?_replicate,hi',if_true,Option.getD_some];have:=(hzr w' (fun _ _=>False) (fun _=>none) j hj).2;exact this.weaken fun _ h=>h.elim
end
theorem q17.kills {s:AS} {id:Nat} (h:q17 s id) (ids:List Nat):q17 { s with S:=q0Y s.S (ids.map fun id=>(id,none)) } id where
 ge:=h.ge
 no:=by
  show lk (q0Y s.S _) id=none;rw[q2b,h.no];simp
 T:=h.T
 S:=fun k blk hk=>by
  have hk':lk (q0Y s.S (ids.map fun id=>(id,none))) k=some blk:=hk;rw[q2b]at hk';by_cases e:k∈ids
  ·simp[e]at hk'
  ·simp only[e,if_false]at hk';exact h.S k blk hk'
theorem qGg:∀(v:V) (id:Nat),id∈v.ids→∀p:Nat→Bool,p id=true→V.ment p v=true:=by
 intro v id
 suffices H:(∀v:V,id∈v.ids→∀p:Nat→Bool,p id=true→V.ment p v=true)from H v
 intro v;refine V.rec (motive_1:=fun v=>id∈v.ids→∀p:Nat→Bool,p id=true→V.ment p v=true) (motive_2:=fun l=>id∈V.idsL l→∀p:Nat→Bool,p id=true→V.mentL p l=true)
  ?_ ?_ ?_ ?_ ?_ ?_ ?_ ?_ ?_ ?_ ?_ ?_ ?_ ?_ ?_ ?_ ?_ v
 all_goals intros
 all_goals first
  |(simp_all [V.ids,V.idsL,V.ment,V.mentL];done)
  |skip
 all_goals
  rename_i ih1 ih2 hm p hp;simp only[V.idsL,List.mem_append]at hm;simp only[V.mentL,Bool.or_eq_true];rcases hm with hm|hm
  ·exact .inl (ih1 hm p hp)
  ·exact .inr (ih2 hm p hp)
section
variable {P:Program} {tt:TT} (hT:q4K P tt)
theorem q9S (w:World) (arr:Array Value) (e:TypeId):(w.alloc (.cells arr e (0,0))).shape? w.heap.size=some (e,arr.size):=by
 unfold World.shape?;rw[heap_alloc_new]
include hT in
theorem qDI {g:G} {s:AS} {a:Act} {w:World} {ι:q1K} {Fr:Nat→Nat→Prop} (h:Rel g s a w ι Fr) {o:Oper} {t:TypeId} {len:Nat} {ps:Array (Nat×Operand)} (hop:o.op=.buildSlice t len ps)
  (hx:∀p∈ps.toList,q0e w Fr ι (q1H (q20 s p.2)) (a.eval p.2)) (hd:q4Z g.nt o=true) {site:Nat} (hf:q17 s site)
  {e:Ef} (he:q5V tt s.S site t len (ps.toList.map fun p=>(p.1,q1H (q20 s p.2)))=some e):q90 P g (s.app o.dst e) a w o:=by
 unfold q5V at he;split at he
 case h_2=>simp at he
 case h_1 ti hti=>
  obtain⟨el,hu,hl⟩:=q3z hT hti w;split at he
  case h_2=>simp at he
  case h_1 hble=>
   have hle:len*ti.size≤16777216:=Nat.le_of_ble_eq_true hble;generalize qHr ti (ps.toList.map fun p=>(p.1,q1H (q20 s p.2)))=te at he;split at he
   case h_2=>simp at he
   case h_1 es hes hchk=>
    simp only[Option.some.injEq]at he;subst he;generalize hids:(ps.toList.map fun p=>(p.1,q1H (q20 s p.2))).flatMap (fun p=>p.2.ids)=ids at*;simp only[Bool.and_eq_true,Bool.or_eq_true,List.isEmpty_iff,Bool.not_eq_true',q1N]at hchk;obtain⟨hge,htag⟩:=hchk;obtain⟨z,hz,hzs,hzr⟩:=qD3 hT hl w len;obtain⟨arr',h1,h2,h3⟩:=qLO h (size:=ti.size) (te:=te) (n:=len) (ids:=ids) (ps.toList.map fun p=>(p.1,q1H (q20 s p.2))) (ps.toList.map fun p=>(p.1,a.eval p.2)) _ es _ (by simp)
     (fun j hj=>by
      have hj':j<ps.size:=by simpa using hj
      have hmem:ps[j]∈ps.toList:=by simp
      simp only[List.getD,List.getElem?_map,Array.getElem?_toList,Array.getElem?_eq_getElem hj',Option.map_some,Option.getD_some];exact⟨trivial,hx _ hmem⟩)
     (fun p hp id hid=>by rw[←hids];exact List.mem_flatMap.2 ⟨p,hp,hid⟩) (by simp) hes (hzr w _)
    obtain⟨r1,r2,r3⟩:=h3;have hrun:(execOp a.eval o).run P w=.ok (.value (.slice (some ⟨w.heap.size,0,none⟩) len len)) (w.alloc (.cells arr' el (0,0))):=by
     unfold execOp;rw[hop];refine q7Z ?_;unfold Instr.buildSlice;have hno:¬len*ti.size>2^24:=by omega
     simp only[Sem.run_bind,hu,Result.andThen_ok,q2c hT hl,hno,if_false,Sem.run_ite,Sem.run_pure];by_cases h0:len*ti.size=0
     ·have e0:((Array.range (len*ti.size)).map (z.cells[· %z.cells.size]!))=(Array.range (len*ti.size)).map ((#[]:Array Value)[· %(#[]:Array Value).size]!):=by rw[h0];simp
      rw[e0]at h1;simp only[h0,if_true,Result.andThen_ok]at h1⊢;rw[Array.toList_map,h1];simp[newRow]
     ·simp only[h0,if_false,hz,Result.andThen_ok];rw[Array.toList_map,h1];simp[newRow]
    have hmem64:=qA1 hge;have hfr:=h.freezeL te ids (by rcases htag with h'|h';exact .inr h';exact .inl h') hmem64;have hf':=hf.kills ids;have hsn:site∉ids:=by
     intro hin;rw[←hids]at hin;obtain⟨p,hp,hid⟩:=List.mem_flatMap.1 hin;obtain⟨q,hq,rfl⟩:=List.mem_map.1 hp;have h5:=qGg _ _ hid (fun k=>Nat.beq k site) (q0y.2 rfl);rw[qEp hf q.2]at h5;cases h5
    have hnew:=hfr.newBlk hf' (arr:=arr') (e:=el) (sz:=ti.size) (m:=len) (blk:=.arr ti.size len (q3C es) te) (fun w' hw hb hsh=>
     ⟨rfl,rfl,arr',el,hw,by rw[r1,h2];exact Nat.le_refl _,fun i hi=>by rw[qKb _ _ (by omega)];exact r2 i (by omega),fun i j hi hj=>by
      rw[qKb _ _ (by omega)];exact(r3 i j (by omega) hj).mono fun b hb'=>⟨hb',hb b (hfr.fr _ b hb').1⟩⟩)
    refine q3c (x:=.slice (some ⟨w.heap.size,0,none⟩) len len) hd hrun (hnew.congr (fun _=>rfl) fun k=>?_) ?_
    ·show lk (q0Y (put s.S site _) (ids.map fun id=>(id,none))) k=_;rw[q2b,q1i,q1i,q2b];by_cases e1:k=site
     ·subst e1;simp[hsn]
     ·simp[e1]
    ·exact .osl (b:=w.heap.size) (sz:=ti.size) (m:=len) (e:=el) (c:=arr'.size) (by simp[q9U]) (Nat.le_refl _) (Nat.le_refl _) (q9S _ _ _) (by rw[r1,h2];exact Nat.le_refl _)
include hT in
theorem qOk {g:G} {s:AS} {a:Act} {w:World} {ι:q1K} {Fr:Nat→Nat→Prop} (h:Rel g s a w ι Fr) {o:Oper} {t:TypeId} {l c:Operand} (hop:o.op=.makeSlice t l c)
  (hl1:q0e w Fr ι (q1H (q20 s l)) (a.eval l)) (hc1:q0e w Fr ι (q1H (q20 s c)) (a.eval c)) (hd:q4Z g.nt o=true) {site:Nat} (hf:q17 s site)
  {e:Ef} (he:qWV tt site t (q1H (q20 s l)) (q1H (q20 s c))=some e) (ho:∀p∈e.ob,p):q90 P g (s.app o.dst e) a w o:=by
 unfold qWV at he;split at he
 case h_2=>simp at he
 case h_1 ti k1 n k2 m hti hlv hcv=>
  split at he
  case h_2=>simp at he
  case h_1 hby=>
   simp only[Option.some.injEq]at he;subst he;have hob:=ho _ (List.mem_singleton.2 rfl);rw[hlv]at hl1;rw[hcv]at hc1;have e1:=q31 hl1;have e2:=q31 hc1;have hby':ti.bytes≤1024:=Nat.le_of_ble_eq_true hby;obtain⟨el,hu,hl⟩:=q3z hT hti w;obtain⟨i,hi,hib,_⟩:=qHi hT hl w;obtain⟨z,hz,hzs,hzr⟩:=qD3 hT hl w m.toNat;have hm:m≤1073741824:=by have:=hob.2.2;unfold q4w at this;omega
   have w1:IntKind.i64.wrap n=n:=by unfold IntKind.wrap IntKind.bits IntKind.signed;simp;omega
   have w2:IntKind.i64.wrap m=m:=by unfold IntKind.wrap IntKind.bits IntKind.signed;simp;omega
   obtain⟨r1,r2,r3⟩:=hzr w (Fr (qQl ti));have hrun:(execOp a.eval o).run P w=.ok (.value (.slice (some ⟨w.heap.size,0,none⟩) n.toNat m.toNat)) (w.alloc (.cells ((Array.range (m.toNat*ti.size)).map (z.cells[· %z.cells.size]!)) el (0,0))):=by
    unfold execOp;rw[hop];refine q7Z ?_;unfold Instr.makeSlice;have c1:(decide (m<0)||decide ((ti.bytes:Int)*m>2^48))=false:=by
     have:(ti.bytes:Int)*m≤1024*1073741824:=Int.mul_le_mul (by omega) hm (by omega) (by omega);simp;omega
    have c2:decide (n<0)=false:=by simp;omega
    have c3:decide (n>m)=false:=by simp;omega
    simp only[Sem.run_bind,hu,Result.andThen_ok,e1,e2,asInt,asIntOf,Sem.run_pure,hi,hib,w1,w2,c1,c2,c3,Bool.or_self,Bool.or_false,Bool.false_eq_true,if_false,Sem.run_ite,run_askRoom,q2c hT hl];by_cases h0:m.toNat*ti.size=0
    ·have z0:∀f:Nat→Value,(Array.range 0).map f= #[]:=fun f=>Array.eq_empty_of_size_eq_zero (by simp);simp[h0,newRow,z0]
    ·simp[h0,hz,newRow]
   have hnew:=h.newBlk hf (arr:=(Array.range (m.toNat*ti.size)).map (z.cells[· %z.cells.size]!)) (e:=el) (sz:=ti.size) (m:=n.toNat) (blk:=.arr ti.size n.toNat (fun _=>ti.zero) (qQl ti)) (fun w' hw hb hsh=>
    ⟨rfl,rfl,_,el,hw,by
     simp only[Array.size_map,Array.size_range];exact Nat.mul_le_mul_right _ (by omega),fun i hi=>by
     have:=r2 i (by simp;omega);simpa[List.getD,List.getElem?_replicate,show i<m.toNat by omega]using this,fun i j hi hj=>by
     have:=r3 i j (by simp;omega) hj;simp only[List.getD,List.getElem?_replicate,show i<m.toNat by omega,if_true,Option.getD_some]at this;exact this.mono fun b hb'=>⟨hb',hb b (h.fr _ b hb').1⟩⟩)
   refine q3c (x:=.slice (some ⟨w.heap.size,0,none⟩) n.toNat m.toNat) hd hrun hnew ?_;exact .osl (b:=w.heap.size) (sz:=ti.size) (m:=n.toNat) (e:=el) (c:=m.toNat*ti.size) (by simp[q9U]) (Nat.le_refl _) (by omega) (by rw[q9S];simp) (Nat.le_refl _)
end
theorem qTT {w:World} {A A':Nat→Prop} {c:V} {v:Value} (h:PRep w A c v) (hf:qE3 c=true):PRep w A' c v:=by
 cases h<;>first|(simp[qE3]at hf;done)|skip
 ·exact .int _ _
 ·exact .bool _
 ·exact .str _
theorem PRep.one {w:World} {A:Nat→Prop} {c:V} {v:Value} (h:PRep w A c v) (hs:q1l c=true):Go.Av.one v=true:=by
 cases h<;>first|rfl|(simp[q1l]at hs;done)
theorem qNQ {x:V} (h:q87 x=true) {j:Nat} (hj:j<x.cells.length):q1l (x.cells.getD j .undef)=true:=by
 by_cases hag:∃es,x=.agg es
 ·obtain⟨es,rfl⟩:=hag;exact q5c (cs:=es) h hj
 ·have h3:x.cells=[x]:=by
   cases x<;>first|rfl|exact absurd ⟨_,rfl⟩ hag
  have h4:q1l x=true:=by
   cases x<;>first|exact h|exact absurd ⟨_,rfl⟩ hag
  rw[h3]at hj⊢;have h5:j=0:=by simpa using hj
  subst h5;simpa using h4
section
variable {P:Program} {tt:TT} (hT:q4K P tt)
theorem q7B {w:World} {b off m size:Nat} {cv:Nat→Nat→Value} (h:∀i j,i<m→j<size→w.cell? ⟨b,off+i*size+j,none⟩=some (cv i j)):
  ∃arr:Array Value,(∀w':World,w'.heap=w.heap→(loadCells ⟨b,off,none⟩ (m*size)).run P w'=.ok arr w')∧arr.size=m*size∧∀i j,i<m→j<size→arr.getD (i*size+j) Go.undef=cv i j:=by
 have hdiv:∀k,k<m*size→k/size<m∧k%size<size∧k/size*size+k%size=k:=by
  intro k hk;have hpos:0<size:=by
   rcases Nat.eq_zero_or_pos size with h0|h0
   ·subst h0;simp at hk
   ·exact h0
  exact⟨Nat.div_lt_of_lt_mul (by rw[Nat.mul_comm];exact hk),Nat.mod_lt _ hpos,by rw[Nat.mul_comm];exact Nat.div_add_mod k size⟩
 have hrun:∀w':World,w'.heap=w.heap→_:=fun w' hw'=>run_loadCells (P:=P) w' ⟨b,off,none⟩ (m*size) (fun k=>cv (k/size) (k%size)) (fun k hk=>by
  obtain⟨h1,h2,h3⟩:=hdiv k hk;have:=h _ _ h1 h2;rw[World.cell?_of_block (w:=w) (w':=w') (by rw[hw'])];rw[q5b];rw[show off+k=off+k/size*size+k%size by omega];exact this)
 refine⟨_,hrun,by simp,fun i j hi hj=>?_⟩;have hlt:i*size+j<m*size:=by
  have e1:i*size+size=(i+1)*size:=by rw[Nat.add_mul,Nat.one_mul]
  have e2:(i+1)*size≤m*size:=Nat.mul_le_mul_right _ hi;omega
 have e1:(i*size+j)/size=i:=by
  rw[Nat.add_comm,Nat.mul_comm,Nat.add_mul_div_left _ _ (by omega),Nat.div_eq_of_lt hj];omega
 have e2:(i*size+j)%size=j:=by rw[Nat.mul_comm,Nat.mul_add_mod];exact Nat.mod_eq_of_lt hj
 simp[hlt,e1,e2]
theorem qQ7 {g:G} {s:AS} {a:Act} {w:World} {ι:q1K} {Fr:Nat→Nat→Prop} (h:Rel g s a w ι Fr) {x:V} {vx:Value} {m th size:Nat} {f:Nat→V} {rd:List Nat}
  (hs:qDt s.S x=some (m,f,th,rd)) (hx:q0e w Fr ι x vx) (hz:q13 size m f) (hn:∀id n blk,x=.osl id n→lk s.S id=some blk→∀sz n' g' te,blk=.arr sz n' g' te→sz=size∨n'=0∨n=0):
  ∃a0 c news,vx=.slice a0 m c∧(∀w':World,w'.heap=w.heap→(Builtin.firstCells size m vx).run P w'=.ok news w')∧news.size=m*size∧
   ∀i j,i<m→j<size→PRep w (Fr th) ((f i).cells.getD j .undef) (news.getD (i*size+j) Go.undef):=by
 have empty:∀a0 c,∀w':World,w'.heap=w.heap→(Builtin.firstCells size 0 (.slice a0 0 c)).run P w'=.ok #[] w':=by
  intro a0 c w' _;cases a0<;>simp[Builtin.firstCells,loadCells,loadCellsFrom]
 cases x with
 |nil=>
  simp only[qDt,Option.some.injEq,Prod.mk.injEq]at hs;obtain⟨rfl,rfl,rfl,rfl⟩:=hs;cases hx with
  |atom _ hp=>cases hp;exact⟨_,_,#[],rfl,empty _ _,by simp,fun i j hi=>by omega⟩
 |sl n f' t=>
  simp only[qDt,Option.some.injEq,Prod.mk.injEq]at hs;obtain⟨rfl,rfl,rfl,rfl⟩:=hs;cases hx with
  |atom _ hp=>
   cases hp with
   |sl0=>exact⟨_,_,#[],rfl,empty _ _,by simp,fun i j hi=>by omega⟩
   | @sl _ _ _ b off cap sz cv hA hcap hlen hc hr=>
    by_cases h0:n=0
    ·subst h0;exact⟨_,_,#[],rfl,empty _ _,by simp,fun i j hi=>by omega⟩
    ·have hsz:sz=size:=by rw[←hlen 0 (by omega),(hz 0 (by omega)).1]
     subst hsz;obtain⟨arr,h1,h2,h3⟩:=q7B (P:=P) (m:=n) hc;exact⟨_,_,arr,rfl,fun w' hw'=>by simpa[Builtin.firstCells]using h1 w' hw',h2,fun i j hi hj=>by rw[h3 i j hi hj];exact hr i j hi hj⟩
 |osl id n=>
  simp only[qDt]at hs;split at hs
  ·rename_i sz n' f' te hl;simp only[Option.some.injEq,Prod.mk.injEq]at hs;obtain⟨rfl,rfl,rfl,rfl⟩:=hs;cases hx with
   |atom hv _=>simp[isP]at hv
   |osl0=>exact⟨_,_,#[],rfl,empty _ _,by simp,fun i j hi=>by omega⟩
   | @osl _ _ b sz2 m2 cap c e hi hn2 hcap hsh hcs=>
    by_cases h0:n=0
    ·subst h0;exact⟨_,_,#[],rfl,empty _ _,by simp,fun i j hi=>by omega⟩
    ·obtain⟨rfl,rfl,cells,e',hh,hsz,hlen,hr⟩:=(h.own id _ b sz2 m2 hl hi).1;have hsz':sz=size:=by rw[←hlen 0 (by omega),(hz 0 (by omega)).1]
     subst hsz';obtain⟨arr,h1,h2,h3⟩:=q7B (P:=P) (w:=w) (b:=b) (off:=0) (m:=n) (size:=sz) (cv:=fun i j=>cells.getD (i*sz+j) Go.undef) (fun i j hi hj=>by
      have e1:i*sz+sz=(i+1)*sz:=by rw[Nat.add_mul,Nat.one_mul]
      have e2:(i+1)*sz≤n'*sz:=Nat.mul_le_mul_right _ (by omega);rw[Nat.zero_add];exact q4Q hh (by omega))
     exact⟨_,_,arr,rfl,fun w' hw'=>by simpa[Builtin.firstCells]using h1 w' hw',h2,fun i j hi hj=>by rw[h3 i j hi hj];exact hr i j (by omega) hj⟩
  ·simp at hs
 |_=>simp[qDt]at hs
theorem Rel.touch {g:G} {s:AS} {a:Act} {w w':World} {ι:q1K} {Fr:Nat→Nat→Prop} (h:Rel g s a w ι Fr) {b:Nat} (hb0:g.New b)
  (hno:∀k c r,lk s.S k=some c→ι k=some r→r.1≠b) (hFr:∀t,¬Fr t b) (hos:w'.os=w.os) (ht:w'.tape=w.tape) (ho:w'.output=w.output) (hsz:w'.heap.size=w.heap.size)
  (hb:∀k,k≠b→w'.heap[k]?=w.heap[k]?) (hsh:∀k e,w.shape? k=some e→w'.shape? k=some e):Rel g s a w' ι Fr:=by
 have hF:∀t k,Fr t k→Fr t k∧w'.heap[k]?=w.heap[k]?:=fun t k hf=>⟨hf,hb k fun e=>hFr t (e▸hf)⟩;exact
  {h with
   tmp:=fun t v hv=>(h.tmp t v hv).world hF hsh
   own:=fun id blk b' sz m hl hi=>⟨(h.own id blk b' sz m hl hi).1.mono (p:=fun _=>false) (hb b' (hno id blk _ hl hi)) hF (fun _ _=>rfl) (Blk.ment_false blk) (fun _ r e _ _ hs=>hsh r.1 e hs),(h.own id blk b' sz m hl hi).2⟩
   fr:=fun t k hf=>⟨by rw[hsz];exact(h.fr t k hf).1,(h.fr t k hf).2⟩
   cl:=fun t k h2 hf=>by rw[(hF t k hf).2];exact h.cl t k h2 hf
   os:=hos.trans h.os
   tape:=ht.trans h.tape
   output:=ho.trans h.output
   hsize:=by rw[hsz];exact h.hsize
   frame:=fun k hlt hio=>(hb k fun e=>by
    subst e;rcases hb0 with h1|h1
    ·omega
    ·exact hio (h.mvio _ h1)).trans (h.frame k hlt hio)
   shape:=fun k e he=>hsh k e (h.shape k e he) }
theorem qPO {w:World} {Fr:Nat→Nat→Prop} (hS:∀b,¬Fr q0l b) (h0:∀t b,Fr t b→Fr 0 b) {flat:Bool} {a b m tj:Nat} (hM:2≤a→a≠q0l→∀t x,2≤t→Fr t x→Fr a x) {f:Nat→V} {jo:List Prop} (h:q7S flat a b m f=(tj,jo)) (ho:∀p∈jo,p):
  (∀c v,PRep w (Fr a) c v→PRep w (Fr tj) c v)∧(∀i j v,i<m→j<(f i).cells.length→PRep w (Fr b) ((f i).cells.getD j .undef) v→PRep w (Fr tj) ((f i).cells.getD j .undef) v):=by
 unfold q7S at h;cases flat with
 |true=>
  simp only at h;split at h
  ·rename_i h1 h2;have e1:=q0y.1 h1;have e2:=q0y.1 h2;simp only[Prod.mk.injEq]at h;obtain⟨rfl,rfl⟩:=h;subst e1 e2;exact⟨fun _ _ h=>h,fun _ _ _ _ _ h=>h⟩
  ·rename_i h1 h2;have e1:=q0y.1 h1;simp only[Prod.mk.injEq]at h;obtain⟨rfl,rfl⟩:=h;subst e1;refine⟨fun _ _ h=>h,fun i j v hi hj h=>qTT h ?_⟩;have:=ho _ (List.mem_singleton.2 rfl) i hi;exact q5c (cs:=(f i).cells) this hj
  ·simp only[Prod.mk.injEq]at h;obtain⟨rfl,rfl⟩:=h;exact⟨fun _ _ h=>h.weaken fun b hb=>h0 _ _ hb,fun _ _ _ _ _ h=>h.weaken fun b hb=>h0 _ _ hb⟩
 |false=>
  simp only at h;split at h
  ·rename_i h1;have e1:=q0y.1 h1;simp only[Prod.mk.injEq]at h;obtain⟨rfl,rfl⟩:=h;subst e1;exact⟨fun _ _ h=>h,fun _ _ _ _ _ h=>h⟩
  ·split at h
   ·rename_i h2;simp only[Bool.and_eq_true,Bool.not_eq_true',q1N]at h2;simp only[Prod.mk.injEq]at h;obtain⟨rfl,rfl⟩:=h;exact⟨fun _ _ h=>h,fun _ _ _ _ _ h=>h.weaken fun x hx=>hM (Nat.le_of_ble_eq_true h2.1.1) h2.2 _ x (Nat.le_of_ble_eq_true h2.1.2) hx⟩
   ·simp only[Prod.mk.injEq]at h;obtain⟨rfl,rfl⟩:=h;exact⟨fun _ _ h=>h.weaken fun b hb=>h0 _ _ hb,fun _ _ _ _ _ h=>h.weaken fun b hb=>h0 _ _ hb⟩
theorem qFU {t u ty el b n cap m c:Nat} {a0:Option Addr} {cells news:Array Value} {size:Nat} {w:World} {e:TypeId} (hu:(underlying t).run P w=.ok (.slice el) w) (hu2:∃el2,(underlying u).run P w=.ok (.slice el2) w) (hsz:(sizeOf el).run P w=.ok size w)
  (rest:List TypeId) (hb:w.heap[b]?=some (.cells cells e (0,0))) (hn:(Builtin.firstCells size m (.slice a0 m c)).run P w=.ok news w) (hone:∀v∈news.toList,one v=true) (hle:n*size+news.size≤cells.size) (hroom:n+m≤cap):
  (Builtin.append_ (t::u::rest).toArray ty #[.slice (some ⟨b,0,none⟩) n cap,.slice a0 m c]).run P w=.ok (.slice (some ⟨b,0,none⟩) (n+m) cap) (q18 w b (q1b cells (n*size) news.toList) e):=by
 obtain⟨el2,hu2⟩:=hu2;have hst:=q5d (P:=P) news.toList w cells (n*size) 0 hb (by simp;omega) hone;have hst':(storeCells ((⟨b,0,none⟩:Addr).add (n*size)) news.toList).run P w=.ok () (q18 w b (q1b cells (n*size) news.toList) e):=by
  rw[q5b,Nat.zero_add,hst];split
  ·rename_i h;rw[h,q1b,q6z hb]
  ·rw[Nat.add_zero]
 unfold Builtin.append_;simp[hu,hu2,hsz,Builtin.lenOf,hroom,hn,hst']
theorem q6v {t u ty el n cap m c:Nat} {base a0:Option Addr} {old news:Array Value} {size bytes:Nat} {w:World} {i:TypeInfo} {z:Value}
  (hu:(underlying t).run P w=.ok (.slice el) w) (hu2:∃el2,(underlying u).run P w=.ok (.slice el2) w) (hi:P.info? el=some i) (his:i.size=size) (hib:i.bytes=bytes) (hz:i.zero=some z)
  (rest:List TypeId) (hold:∀w':World,w'.heap=w.heap→(Builtin.firstCells size n (.slice base n cap)).run P w'=.ok old w')
  (hn:∀w':World,w'.heap=w.heap→(Builtin.firstCells size m (.slice a0 m c)).run P w'=.ok news w') (hroom:¬n+m≤cap) (hb1:1≤bytes) (hb2:bytes≤1024) (hmost:n+m≤q4w):
  (Builtin.append_ (t::u::rest).toArray ty #[.slice base n cap,.slice a0 m c]).run P w=
   .ok (.slice (some ⟨w.heap.size,0,none⟩) (n+m) (grownCap w (n+m) cap el)) (w.drew.alloc (.cells (old++news++Builtin.zeroCells z.cells (grownCap w (n+m) cap el-(n+m))) el (0,0))):=by
 subst his hib;obtain⟨el2,hu2⟩:=hu2;have hm:n+m≤1073741824:=by unfold q4w at hmost;omega
 have hfit:Builtin.nextslicecap (n+m) cap*i.bytes≤281474976710656:=by
  refine growslice_fits (by omega) ?_;have:(n+m)*i.bytes≤1073741824*1024:=Nat.mul_le_mul hm hb2;omega
 have hno:¬(281474976710656<Builtin.nextslicecap (n+m) cap*i.bytes):=by omega
 have hb0:¬i.bytes=0:=by omega
 have h1:=hold w.drew rfl;have h2:=hn w.drew rfl;unfold Builtin.append_;simp[hu,hu2,sizeOf,typeInfo,zeroValue,hi,hz,Builtin.lenOf,hroom,hb0,hno,Question.forced,h1,h2,newRow,grownCap]
end
theorem q17.del {s:AS} {id:Nat} (h:q17 s id) (k:Nat):q17 { s with S:=Go.Av.del s.S k } id where
 ge:=h.ge
 no:=by
  show lk (Go.Av.del s.S k) id=none;rw[q7y,h.no];simp
 T:=h.T
 S:=fun j blk hj=>by
  have hj':lk (Go.Av.del s.S k) j=some blk:=hj;rw[q7y]at hj';by_cases e:j=k
  ·simp[e]at hj'
  ·simp only[e,if_false]at hj';exact h.S j blk hj'
theorem qJW {n i:Nat} {g h:Nat→V} (hi:i<n):q3K n g h i=g i:=by simp[q3K,hi]
theorem qIv {n i:Nat} {g h:Nat→V} (hi:n≤i):q3K n g h i=h (i-n):=by
 have:¬i<n:=by omega
 simp[q3K,this]
section
variable {P:Program} {tt:TT} (hT:q4K P tt)
theorem qC4 {w:World} {A:Nat→Prop} {m size:Nat} {f:Nat→V} {news:Array Value} (hz:q13 size m f) (hs:news.size=m*size)
  (hr:∀i j,i<m→j<size→PRep w A ((f i).cells.getD j .undef) (news.getD (i*size+j) Go.undef)):∀v∈news.toList,one v=true:=by
 intro v hv;obtain⟨k,hk,rfl⟩:=List.mem_iff_getElem.1 hv;have hk':k<m*size:=by rw[←hs];simpa using hk
 have hpos:0<size:=by
  rcases Nat.eq_zero_or_pos size with h0|h0
  ·subst h0;simp at hk'
  ·exact h0
 have h1:k/size<m:=Nat.div_lt_of_lt_mul (by rw[Nat.mul_comm];exact hk');have h2:k%size<size:=Nat.mod_lt _ hpos;have h3:k/size*size+k%size=k:=by rw[Nat.mul_comm];exact Nat.div_add_mod k size
 obtain⟨h4,h5⟩:=hz _ h1;have:=(hr _ _ h1 h2).one (qNQ h5 (by omega));rw[h3]at this;simpa[show k<news.size by simpa using hk]using this
theorem qLo {w:World} {A:Nat→Prop} {n m size:Nat} {f h:Nat→V} {cells:Array Value}
  (hold:∀i j,i<n→j<size→PRep w A ((f i).cells.getD j .undef) (cells.getD (i*size+j) Go.undef))
  (hnew:∀i j,i<m→j<size→PRep w A ((h i).cells.getD j .undef) (cells.getD ((n+i)*size+j) Go.undef)):
  ∀i j,i<n+m→j<size→PRep w A ((q3K n f h i).cells.getD j .undef) (cells.getD (i*size+j) Go.undef):=by
 intro i j hi hj;by_cases h1:i<n
 ·rw[qJW h1];exact hold i j h1 hj
 ·rw[qIv (by omega)];have:=hnew (i-n) j (by omega) hj
  rwa [show n+(i-n)=i by omega]at this
theorem q8t {g:G} {s:AS} {a:Act} {w:World} {ι:q1K} {Fr:Nat→Nat→Prop} (h:Rel g s a w ι Fr) {o:Oper} {site:Nat} (hf:q17 s site) (hd:q4Z g.nt o=true)
  {el:TypeId} {ti:TI} (hl:lk tt el=some ti) {n m:Nat} {F H:Nat→V} {old news:Array Value} {tj:Nat} {rd:List Nat} {ob:List Prop} {upd0:List (Nat×Option Blk)} (hupd:∀k,lk (q0Y s.S (upd0++[(site,some (.arr ti.size (n+m) (q3K n F H) tj))])) k=lk (put s.S site (.arr ti.size (n+m) (q3K n F H) tj)) k)
  (hos:old.size=n*ti.size) (hns:news.size=m*ti.size) (hFl:∀i,i<n→(F i).cells.length=ti.size) (hHl:∀i,i<m→(H i).cells.length=ti.size)
  (hor:∀i j,i<n→j<ti.size→PRep w (Fr tj) ((F i).cells.getD j .undef) (old.getD (i*ti.size+j) Go.undef))
  (hnr:∀i j,i<m→j<ti.size→PRep w (Fr tj) ((H i).cells.getD j .undef) (news.getD (i*ti.size+j) Go.undef))
  {z:Value} (hz:z.cells.size=ti.size) {cap:Nat} (hcap:n+m≤cap)
  (hrun:(execOp a.eval o).run P w=.ok (.value (.slice (some ⟨w.heap.size,0,none⟩) (n+m) cap)) (w.drew.alloc (.cells (old++news++Builtin.zeroCells z.cells (cap-(n+m))) el (0,0)))):
  q90 P g (s.app o.dst ⟨.osl site (n+m),upd0++[(site,some (.arr ti.size (n+m) (q3K n F H) tj))],rd,ob⟩) a w o:=by
 have hd0:Rel g s a w.drew ι Fr:=h.grow rfl rfl rfl (Nat.le_refl _) (fun _ _=>rfl);have hcs:(old++news++Builtin.zeroCells z.cells (cap-(n+m))).size=cap*ti.size:=by
  simp only[Array.size_append,hos,hns,size_zeroCells,hz,←Nat.add_mul];congr 1;omega
 have hget:∀k,k<(n+m)*ti.size→(old++news++Builtin.zeroCells z.cells (cap-(n+m))).getD k Go.undef=if k<n*ti.size then old.getD k Go.undef else news.getD (k-n*ti.size) Go.undef:=by
  intro k hk;rw[Nat.add_mul]at hk;by_cases h1:k<n*ti.size
  ·rw[if_pos h1];simp[Array.getElem?_append,hos,hns,h1,show k<n*ti.size+m*ti.size by omega]
  ·rw[if_neg h1];simp[Array.getElem?_append,hos,hns,h1,show k-n*ti.size<m*ti.size by omega]
 have hlt:∀i j,i<n+m→j<ti.size→i*ti.size+j<(n+m)*ti.size:=by
  intro i j hi hj;have e1:i*ti.size+ti.size=(i+1)*ti.size:=by rw[Nat.add_mul,Nat.one_mul]
  have e2:(i+1)*ti.size≤(n+m)*ti.size:=Nat.mul_le_mul_right _ hi;omega
 have hnew:=hd0.newBlk hf (arr:=old++news++Builtin.zeroCells z.cells (cap-(n+m))) (e:=el) (sz:=ti.size) (m:=n+m) (blk:=.arr ti.size (n+m) (q3K n F H) tj) (fun w' hw hb hsh=>by
  refine⟨rfl,rfl,_,el,hw,by rw[hcs];exact Nat.mul_le_mul_right _ hcap,fun i hi=>?_,?_⟩
  ·by_cases h1:i<n
   ·rw[qJW h1];exact hFl i h1
   ·rw[qIv (by omega)];exact hHl _ (by omega)
  ·refine qLo (fun i j hi hj=>?_) (fun i j hi hj=>?_)
   ·have h1:i*ti.size+j<n*ti.size:=by
     have e1:i*ti.size+ti.size=(i+1)*ti.size:=by rw[Nat.add_mul,Nat.one_mul]
     have e2:(i+1)*ti.size≤n*ti.size:=Nat.mul_le_mul_right _ hi;omega
    rw[hget _ (hlt i j (by omega) hj),if_pos h1];exact(hor i j hi hj).mono fun b hb'=>⟨hb',hb b (h.fr _ b hb').1⟩
   ·have h1:¬(n+i)*ti.size+j<n*ti.size:=by rw[Nat.add_mul];omega
    rw[hget _ (hlt (n+i) j (by omega) hj),if_neg h1];have e1:(n+i)*ti.size+j-n*ti.size=i*ti.size+j:=by rw[Nat.add_mul];omega
    rw[e1];exact(hnr i j hi hj).mono fun b hb'=>⟨hb',hb b (h.fr _ b hb').1⟩)
 have hsz:w.drew.heap.size=w.heap.size:=rfl;rw[hsz]at hnew;refine q3c hd hrun (hnew.congr (fun _=>rfl) fun k=>?_) ?_
 ·exact hupd k
 ·exact .osl (b:=w.heap.size) (sz:=ti.size) (m:=n+m) (e:=el) (c:=(old++news++Builtin.zeroCells z.cells (cap-(n+m))).size) (by simp[q9U]) (Nat.le_refl _) hcap (q9S w.drew _ _) (by rw[hcs];exact Nat.le_refl _)
theorem q6o (w:World) (need old:Nat) (e:TypeId):need≤grownCap w need old e:=by
 unfold grownCap Question.cut;exact Nat.le_add_right _ _
include hT in
theorem qBf {g:G} {s:AS} {a:Act} {w:World} {ι:q1K} {Fr:Nat→Nat→Prop} (h:Rel g s a w ι Fr) {o:Oper} {c:Call} {x y:Operand} {t u:TypeId} {rest:List TypeId} (hop:o.op=.call c)
  (hcal:c.callee=.builtin .append) (hargs:c.args= #[x,y]) (hty:c.argTypes.toList=t::u::rest) (hu2:∃ti,q2Q tt u=some ti)
  {xv:V} (hx:q0e w Fr ι xv (a.eval x)) (hy:q0e w Fr ι (q1H (q20 s y)) (a.eval y)) (hd:q4Z g.nt o=true) {site:Nat} (hf:q17 s site)
  (hM:∀id n sz n' F te,xv=.osl id n→lk s.S id=some (.arr sz n' F te)→2≤te→te≠q0l→∀t b,2≤t→Fr t b→Fr te b)
  {e:Ef} (he:q7a tt s.S site t xv (q1H (q20 s y))=some e) (ho:∀p∈e.ob,p):q90 P g (s.app o.dst e) a w o:=by
 obtain⟨tiu,htiu⟩:=hu2;obtain⟨elu,huu,_⟩:=q3z (P:=P) hT htiu w;have hexec:∀v w',(Builtin.append_ (t::u::rest).toArray o.type #[a.eval x,a.eval y]).run P w=.ok v w'→(execOp a.eval o).run P w=.ok (.value v) w':=by
  intro v w' hr;unfold execOp;rw[hop];have hat:c.argTypes=(t::u::rest).toArray:=by rw[←hty]
  simp only[resolve,hcal,hargs,invoke,builtin,Sem.run_bind,Sem.run_pure,Result.andThen_ok,hat,List.map_toArray,List.map_cons,List.map_nil,hr]
 generalize a.eval x=vx at hx hexec;generalize a.eval y=vy at hy hexec;generalize q1H (q20 s y)=yv at*;unfold q7a at he;split at he
 case h_2=>simp at he
 case h_1 ti m H th rd hti hsrc=>
  obtain⟨el,hu,hl⟩:=q3z (P:=P) hT hti w;obtain⟨i,hi,hib,his⟩:=qHi hT hl w;obtain⟨i',hi',his',hib',z,hz,_,_,hzs,_⟩:=hT.info _ _ hl;split at he
  case h_2=>simp at he
  case h_1 hbb=>
   simp only[Bool.and_eq_true]at hbb;have hb2:ti.bytes≤1024:=Nat.le_of_ble_eq_true hbb.1;have hb1:1≤ti.bytes:=Nat.le_of_ble_eq_true hbb.2;split at he
   ·
    cases hjo:q7S ti.flat q0l th m H with
    |mk tj jo=>
    simp only[hjo,Option.some.injEq]at he;subst he;have hm:m≤q4w:=ho _ (List.mem_cons_self ..);have hsz:q13 ti.size m H:=ho _ (List.mem_cons_of_mem _ (List.mem_cons_self ..));have hjo':∀p∈jo,p:=fun p hp=>ho p (List.mem_cons_of_mem _ (List.mem_cons_of_mem _ hp));obtain⟨a0,c0,news,hvx,hnr,hns,hrep⟩:=qQ7 (P:=P) (size:=ti.size) h hsrc hy hsz (fun id n blk hyv hlk sz n' g' te hblk=>by
     subst hyv hblk;simp only[qDt,hlk,Option.some.injEq,Prod.mk.injEq]at hsrc;obtain⟨rfl,rfl,rfl,rfl⟩:=hsrc;cases hy with
     |atom hv _=>simp[isP]at hv
     |osl0=>exact .inr (.inr rfl)
     |osl hi hn hc hs hcs=>
      by_cases h0:n=0
      ·exact .inr (.inr h0)
      ·obtain⟨q1,q2,cells,e',hh,_,hlen,_⟩:=(h.own id _ _ _ _ hlk hi).1;left;rw[q1,←(hsz 0 (by omega)).1];rw[hlen 0 (by omega)])
    cases hx with
    |atom _ hp=>
     cases hp with
     |nil base=>
      by_cases h0:m=0
      ·subst h0;have hn0:news.size=0:=by rw[hns];simp
       have hnews:news= #[]:=Array.eq_empty_of_size_eq_zero hn0;subst hnews;have hrun:=hexec (.slice base 0 0) w (by
        rw[hvx];have h1:=hnr w rfl;rw[hvx]at h1;unfold Builtin.append_;cases base<;>simp[hu,huu,q2c hT hl,Builtin.lenOf,h1,storeCells])
       have hnil:=h.addNil hf (sz:=ti.size) (te:=(match ti.flat with|true=>q0l|false=>th)) (f:=H);exact q3c hd hrun (hnil.congr (fun _=>rfl) fun k=>rfl) (.osl0 base (by simp[q9U]))
      ·have hrun:=hexec _ _ (by
        rw[hvx];rw[hvx]at hnr;exact q6v (P:=P) (ty:=o.type) (n:=0) (cap:=0) (old:= #[]) hu ⟨_,huu⟩ hi' his' hib' hz rest (fun w' _=>by cases base<;>simp[Builtin.firstCells,loadCells,loadCellsFrom]) hnr (by omega) hb1 hb2 (by omega))
       have happ:q3K 0 (fun _=>V.undef) H=H:=by funext k;simp[q3K]
       have hmain:=q8t (P:=P) h hf hd hl (n:=0) (m:=m) (F:=fun _=>.undef) (H:=H) (old:= #[]) (news:=news) (tj:=(match ti.flat with|true=>q0l|false=>th)) (rd:=rd) (ob:=(m≤q4w)::q13 ti.size m H::jo) (upd0:=[])
        (fun k=>rfl) (by simp) hns (fun i hi=>by omega) (fun i hi=>(hsz i hi).1) (fun i j hi=>by omega) (fun i j hi hj=>by
         have h1:=hrep i j hi hj;cases hfl:ti.flat with
         |false=>exact h1
         |true=>
          rw[hfl]at hjo;have h2:=(qPO h.frS h.fr0 (fun _ e=>absurd rfl e) hjo hjo').2 i j _ hi (by rw[(hsz i hi).1];exact hj) h1;unfold q7S at hjo;simp only at hjo;split at hjo
          ·simp only[Prod.mk.injEq]at hjo;rw[←hjo.1]at h2;exact h2
          ·simp only[Prod.mk.injEq]at hjo;rw[←hjo.1]at h2;exact h2
          ·rename_i hne1 hne2;exfalso;cases hq:Nat.beq th q0l with
           |true=>exact hne1 (q0y.2 rfl) hq
           |false=>exact hne2 (q0y.2 rfl) hq)
        hzs (q6o _ _ _ _) hrun
       rw[happ,Nat.zero_add]at hmain;exact hmain
   ·
    rename_i id n;split at he
    case h_2=>simp at he
    case h_1 sz n' F te hlk=>
     cases hjo:q7S ti.flat te th m H with
     |mk tj jo=>
     simp only[hjo]at he;cases hszb:Nat.beq sz ti.size with
     |false=>simp[hszb]at he
     |true=>
     cases h64:Nat.ble 64 id with
     |false=>simp[hszb,h64]at he
     |true=>
     simp only[hszb,h64,Option.some.injEq]at he;subst he;have e0:=q0y.1 hszb;subst e0;have hid64:64≤id:=Nat.le_of_ble_eq_true h64;have hnn:n≤n':=ho _ (List.mem_cons_self ..);have hm:n+m≤q4w:=ho _ (List.mem_cons_of_mem _ (List.mem_cons_self ..));have hsz:q13 ti.size m H:=ho _ (List.mem_cons_of_mem _ (List.mem_cons_of_mem _ (List.mem_cons_self ..)));have hjo':∀p∈jo,p:=fun p hp=>ho p (List.mem_cons_of_mem _ (List.mem_cons_of_mem _ (List.mem_cons_of_mem _ hp)));obtain⟨j1,j2⟩:=qPO (w:=w) h.frS h.fr0 (hM id n _ _ F te rfl hlk) hjo hjo';have hsid:site≠id:=by
      intro e1;have:=hf.no;rw[e1,hlk]at this;cases this
     obtain⟨a0,c0,news,hvx,hnr,hns,hrep⟩:=qQ7 (P:=P) (size:=ti.size) h hsrc hy hsz (fun id n blk hyv hlk sz n' g' te hblk=>by
      subst hyv hblk;simp only[qDt,hlk,Option.some.injEq,Prod.mk.injEq]at hsrc;obtain⟨rfl,rfl,rfl,rfl⟩:=hsrc;cases hy with
      |atom hv _=>simp[isP]at hv
      |osl0=>exact .inr (.inr rfl)
      |osl hi hn hc hs hcs=>
       by_cases h0:n=0
       ·exact .inr (.inr h0)
       ·obtain⟨q1,q2,cells,e',hh,_,hlen,_⟩:=(h.own id _ _ _ _ hlk hi).1;left;rw[q1,←(hsz 0 (by omega)).1];rw[hlen 0 (by omega)])
     rw[hvx]at hnr;have hupd:∀k,lk (q0Y (del s.S id) ([]++[(site,some (.arr ti.size (n+m) (q3K n F H) tj))])) k=lk (put (del s.S id) site (.arr ti.size (n+m) (q3K n F H) tj)) k:=fun k=>rfl;have hdrop:=h.drop id;have hfd:=hf.del id;have back:∀rd ob,q90 P g (({ s with S:=del s.S id }:AS).app o.dst ⟨.osl site (n+m),[]++[(site,some (.arr ti.size (n+m) (q3K n F H) tj))],rd,ob⟩) a w o→
       q90 P g (s.app o.dst ⟨.osl site (n+m),[(id,none),(site,some (.arr ti.size (n+m) (q3K n F H) tj))],rd,ob⟩) a w o:=fun _ _ hq=>hq
     cases hx with
     |atom hv _=>simp[isP]at hv
     |osl0 base hi0=>
      by_cases h0:m=0
      ·subst h0;have hn0:news.size=0:=by rw[hns];simp
       have hnews:news= #[]:=Array.eq_empty_of_size_eq_zero hn0;subst hnews;have hrun:=hexec (.slice base 0 0) w (by
        rw[hvx];have h1:=hnr w rfl;unfold Builtin.append_;cases base<;>simp[hu,huu,q2c hT hl,Builtin.lenOf,h1,storeCells])
       have hnil:=hdrop.addNil hfd (sz:=ti.size) (te:=tj) (f:=q3K 0 F H);exact q3c hd hrun (hnil.congr (fun _=>rfl) fun k=>rfl) (.osl0 base (by simp[q9U]))
      ·have hrun:=hexec _ _ (by
        rw[hvx];exact q6v (P:=P) (ty:=o.type) (n:=0) (cap:=0) (old:= #[]) hu ⟨_,huu⟩ hi' his' hib' hz rest (fun w' _=>by cases base<;>simp[Builtin.firstCells,loadCells,loadCellsFrom]) hnr (by omega) hb1 hb2 (by omega))
       exact back _ _ (q8t (P:=P) hdrop hfd hd hl (n:=0) (m:=m) (F:=F) (H:=H) (old:= #[]) (news:=news) (tj:=tj) (upd0:=[])
        hupd (by simp) hns (fun i hi=>by omega) (fun i hi=>(hsz i hi).1) (fun i j hi=>by omega) (fun i j hi hj=>j2 i j _ hi (by rw[(hsz i hi).1];exact hj) (hrep i j hi hj)) hzs (q6o _ _ _ _) hrun)
     | @osl _ _ b sz2 mm cap cz e2 hid hn2 hcap hsh hcs=>
      obtain⟨hown,hmine⟩:=h.own id _ b sz2 mm hlk hid;have hblt:=hown.lt;obtain⟨rfl,rfl,cells,e',hh,hcsz,hFl,hFr⟩:=hown;have hb0:g.New b:=by
       rcases hmine with h'|⟨_,h'⟩
       ·exact h'
       ·omega
      have hcells:cells.size=cz∧e'=e2:=by
       unfold World.shape? at hsh;rw[hh]at hsh;simp only[Option.some.injEq,Prod.mk.injEq]at hsh;exact⟨hsh.2,hsh.1⟩
      by_cases hroom:n+m≤cap
      ·
       have hle:n*ti.size+news.size≤cells.size:=by
        rw[hns,hcells.1,←Nat.add_mul];exact Nat.le_trans (Nat.mul_le_mul_right _ hroom) hcs
       have hone:=qC4 hsz hns hrep;have hrun:=hexec _ _ (by
        rw[hvx];exact qFU (P:=P) (ty:=o.type) (n:=n) (cap:=cap) hu ⟨_,huu⟩ (q2c hT hl w) rest hh (hnr w rfl) hone hle hroom)
       have hno:∀k c r,lk (del s.S id) k=some c→ι k=some r→r.1≠b:=by
        intro k c r hk hr e1;rw[q7y]at hk;by_cases e3:k=id
        ·simp[e3]at hk
        ·simp only[e3,if_false]at hk;exact e3 (h.inj k id c _ r _ hk hlk hr hid e1)
       have hFrb:∀t,¬Fr t b:=fun t hf=>(h.fr t b hf).2.2 id _ _ hlk hid rfl;have hsh':∀k x',w.shape? k=some x'→(q18 w b (q1b cells (n*ti.size) news.toList) e').shape? k=some x':=fun k x' hk=>q8v hh (q28 _ _ _) hk;have htouch:=hdrop.touch (w':=q18 w b (q1b cells (n*ti.size) news.toList) e') hb0 hno hFrb rfl rfl rfl q5g (fun k hk=>q3Y hk) hsh';have hmono:∀c v,PRep w (Fr tj) c v→PRep (q18 w b (q1b cells (n*ti.size) news.toList) e') (Fr tj) c v:=
        fun c v hp=>hp.mono fun k hk=>⟨hk,q3Y fun e1=>hFrb tj (e1▸hk)⟩
       have hlen2:news.toList.length=m*ti.size:=by simpa using hns
       have hadd:=htouch.addBlk hfd (b:=b) (sz:=ti.size) (m:=n+m) (blk:=.arr ti.size (n+m) (q3K n F H) tj) (by
        refine⟨rfl,rfl,_,e',q4H hblt,?_,fun i hi=>?_,?_⟩
        ·rw[q28,Nat.add_mul];omega
        ·by_cases h1:i<n
         ·rw[qJW h1];exact hFl i (by omega)
         ·rw[qIv (by omega)];exact(hsz _ (by omega)).1
        ·refine qLo (fun i j hi hj=>?_) (fun i j hi hj=>?_)
         ·have h1:i*ti.size+j<n*ti.size:=by
           have e1:i*ti.size+ti.size=(i+1)*ti.size:=by rw[Nat.add_mul,Nat.one_mul]
           have e2:(i+1)*ti.size≤n*ti.size:=Nat.mul_le_mul_right _ hi;omega
          rw[q3D _ _ _ _ (by rw[hlen2];omega),if_neg (by omega)];exact hmono _ _ (j1 _ _ (hFr i j (by omega) hj))
         ·have h1:n*ti.size≤(n+i)*ti.size+j∧(n+i)*ti.size+j<n*ti.size+news.toList.length:=by
           rw[hlen2];have e1:i*ti.size+ti.size=(i+1)*ti.size:=by rw[Nat.add_mul,Nat.one_mul]
           have e2:(i+1)*ti.size≤m*ti.size:=Nat.mul_le_mul_right _ hi;rw[Nat.add_mul];omega
          rw[q3D _ _ _ _ (by rw[hlen2];omega),if_pos h1,q5X];have e1:(n+i)*ti.size+j-n*ti.size=i*ti.size+j:=by rw[Nat.add_mul];omega
          rw[e1];exact hmono _ _ (j2 i j _ hi (by rw[(hsz i hi).1];exact hj) (hrep i j hi hj))) hb0 hFrb hno
       refine back _ _ (q3c hd hrun (hadd.congr (fun _=>rfl) fun k=>rfl) ?_);exact .osl (b:=b) (sz:=ti.size) (m:=n+m) (e:=e') (c:=cells.size) (by simp[q9U]) (Nat.le_refl _) hroom
        (hsh' b _ (by unfold World.shape?;rw[hh])) (by rw[hcells.1];exact hcs)
      ·
       have hold:∃old:Array Value,(∀w':World,w'.heap=w.heap→(Builtin.firstCells ti.size n (.slice (some ⟨b,0,none⟩) n cap)).run P w'=.ok old w')∧old.size=n*ti.size∧
         ∀i j,i<n→j<ti.size→old.getD (i*ti.size+j) Go.undef=cells.getD (i*ti.size+j) Go.undef:=by
        obtain⟨arr,h1,h2,h3⟩:=q7B (P:=P) (w:=w) (b:=b) (off:=0) (m:=n) (size:=ti.size) (cv:=fun i j=>cells.getD (i*ti.size+j) Go.undef) (fun i j hi hj=>by
         have e1:i*ti.size+ti.size=(i+1)*ti.size:=by rw[Nat.add_mul,Nat.one_mul]
         have e2:(i+1)*ti.size≤n*ti.size:=Nat.mul_le_mul_right _ hi;have e3:=Nat.mul_le_mul_right ti.size hnn;rw[Nat.zero_add];exact q4Q hh (by omega))
        exact⟨arr,fun w' hw'=>by simpa[Builtin.firstCells]using h1 w' hw',h2,h3⟩
       obtain⟨old,ho1,ho2,ho3⟩:=hold;have hrun:=hexec _ _ (by
        rw[hvx];exact q6v (P:=P) (ty:=o.type) hu ⟨_,huu⟩ hi' his' hib' hz rest ho1 hnr hroom hb1 hb2 hm)
       exact back _ _ (q8t (P:=P) hdrop hfd hd hl (n:=n) (m:=m) (F:=F) (H:=H) (old:=old) (news:=news) (tj:=tj) (upd0:=[])
        hupd ho2 hns (fun i hi=>hFl i (by omega)) (fun i hi=>(hsz i hi).1) (fun i j hi hj=>by rw[ho3 i j hi hj];exact j1 _ _ (hFr i j (by omega) hj)) (fun i j hi hj=>j2 i j _ hi (by rw[(hsz i hi).1];exact hj) (hrep i j hi hj)) hzs (q6o _ _ _ _) hrun)
   ·simp at he
theorem qMF {tt:TT} {S:List (Nat×Blk)} {site t:Nat} {s x:V} {e:Ef} (h:q8H tt S site t s x=some e) (ho:∀p∈e.ob,p):
  ∃e',q7a tt S site t s x=some e'∧(∀p∈e'.ob,p)∧e'.v=e.v∧e'.upd=e.upd:=by
 unfold q8H at h;unfold q7a;split at h
 case h_2=>simp at h
 case h_1 ti m H th rd hti hsrc=>
  simp only[hti,hsrc];split at h
  case h_2=>simp at h
  case h_1 hbb=>
   split at h
   ·simp only[Option.some.injEq]at h;subst h;exact⟨_,rfl,ho,rfl,rfl⟩
   ·rename_i id n;split at h
    case h_2=>simp at h
    case h_1 sz n' F te hlk=>
     split at h
     case h_2=>simp at h
     case h_1 tj jo h1 h2=>
      split at h
      case h_2=>simp at h
      case h_1 h3=>
       simp only[Option.some.injEq]at h;subst h;refine⟨_,rfl,fun p hp=>?_,rfl,rfl⟩;rcases List.mem_cons.1 hp with hq|hq
       ·subst hq;exact Nat.le_of_eq (ho _ (List.mem_cons_self ..))
       ·exact ho p (List.mem_cons_of_mem _ hq)
   ·simp at h
theorem q90.of_eq {P:Program} {g:G} {s:AS} {a:Act} {w:World} {o:Oper} {e e':Ef} (h:q90 P g (s.app o.dst e') a w o) (h1:e'.v=e.v) (h2:e'.upd=e.upd):q90 P g (s.app o.dst e) a w o:=by
 have:s.app o.dst e=s.app o.dst e':=by
  unfold AS.app;rw[h1,h2]
 rw[this];exact h
include hT in
theorem qBZ {g:G} {s:AS} {a:Act} {w:World} {ι:q1K} {Fr:Nat→Nat→Prop} (h:Rel g s a w ι Fr) {o:Oper} {c:Call} {x y:Operand} {t u:TypeId} {rest:List TypeId} (hop:o.op=.call c)
  (hcal:c.callee=.builtin .append) (hargs:c.args= #[x,y]) (hty:c.argTypes.toList=t::u::rest) (hu2:∃ti,q2Q tt u=some ti)
  {xv:V} (hx:q0e w Fr ι xv (a.eval x)) (hy:q0e w Fr ι (q1H (q20 s y)) (a.eval y)) (hd:q4Z g.nt o=true) {site:Nat} (hf:q17 s site)
  {e:Ef} (he:q7a tt s.S site t xv (q1H (q20 s y))=some e) (ho:∀p∈e.ob,p):q90 P g (s.app o.dst e) a w o:=by
 by_cases hc:∃id n sz n' F te,xv=.osl id n∧lk s.S id=some (.arr sz n' F te)∧2≤te∧te≠q0l
 ·obtain⟨id,n,sz,n',F,te,e1,e2,e3,e4⟩:=hc;have hR:Rel g s a w ι (FrK Fr s.S ι [] te):=h.freezeL te [] (Or.inr rfl) (fun id hid=>by cases hid);have up:∀{v z},q0e w Fr ι v z→q0e w (FrK Fr s.S ι [] te) ι v z:=fun hq=>hq.world (fun t b hf=>⟨.inl hf,rfl⟩) (fun _ _ hs=>hs);refine qBf (P:=P) hT hR hop hcal hargs hty hu2 (up hx) (up hy) hd hf ?_ he ho;intro id' n2 sz2 n3 F2 te2 q1 q2 q3 q4 t b ht hb;rw[e1]at q1;cases q1;rw[e2]at q2;cases q2;refine .inr (.inr ⟨rfl,e3,e4,?_⟩);rcases hb with hb|⟨_,id2,hid2,_⟩|⟨_,_,_,t2,h2,hb⟩
  ·exact⟨t,ht,hb⟩
  ·cases hid2
  ·exact⟨t2,h2,hb⟩
 ·refine qBf (P:=P) hT h hop hcal hargs hty hu2 hx hy hd hf ?_ he ho;intro id n sz n' F te q1 q2 q3 q4;exact absurd ⟨id,n,sz,n',F,te,q1,q2,q3,q4⟩ hc
include hT in
theorem qJl {g:G} {s:AS} {a:Act} {w:World} {ι:q1K} {Fr:Nat→Nat→Prop} (h:Rel g s a w ι Fr) {o:Oper} {c:Call} {x y:Operand} {t u:TypeId} {rest:List TypeId} (hop:o.op=.call c)
  (hcal:c.callee=.builtin .append) (hargs:c.args= #[x,y]) (hty:c.argTypes.toList=t::u::rest) (hu2:∃ti,q2Q tt u=some ti)
  (hx:q0e w Fr ι (q1H (q20 s x)) (a.eval x)) (hy:q0e w Fr ι (q1H (q20 s y)) (a.eval y)) (hd:q4Z g.nt o=true) {site:Nat} (hf:q17 s site)
  {e:Ef} (he:q8H tt s.S site t (q1H (q20 s x)) (q1H (q20 s y))=some e) (ho:∀p∈e.ob,p):q90 P g (s.app o.dst e) a w o:=by
 obtain⟨e',h1,h2,h3,h4⟩:=qMF he ho;exact(qBZ (P:=P) hT h hop hcal hargs hty hu2 hx hy hd hf h1 h2).of_eq h3 h4
end
theorem qNn {w:World} {Fr:Nat→Nat→Prop} {ι:q1K} {v:V} {x:Value} {A:Nat→Prop} (h:q0e w Fr ι v x) (hf:q86 v=true):PRep w A v x:=by
 have one:∀{c:V} {y:Value},q0e w Fr ι c y→qE3 c=true→PRep w A c y:=by
  intro c y hc hfc;cases hc with
  |atom hv hp=>cases hp<;>first|exact .int _ _|exact .bool _|exact .str _|simp[qE3]at hfc
  |_=>simp[qE3]at hfc
 cases v with
 |agg cs=>
  cases h with
  |atom hv _=>simp[isP]at hv
  |agg arr hs hr=>
   refine .agg arr hs fun j hj=>one (hr j hj) ?_;exact q5c (p:=qE3) hf hj
 |int=>exact one h rfl
 |bool=>exact one h rfl
 |str=>exact one h rfl
 |_=>simp[q86,V.cells,qE3]at hf
theorem qQE {a b:V} (h:x4F a b=true):a=b:=by
 cases a<;>cases b<;>simp[x4F]at h
 ·obtain⟨h1,h2⟩:=h;rw[q8n h1,h2]
 ·rw[h]
theorem qOD:∀{as bs:List V},qZ1 as bs=true→as=bs
 |[],[],_=>rfl
 |[],_::_,h=>by simp[qZ1]at h
 |_::_,[],h=>by simp[qZ1]at h
 |a::r,b::q,h=>by
  simp only[qZ1,Bool.and_eq_true]at h;rw[qQE h.1,qOD h.2]
theorem x2n {a b:V} (h:veq a b=true):a=b:=by
 unfold veq at h;split at h
 ·rw[qOD h]
 ·exact qQE h
def at_:List MapEntry→Int→Nat→Option (Nat×Value)
 |[],_,_=>none
 |e::es,k,i=>match e.key with
  | .int .i64 k'=>if k=k' then some (i,e.val)else at_ es k (i+1)
  |_=>at_ es k (i+1)
theorem qEd (q:IntKind) (n:Int):∀(es:List MapEntry) (i:Nat),(∀e∈es,∃k:Int,e.key=.int .i64 k)→Instr.findNow (.int q) (.int .i64 n) es i=some (at_ es n i)
 |[],_,_=>rfl
 |e::es,i,h=>by
  obtain⟨k,hk⟩:=h e (List.mem_cons_self ..);have ih:=qEd q n es (i+1) fun x hx=>h x (List.mem_cons_of_mem _ hx);by_cases e1:n=k
  ·subst e1;simp[Instr.findNow,Instr.sameNow,at_,hk]
  ·have:(n==k)=false:=by simpa using e1
   simp[Instr.findNow,Instr.sameNow,at_,hk,e1,ih,this]
theorem qJZ (n:Int):∀(es:List MapEntry) (i:Nat),(∀e∈es,∃k:Int,e.key=.int .i64 k)→(at_ es n i).map Prod.snd=qBq es n
 |[],_,_=>rfl
 |e::es,i,h=>by
  obtain⟨k,hk⟩:=h e (List.mem_cons_self ..);have ih:=qJZ n es (i+1) fun x hx=>h x (List.mem_cons_of_mem _ hx);by_cases e1:n=k
  ·simp[at_,qBq,hk,e1]
  ·simp[at_,qBq,hk,e1,ih]
theorem qD9 {n:Int} {v:Value}:∀{es:List MapEntry} {i j:Nat} {x:Value},(∀e∈es,∃k:Int,e.key=.int .i64 k)→at_ es n i=some (j,x)→
  ∃m,j=i+m∧m<es.length∧(es.getD m default).key=.int .i64 n∧∀k,qBq (es.modify m fun e=>{ e with key:=.int .i64 n,val:=v }) k=if k=n then some v else qBq es k
 |[],_,_,_,_,h=>by simp[at_]at h
 |e::es,i,j,x,hk,h=>by
  obtain⟨k0,hk0⟩:=hk e (List.mem_cons_self ..);by_cases e1:n=k0
  ·subst e1;simp[at_,hk0]at h;refine⟨0,by omega,by simp,by simpa using hk0,fun k=>?_⟩;by_cases e2:k=n
   ·subst e2;simp[qBq]
   ·simp[qBq,hk0,e2]
  ·simp[at_,hk0,e1]at h;obtain⟨m,h1,h2,h3,h4⟩:=qD9 (v:=v) (fun y hy=>hk y (List.mem_cons_of_mem _ hy)) h;refine⟨m+1,by omega,by simpa using h2,by simpa using h3,fun k=>?_⟩;have:=h4 k;by_cases e2:k=k0
   ·subst e2;have e3:k≠n:=fun e=>e1 e.symm;simp[qBq,hk0,e3]
   ·simp[qBq,hk0,e2];exact this
theorem qPP {es:List MapEntry} {n:Int} {i:Nat} (hk:∀e∈es,∃k:Int,e.key=.int .i64 k) (h:at_ es n i=none):qBq es n=none:=by
 have:=qJZ n es i hk;rw[h]at this;exact this.symm
theorem qIG {n:Int} {e:MapEntry} (he:e.key=.int .i64 n):∀{es:List MapEntry},qBq es n=none→(∀x∈es,∃k:Int,x.key=.int .i64 k)→∀k,qBq (es++[e]) k=if k=n then some e.val else qBq es k
 |[],_,_,k=>by
  by_cases e2:k=n
  ·simp[qBq,he,e2]
  ·simp[qBq,he,e2]
 |x::es,h,hk,k=>by
  obtain⟨k0,hk0⟩:=hk x (List.mem_cons_self ..);have hn:n≠k0:=fun e=>by simp[qBq,hk0,e]at h
  have h':qBq es n=none:=by simpa[qBq,hk0,hn]using h
  have ih:=qIG he h' (fun y hy=>hk y (List.mem_cons_of_mem _ hy)) k;by_cases e2:k=k0
  ·subst e2;have e3:k≠n:=fun e=>hn e.symm;simp[qBq,hk0,e3]
  ·simp only[List.cons_append,qBq,hk0,e2,if_false];exact ih
section
variable {P:Program} {tt:TT} (hT:q4K P tt)
theorem qEw {t:Nat} {ti:TI} (h:qOr tt t=some ti):∃k e ti1 tk q,lk tt t=some ti1∧ti1.desc=.map k e∧lk tt k=some tk∧tk.desc=.int q∧lk tt e=some ti:=by
 unfold qOr at h;split at h
 ·rename_i k e _ _ _ _ _ h1;split at h
  ·rename_i q _ _ _ _ _ h2;exact⟨k,e,_,_,q,h1,rfl,h2,rfl,h⟩
  ·simp at h
 ·simp at h
include hT in
theorem qBV {k:Nat} {tk:TI} {q:IntKind} (hk:lk tt k=some tk) (hd:tk.desc=.int q) (b:Bool) (n:Int) (w:World):(Instr.checkKey b 10000 k (.int .i64 n)).run P w=.ok () w:=by
 have h1:=q4v hT hk w;rw[hd]at h1;show(Instr.checkKey b (9999+1) k (.int .i64 n)).run P w=.ok () w;rw[Instr.checkKey];simp[h1]
include hT in
theorem qCf {k:Nat} {tk:TI} {q:IntKind} (hk:lk tt k=some tk) (hd:tk.desc=.int q) {es:List MapEntry} (hes:∀e∈es,∃k:Int,e.key=.int .i64 k) (n:Int) (w:World):
  (Instr.findKey k (.int .i64 n) es).run P w=.ok (at_ es n 0) w:=by
 have h1:=q4v hT hk w;rw[hd]at h1;unfold Instr.findKey;simp[h1,qEd q n es 0 hes]
theorem qES {w:World} {b:Nat} {es:Array MapEntry} {c:Nat} (h:w.heap[b]?=some (.map es c)):(getObj b).run P w=.ok (.map es c) w:=by
 unfold getObj;simp only[Sem.run,h]
theorem qF0 {w:World} {b:Nat} {es es':Array MapEntry} {c c':Nat} (h:w.heap[b]?=some (.map es c)):(setObj b (.map es' c')).run P w=.ok () { w with heap:=w.heap.setIfInBounds b (.map es' c') }:=by
 unfold setObj;simp only[Sem.run,h]
theorem qHI {g:G} {s:AS} {a:Act} {w:World} {ι:q1K} {Fr:Nat→Nat→Prop} (h:Rel g s a w ι Fr) {o:Oper} {t:TypeId} (hop:o.op=.makeMap t none) (hd:q4Z g.nt o=true) {site:Nat} (hf:q17 s site)
  {e:Ef} (he:qFO tt site t=some e):q90 P g (s.app o.dst e) a w o:=by
 unfold qFO at he;split at he
 ·rename_i ti hti;split at he
  ·simp only[Option.some.injEq]at he;subst he;have hb:∀b,b<w.heap.size→(w.alloc (.map #[] 0)).heap[b]?=w.heap[b]?:=fun b hb=>Go.RowKit.Below.heap_alloc _ _ _ hb;have h1:=h.grow (w':=w.alloc (.map #[] 0)) rfl rfl rfl (by simp) hb;have h2:=h1.addBlk (b:=w.heap.size) (sz:=1) (m:=1) (blk:=.mp ti.zero (fun _=>ti.zero) (fun _=>false)) hf ⟨#[],0,heap_alloc_new w _,by simp,fun k=>⟨rfl,rfl⟩⟩ (.inl h.hsize)
    (fun t ht=>by have:=(h.fr t _ ht).1;omega)
    (fun k c r hl hi e1=>by
     obtain⟨b,sz',m'⟩:=r;have:=(h.own k c b sz' m' hl hi).1.lt;simp only at e1;omega)
   refine q3c (x:=.map (some w.heap.size)) hd ?_ h2 (.omap (b:=w.heap.size) (sz:=1) (m:=1) (by simp[q9U]));unfold execOp;rw[hop];simp[Instr.makeMap,newObj];rfl
  ·simp at he
 ·simp at he
theorem qLG {w:World} {Fr:Nat→Nat→Prop} {ι:q1K} {id:Nat} {x:Value} (h:q0e w Fr ι (.omap id) x):∃b sz m,ι id=some (b,sz,m)∧x=.map (some b):=by
 cases h with
 |atom hv _=>simp[isP]at hv
 |omap hi=>exact⟨_,_,_,hi,rfl⟩
include hT in
theorem qMj {g:G} {s:AS} {a:Act} {w:World} {ι:q1K} {Fr:Nat→Nat→Prop} (h:Rel g s a w ι Fr) {t:TypeId} {c:Bool} {xv iv:V} {xx xi:Value}
  (hx:q0e w Fr ι xv xx) (hi:q0e w Fr ι iv xi) {e:Ef} (he:qBO tt s.S t xv iv c=some e):
  e.upd=[]∧∃z,(Instr.lookup t xx xi c).run P w=.ok z w∧q0e w Fr ι e.v z:=by
 unfold qBO at he;split at he
 ·rename_i ti id k n hti;split at he
  ·rename_i z f hh hkb hl;split at he
   ·rename_i hz;simp only[Option.some.injEq]at he;subst he;refine⟨rfl,?_⟩;obtain⟨b,sz,m,hi',rfl⟩:=qLG hx;have e1:=q31 hi;rw[q8n hkb]at e1;subst e1;obtain⟨es,cl,hhp,hks,hr⟩:=(h.own id _ b sz m hl hi').1;obtain⟨kt,et,t1,tk,q,m1,m2,m3,m4,m5⟩:=qEw hti;have hu:=q4v hT m1 w;rw[m2]at hu;obtain⟨zv,hzv,hzr,_⟩:=qFW hT m5 w;have hrn:=hr n;have hal:=qJZ n es.toList 0 hks;have hfind:=qCf (P:=P) hT m3 m4 hks n w;have hck:=qBV (P:=P) hT m3 m4 es.isEmpty n w;have hget:=qES (P:=P) hhp;have fin:∀(v:Value) (ok:Bool),hh n=ok→PRep w (fun _=>False) (f n) v→q0e w Fr ι (match c with|true=>V.tup [f n,.bool (hh n)]|false=>f n) (if c then .tuple #[v,.bool ok]else v):=by
     intro v ok h1 h2;cases c with
     |false=>exact q0e.ofP h2
     |true=>
      refine .tup #[v,.bool ok] rfl fun j hj=>?_
      match j,hj with
      |0,_=>exact q0e.ofP h2
      |1,_=>rw[←h1];exact .atom rfl (.bool _)
    cases hat:at_ es.toList n 0 with
    |some p=>
     obtain⟨ix,v⟩:=p;rw[hat]at hal hfind;simp at hal;rw[←hal]at hrn;refine⟨if c then .tuple #[v,.bool true]else v,?_,fin v true hrn.1 hrn.2⟩;unfold Instr.lookup;simp[hu,hget,hck,hfind]
    |none=>
     rw[hat]at hal hfind;simp at hal;rw[←hal]at hrn;refine⟨if c then .tuple #[zv,.bool false]else zv,?_,fin zv false hrn.1 (by rw[hrn.2,x2n hz];exact hzr)⟩;unfold Instr.lookup;simp[hu,hget,hck,hfind,hzv]
   ·simp at he
  ·simp at he
 ·simp at he
include hT in
theorem qDs {g:G} {s:AS} {a:Act} {w:World} {ι:q1K} {Fr:Nat→Nat→Prop} (h:Rel g s a w ι Fr) {o:Oper} {t:TypeId} {x i v:Operand} (hop:o.op=.mapUpdate t x i v) (hd:q4Z g.nt o=true)
  (hx:q0e w Fr ι (q1H (q20 s x)) (a.eval x)) (hi:q0e w Fr ι (q1H (q20 s i)) (a.eval i)) (hv:q0e w Fr ι (q1H (q20 s v)) (a.eval v))
  {e:Ef} (he:q68 tt s.S t (q1H (q20 s x)) (q1H (q20 s i)) (q1H (q20 s v))=some e):q90 P g (s.app o.dst e) a w o:=by
 generalize q1H (q20 s x)=xv at*;generalize q1H (q20 s i)=iv at*;generalize q1H (q20 s v)=vv at*;unfold q68 at he;split at he
 ·rename_i ti id k n hti;split at he
  ·rename_i z f hh hkb hl;simp only[Option.some.injEq]at he;subst he;rw[Bool.and_eq_true]at hkb;obtain⟨hkb,hfl⟩:=hkb;obtain⟨b,sz,m,hi',ex⟩:=qLG hx;have e1:=q31 hi;rw[q8n hkb]at e1;obtain⟨es,cl,hhp,hks,hr⟩:=(h.own id _ b sz m hl hi').1;obtain⟨kt,et,t1,tk,q,m1,m2,m3,m4,m5⟩:=qEw hti;have hu:=q4v hT m1 w;rw[m2]at hu;have hfind:=qCf (P:=P) hT m3 m4 hks n w;have hck:=qBV (P:=P) hT m3 m4 false n w;have hget:=qES (P:=P) hhp;have hblt:b<w.heap.size:=(h.own id _ b sz m hl hi').1.lt;have hvp:PRep w (fun _=>False) vv (a.eval v):=qNn hv hfl;have fin:∀(es':Array MapEntry) (c':Nat),(∀e∈es'.toList,∃k:Int,e.key=.int .i64 k)→(∀k,qBq es'.toList k=if k=n then some (a.eval v)else qBq es.toList k)→
     (execOp a.eval o).run P w=.ok .skip { w with heap:=w.heap.setIfInBounds b (.map es' c') }→q90 P g (s.app o.dst ⟨.undef,[(id,some (.mp z (qYw f n vv) (qYw hh n true)))],[id],[]⟩) a w o:=by
    intro es' c' hk' hlk hrun;have hne:∀k,k≠b→(w.heap.setIfInBounds b (.map es' c'))[k]?=w.heap[k]?:=fun k hk=>by rw[Array.getElem?_setIfInBounds];simp[Ne.symm hk]
    have heq:(w.heap.setIfInBounds b (.map es' c'))[b]?=some (.map es' c'):=by rw[Array.getElem?_setIfInBounds];simp[hblt]
    refine qDg (ι':=ι) (Fr':=Fr) hd hrun ?_ rfl;refine h.setOwn (w':={ w with heap:=w.heap.setIfInBounds b (.map es' c') }) hl hi' rfl rfl rfl (by simp) hne (fun k e hk=>?_) ⟨es',c',heq,hk',fun k=>?_⟩
    ·unfold World.shape? at hk⊢;by_cases e2:k=b
     ·subst e2;rw[hhp]at hk;simp at hk
     ·rw[show({ w with heap:=w.heap.setIfInBounds b (.map es' c') }:World).heap[k]?=w.heap[k]? from hne k e2];exact hk
    ·rw[hlk k];by_cases e2:k=n
     ·subst e2;simp only[if_true,qYw];exact⟨trivial,hvp.mono fun b hb=>hb.elim⟩
     ·simp only[e2,if_false,qYw];have:=hr k;split at this
      ·exact⟨this.1,this.2.mono fun b hb=>hb.elim⟩
      ·exact this
   cases hat:at_ es.toList n 0 with
   |some p=>
    obtain⟨ix,y⟩:=p;rw[hat]at hfind;obtain⟨m',j1,j2,j3,j4⟩:=qD9 (v:=a.eval v) hks hat;have j1':ix=m':=by omega
    subst j1';have hkk:((es[ix]?).map (·.key)).getD (.int .i64 n)=.int .i64 n:=by
     have hlt:ix<es.size:=by simpa using j2
     have:es.toList.getD ix default=es[ix]:=by simp[List.getD,hlt]
     rw[this]at j3;simp[hlt,j3]
    refine fin (es.modify ix fun e=>{ e with key:=.int .i64 n,val:=a.eval v }) cl (fun e he=>?_) (fun k=>?_) ?_
    ·rw[Array.toList_modify]at he;obtain⟨j,hj,rfl⟩:=List.getElem_of_mem he;rw[List.getElem_modify];split
     ·exact⟨n,rfl⟩
     ·exact hks _ (List.getElem_mem _)
    ·rw[←j4 k];congr 1;simp
    ·unfold execOp;rw[hop];refine qYB ?_;rw[ex,e1];unfold Instr.mapUpdate;simp only[hu,hget,hck,hfind,hkk,Instr.keyThatStays,Instr.sameBits,Sem.run_bind,Sem.run_pure,Result.andThen_ok];simp[qF0 hhp]
   |none=>
    rw[hat]at hfind;have hno:=qPP hks hat;refine fin (es.push { key:=.int .i64 n,val:=a.eval v,born:=cl }) (cl+1) (fun e he=>?_) (fun k=>?_) ?_
    ·rw[Array.toList_push,List.mem_append]at he;rcases he with he|he
     ·exact hks e he
     ·have:e={ key:=.int .i64 n,val:=a.eval v,born:=cl }:=by simpa using he
      rw[this];exact⟨n,rfl⟩
    ·rw[Array.toList_push];exact qIG rfl hno hks k
    ·unfold execOp;rw[hop];refine qYB ?_;rw[ex,e1];unfold Instr.mapUpdate;simp only[hu,hget,hck,hfind,Sem.run_bind,Sem.run_pure,Result.andThen_ok];simp[qF0 hhp]
  ·simp at he
 ·simp at he
end
theorem qMk (g h:Nat→V) (lo:Nat):q3x g lo 0 h=g:=by
 funext i;unfold q3x;rw[if_neg (by omega)]
section
variable {P:Program} {tt:TT} (hT:q4K P tt)
theorem qC5 {w:World} {Fr:Nat→Nat→Prop} {ι:q1K} {x:V} {vx:Value} {id lo n:Nat} (hp:qSJ x=some (id,lo,n)) (hx:q0e w Fr ι x vx):
  (∃b sz m cap,ι id=some (b,sz,m)∧lo+n≤m∧vx=.slice (some ⟨b,lo*sz,none⟩) n cap)∨(n=0∧∃a,vx=.slice a 0 0):=by
 unfold qSJ at hp;split at hp
 ·simp only[Option.some.injEq,Prod.mk.injEq]at hp;obtain⟨rfl,rfl,rfl⟩:=hp;cases hx with
  |atom hv _=>simp[isP]at hv
  |osl hi hn hc hs hcs=>exact .inl ⟨_,_,_,_,hi,by omega,by rw[Nat.zero_mul]⟩
  |osl0 a hi=>exact .inr ⟨rfl,a,rfl⟩
 ·simp only[Option.some.injEq,Prod.mk.injEq]at hp;obtain⟨rfl,rfl,rfl⟩:=hp;cases hx with
  |atom hv _=>simp[isP]at hv
  |oss hi hn hc hcc hx hs hcs=>exact .inl ⟨_,_,_,_,hi,hn,rfl⟩
  |oss0 a hi=>exact .inr ⟨rfl,a,rfl⟩
 ·simp at hp
theorem qM6 {g:G} {s:AS} {a:Act} {w:World} {ι:q1K} {Fr:Nat→Nat→Prop} (h:Rel g s a w ι Fr) {x:V} {vx:Value} {m th size:Nat} {f:Nat→V} {rd:List Nat}
  (hs:qPJ s.S x=some (m,f,th,rd)) (hx:q0e w Fr ι x vx) {k:Nat} (hz:q13 size k f) (hk:k≤m):
  ∃a0 c news,vx=.slice a0 m c∧(∀w':World,w'.heap=w.heap→(Builtin.firstCells size k vx).run P w'=.ok news w')∧news.size=k*size∧
   ∀i j,i<k→j<size→PRep w (Fr th) ((f i).cells.getD j .undef) (news.getD (i*size+j) Go.undef):=by
 have empty:∀a0 l c,∀w':World,w'.heap=w.heap→(Builtin.firstCells size 0 (.slice a0 l c)).run P w'=.ok #[] w':=by
  intro a0 l c w' _;cases a0<;>simp[Builtin.firstCells,loadCells,loadCellsFrom]
 have hrow:∀(sz n' lo b m2 cap:Nat) (g:Nat→V) (te:Nat),(∀i,f i=g (lo+i))→th=te→qAT w Fr ι b sz m2 (.arr sz n' g te)→lo+m≤m2→vx=.slice (some ⟨b,lo*sz,none⟩) m cap→
   ∃a0 c news,vx=.slice a0 m c∧(∀w':World,w'.heap=w.heap→(Builtin.firstCells size k vx).run P w'=.ok news w')∧news.size=k*size∧
   ∀i j,i<k→j<size→PRep w (Fr th) ((f i).cells.getD j .undef) (news.getD (i*size+j) Go.undef):=by
  intro sz n' lo b m2 cap g te hfg hte hown hle hvx;subst hte hvx;by_cases h0:k=0
  ·subst h0;exact⟨_,_,#[],rfl,empty _ _ _,by simp,fun i j hi=>by omega⟩
  ·obtain⟨_,rfl,cells,e',hh,hsz,hlen,hr⟩:=hown;have hsz':sz=size:=by rw[←(hz 0 (by omega)).1,hfg 0,hlen _ (by omega)]
   subst hsz';obtain⟨arr,h1,h2,h3⟩:=q7B (P:=P) (w:=w) (b:=b) (off:=lo*sz) (m:=k) (size:=sz) (cv:=fun i j=>cells.getD ((lo+i)*sz+j) Go.undef) (fun i j hi hj=>by
    have e1:(lo+i)*sz+sz=(lo+i+1)*sz:=by rw[Nat.add_mul _ 1,Nat.one_mul]
    have e2:(lo+i+1)*sz≤n'*sz:=Nat.mul_le_mul_right _ (by omega);have e3:lo*sz+i*sz+j=(lo+i)*sz+j:=by rw[Nat.add_mul]
    rw[e3];exact q4Q hh (by omega))
   exact⟨_,_,arr,rfl,fun w' hw'=>by simpa[Builtin.firstCells]using h1 w' hw',h2,fun i j hi hj=>by rw[h3 i j hi hj,hfg i];exact hr _ j (by omega) hj⟩
 have plain:∀{x':V},qDt s.S x'=some (m,f,th,rd)→q0e w Fr ι x' vx→(∀id n,x'≠.osl id n)→
   ∃a0 c news,vx=.slice a0 m c∧(∀w':World,w'.heap=w.heap→(Builtin.firstCells size k vx).run P w'=.ok news w')∧news.size=k*size∧
   ∀i j,i<k→j<size→PRep w (Fr th) ((f i).cells.getD j .undef) (news.getD (i*size+j) Go.undef):=by
  intro x' hs hx hno;cases x' with
  |nil=>
   simp only[qDt,Option.some.injEq,Prod.mk.injEq]at hs;obtain⟨rfl,rfl,rfl,rfl⟩:=hs;have:k=0:=by omega
   subst this;cases hx with
   |atom _ hp=>cases hp;exact⟨_,_,#[],rfl,empty _ _ _,by simp,fun i j hi=>by omega⟩
  |sl n f' t=>
   simp only[qDt,Option.some.injEq,Prod.mk.injEq]at hs;obtain⟨rfl,rfl,rfl,rfl⟩:=hs;cases hx with
   |atom _ hp=>
    cases hp with
    |sl0=>
     have:k=0:=by omega
     subst this;exact⟨_,_,#[],rfl,empty _ _ _,by simp,fun i j hi=>by omega⟩
    | @sl _ _ _ b off cap sz cv hA hcap hlen hc hr=>
     by_cases h0:k=0
     ·subst h0;exact⟨_,_,#[],rfl,empty _ _ _,by simp,fun i j hi=>by omega⟩
     ·have hsz:sz=size:=by rw[←hlen 0 (by omega),(hz 0 (by omega)).1]
      subst hsz;obtain⟨arr,h1,h2,h3⟩:=q7B (P:=P) (m:=k) (fun i j hi hj=>hc i j (by omega) hj);exact⟨_,_,arr,rfl,fun w' hw'=>by simpa[Builtin.firstCells]using h1 w' hw',h2,fun i j hi hj=>by rw[h3 i j hi hj];exact hr i j (by omega) hj⟩
  |osl id n=>exact absurd rfl (hno id n)
  |_=>simp[qDt]at hs
 cases x with
 |osl id n=>
  simp only[qPJ,qDt]at hs;split at hs
  ·rename_i sz n' g te hl;simp only[Option.some.injEq,Prod.mk.injEq]at hs;obtain⟨rfl,rfl,rfl,rfl⟩:=hs;rcases qC5 (id:=id) (lo:=0) (n:=n) rfl hx with⟨b,sz2,m2,cap,hi,hle,hvx⟩|⟨rfl,a0,hvx⟩
   ·have hown:=(h.own id _ b sz2 m2 hl hi).1;have e1:sz=sz2:=hown.1;subst e1;exact hrow sz n' 0 b m2 cap g te (fun i=>by rw[Nat.zero_add]) rfl hown hle hvx
   ·have:k=0:=by omega
    subst this;subst hvx;exact⟨_,_,#[],rfl,empty _ _ _,by simp,fun i j hi=>by omega⟩
  ·simp at hs
 |oss id lo n c e=>
  simp only[qPJ]at hs;split at hs
  ·rename_i sz n' g te hl;simp only[Option.some.injEq,Prod.mk.injEq]at hs;obtain⟨rfl,rfl,rfl,rfl⟩:=hs;rcases qC5 (id:=id) (lo:=lo) (n:=n) rfl hx with⟨b,sz2,m2,cap,hi,hle,hvx⟩|⟨rfl,a0,hvx⟩
   ·have hown:=(h.own id _ b sz2 m2 hl hi).1;have e1:sz=sz2:=hown.1;subst e1;exact hrow sz n' lo b m2 cap g te (fun i=>rfl) rfl hown hle hvx
   ·have:k=0:=by omega
    subst this;subst hvx;exact⟨_,_,#[],rfl,empty _ _ _,by simp,fun i j hi=>by omega⟩
  ·simp at hs
 |_=>
  simp only[qPJ]at hs;exact plain hs hx (fun _ _ e=>by cases e)
theorem qCD {g:G} {s:AS} {a:Act} {w:World} {ι:q1K} {Fr:Nat→Nat→Prop} (h:Rel g s a w ι Fr) {id b sz k k2 lo n:Nat} {F H:Nat→V}
  (hl:lk s.S id=some (.arr sz k F q0l)) (hi:ι id=some (b,sz,k2)) (hle:lo+n≤k2) {news:Array Value} (hns:news.size=n*sz) (hHl:∀i,i<n→(H i).cells.length=sz)
  (hone:∀v∈news.toList,one v=true) (hr:∀i j,i<n→j<sz→PRep w (Fr q0l) ((H i).cells.getD j .undef) (news.getD (i*sz+j) Go.undef)):
  ∃w',(storeCells ⟨b,lo*sz,none⟩ news.toList).run P w=.ok () w'∧Rel g { s with S:=put s.S id (.arr sz k (q3x F lo n H) q0l) } a w' ι Fr∧(∀k e,w.shape? k=some e→w'.shape? k=some e):=by
 obtain⟨hown,_⟩:=h.own id _ b sz k2 hl hi;have hblt:=hown.lt;obtain⟨_,rfl,cells,e,hh,hsz,hFl,hFr⟩:=hown;have hlesz:lo*sz+n*sz≤k*sz:=by rw[←Nat.add_mul];exact Nat.mul_le_mul_right _ hle
 have hst:=q5d (P:=P) news.toList w cells (lo*sz) 0 hh (by simp;omega) hone;have hsh:∀k' x',w.shape? k'=some x'→(q18 w b (q1b cells (lo*sz) news.toList) e).shape? k'=some x':=fun k' x' hk=>q8v hh (q28 _ _ _) hk;have hlen2:news.toList.length=n*sz:=by simpa using hns
 have hFS:∀b',¬Fr q0l b':=h.frS;have hrel:=h.setOwn (w':=q18 w b (q1b cells (lo*sz) news.toList) e) (new:=.arr sz k (q3x F lo n H) q0l) hl hi rfl rfl rfl q5g (fun k hk=>q3Y hk) hsh (by
  refine⟨rfl,rfl,_,e,q4H hblt,by rw[q28];exact hsz,fun i hi=>?_,fun i j hi hj=>?_⟩
  ·unfold q3x;split
   ·rename_i hq;exact hHl _ (by omega)
   ·exact hFl i hi
  ·have e1:i*sz+sz=(i+1)*sz:=by rw[Nat.add_mul,Nat.one_mul]
   rw[q3D _ _ _ _ (by rw[hlen2];omega),hlen2];unfold q3x;by_cases hq:lo≤i∧i<lo+n
   ·have e2:lo*sz≤i*sz:=Nat.mul_le_mul_right _ hq.1;have e3:(i+1)*sz≤(lo+n)*sz:=Nat.mul_le_mul_right _ (by omega);rw[Nat.add_mul lo n]at e3;rw[if_pos hq,if_pos (by omega),q5X];have e4:i*sz+j-lo*sz=(i-lo)*sz+j:=by
     rw[Nat.sub_mul];omega
    rw[e4];exact(hr (i-lo) j (by omega) hj).mono fun b' hb'=>absurd hb' (hFS b')
   ·have hno:¬(lo*sz≤i*sz+j∧i*sz+j<lo*sz+n*sz):=by
     intro hc;rcases Nat.lt_or_ge i lo with h1|h1
     ·have e2:(i+1)*sz≤lo*sz:=Nat.mul_le_mul_right _ h1;omega
     ·have e2:(lo+n)*sz≤i*sz:=Nat.mul_le_mul_right _ (by omega);rw[Nat.add_mul lo n]at e2;omega
    rw[if_neg hq,if_neg hno];exact(hFr i j hi hj).mono fun b' hb'=>absurd hb' (hFS b'))
 refine⟨_,?_,hrel,hsh⟩;rw[hst];split
 ·rename_i h0;rw[h0,q1b,q6z hh]
 ·rw[Nat.add_zero]
theorem qBP {g:G} {s:AS} {a:Act} {w:World} {ι:q1K} {Fr:Nat→Nat→Prop} (h:Rel g s a w ι Fr) {id lo:Nat} {sz k te:Nat} {F H:Nat→V} (hl:lk s.S id=some (.arr sz k F te)):
  Rel g { s with S:=put s.S id (.arr sz k (q3x F lo 0 H) te) } a w ι Fr:=
 h.congr (fun _=>rfl) fun j=>by
  show lk (put s.S id (.arr sz k (q3x F lo 0 H) te)) j=lk s.S j;rw[q1i,qMk];split
  ·rename_i e;rw[e,hl]
  ·rfl
include hT in
theorem qOT {g:G} {s:AS} {a:Act} {w:World} {ι:q1K} {Fr:Nat→Nat→Prop} (h:Rel g s a w ι Fr) {o:Oper} {c:Call} {x y:Operand} {t u:TypeId} {rest:List TypeId} (hop:o.op=.call c)
  (hcal:c.callee=.builtin .copy) (hargs:c.args= #[x,y]) (hty:c.argTypes.toList=t::u::rest) (hu2:∃ti,q2Q tt u=some ti)
  (hx:q0e w Fr ι (q1H (q20 s x)) (a.eval x)) (hy:q0e w Fr ι (q1H (q20 s y)) (a.eval y)) (hd:q4Z g.nt o=true)
  {e:Ef} (he:qMi tt s.S t (q1H (q20 s x)) (q1H (q20 s y))=some e) (ho:∀p∈e.ob,p):q90 P g (s.app o.dst e) a w o:=by
 obtain⟨tiu,htiu⟩:=hu2;obtain⟨elu,huu,_⟩:=q3z (P:=P) hT htiu w;have hat:c.argTypes=(t::u::rest).toArray:=by rw[←hty]
 have hexec:∀v w',(Builtin.copy_ (t::u::rest).toArray o.type #[a.eval x,a.eval y]).run P w=.ok v w'→(execOp a.eval o).run P w=.ok (.value v) w':=by
  intro v w' hr;unfold execOp;rw[hop];simp only[resolve,hcal,hargs,invoke,builtin,Sem.run_bind,Sem.run_pure,Result.andThen_ok,hat,List.map_toArray,List.map_cons,List.map_nil,hr]
 generalize a.eval x=vx at hx hexec;generalize a.eval y=vy at hy hexec;generalize q1H (q20 s x)=xv at*;generalize q1H (q20 s y)=yv at*;unfold qMi at he;split at he
 case h_2=>simp at he
 case h_1 ti id lo n m H th rd hti hpart hsrc=>
  obtain⟨el,hu,hl⟩:=q3z (P:=P) hT hti w;split at he
  case h_2=>simp at he
  case h_1 sz k F te hlk=>
   split at he
   case h_2=>simp at he
   case h_1 hbb=>
    simp only[Bool.and_eq_true,q0y]at hbb;obtain⟨⟨e1,e2⟩,e3⟩:=hbb;subst e1 e2 e3;simp only[Option.some.injEq]at he;subst he;have hsz':q13 ti.size (min n m) H:=ho _ (List.mem_cons_self ..);obtain⟨a0,c0,news,hvx,hnr,hns,hrep⟩:=qM6 (P:=P) (size:=ti.size) h hsrc hy hsz' (Nat.min_le_right _ _);have hone:=qC4 hsz' hns hrep;have hmn:Nat.min m n=min n m:=Nat.min_comm m n;rcases qC5 hpart hx with⟨b,sz2,m2,cap,hi,hle,hv⟩|⟨hn0,a1,hv⟩
    ·have hown:=(h.own id _ b sz2 m2 hlk hi).1;have e4:ti.size=sz2:=hown.1;have e5:k=m2:=hown.2.1;subst e4 e5;obtain⟨w',hst,hR,hsh⟩:=qCD (P:=P) h hlk hi (lo:=lo) (n:=min n m) (H:=H) (by omega) hns (fun i hi=>(hsz' i hi).1) hone hrep;have hrun:=hexec (.int .i64 (min n m:Nat)) w' (by
      have h1:=hnr w rfl;rw[hvx]at h1;rw[hvx,hv];unfold Builtin.copy_;simp only[List.getElem?_toArray,List.getElem?_cons_zero,List.getElem?_cons_succ,Sem.run_bind,hu,Result.andThen_ok,Builtin.lenOf,Sem.run_pure,q2c hT hl,hmn,h1,hst];rfl)
     exact q3c hd hrun hR (.atom rfl (.int _ _))
    ·subst hn0;have hm0:min 0 m=0:=Nat.zero_min m;rw[hm0]at hns hnr;have hnews:news= #[]:=Array.eq_empty_of_size_eq_zero (by rw[hns];simp);subst hnews;have hrun:=hexec (.int .i64 ((0:Nat):Int)) w (by
      have h1:=hnr w rfl;rw[hvx]at h1;rw[hvx,hv];have hm1:Nat.min m 0=0:=Nat.min_zero m;unfold Builtin.copy_;cases a1<;>simp[hu,Builtin.lenOf,q2c hT hl,hm1,h1,storeCells,goInt])
     refine q3c (ι':=ι) (Fr':=Fr) hd hrun ?_ (by rw[hm0];exact .atom rfl (.int _ _));have:=qBP (H:=H) (lo:=lo) h hlk;rw[←hm0]at this;exact this
include hT in
theorem qHg {t:Nat} {ti:TI} (hl:lk tt t=some ti) (hf:ti.flat=true) (w:World) (n:Nat):∃z,(zeroValue t).run P w=.ok z w∧(Builtin.zeroCells z.cells n).size=n*ti.size∧z.cells.size=ti.size∧ti.zero.cells.length=ti.size∧
  ∀(w':World) (A:Nat→Prop),∀i j,i<n→j<ti.size→PRep w' A (ti.zero.cells.getD j .undef) ((Builtin.zeroCells z.cells n).getD (i*ti.size+j) Go.undef):=by
 obtain⟨z,hz,hzs,hzr⟩:=qD3 hT hl w n;obtain⟨z2,hz2,_,hzc,_⟩:=qFW (P:=P) hT hl w;have e1:Builtin.zeroCells z.cells n=(Array.range (n*ti.size)).map (z.cells[· %z.cells.size]!):=by
  unfold Builtin.zeroCells;rw[hzs]
 refine⟨z,hz,by rw[size_zeroCells,hzs],hzs,hzc,fun w' A i j hi hj=>?_⟩;have:=(hzr w' A).2.2 i j (by simpa using hi) hj;rw[e1];simpa[List.getD,List.getElem?_replicate,hi]using this
theorem qJc {w:World} {A:Nat→Prop} {n size:Nat} {x:V} {news:Array Value} (hs:news.size=n*size) (hx:q87 x=true) (hl:x.cells.length=size)
  (hr:∀i j,i<n→j<size→PRep w A (x.cells.getD j .undef) (news.getD (i*size+j) Go.undef)):∀v∈news.toList,one v=true:=
 qC4 (f:=fun _=>x) (fun i hi=>⟨hl,hx⟩) hs hr
include hT in
theorem qMR {g:G} {s:AS} {a:Act} {w:World} {ι:q1K} {Fr:Nat→Nat→Prop} (h:Rel g s a w ι Fr) {o:Oper} {c:Call} {x:Operand} {t:TypeId} {rest:List TypeId} (hop:o.op=.call c)
  (hcal:c.callee=.builtin .clear) (hargs:c.args= #[x]) (hty:c.argTypes.toList=t::rest)
  (hx:q0e w Fr ι (q1H (q20 s x)) (a.eval x)) (hd:q4Z g.nt o=true)
  {e:Ef} (he:qEo tt s.S t (q1H (q20 s x))=some e) (ho:∀p∈e.ob,p):q90 P g (s.app o.dst e) a w o:=by
 have hat:c.argTypes=(t::rest).toArray:=by rw[←hty]
 have hexec:∀v w',(Builtin.clear_ (t::rest).toArray o.type #[a.eval x]).run P w=.ok v w'→(execOp a.eval o).run P w=.ok (.value v) w':=by
  intro v w' hr;unfold execOp;rw[hop];simp only[resolve,hcal,hargs,invoke,builtin,Sem.run_bind,Sem.run_pure,Result.andThen_ok,hat,List.map_toArray,List.map_cons,List.map_nil,hr]
 generalize a.eval x=vx at hx hexec;generalize q1H (q20 s x)=xv at*;unfold qEo at he;split at he
 case h_2=>simp at he
 case h_1 ti id lo n hti hpart=>
  obtain⟨el,hu,hl⟩:=q3z (P:=P) hT hti w;split at he
  case h_2=>simp at he
  case h_1 sz k F te hlk=>
   split at he
   case h_2=>simp at he
   case h_1 hbb=>
    simp only[Bool.and_eq_true,q0y]at hbb;obtain⟨⟨⟨e1,e2⟩,e3⟩,hsol⟩:=hbb;subst e1 e2;simp only[Option.some.injEq]at he;subst he;obtain⟨z,hz,hzz,hzs,hzc,hzr⟩:=qHg (P:=P) hT hl e3 w n;have hone:=qJc hzz hsol hzc (hzr w (Fr q0l));rcases qC5 hpart hx with⟨b,sz2,m2,cap,hi,hle,hv⟩|⟨hn0,a1,hv⟩
    ·have hown:=(h.own id _ b sz2 m2 hlk hi).1;have e4:ti.size=sz2:=hown.1;have e5:k=m2:=hown.2.1;subst e4 e5;obtain⟨w',hst,hR,hsh⟩:=qCD (P:=P) h hlk hi (lo:=lo) (n:=n) (H:=fun _=>ti.zero) hle hzz (fun i hi=>hzc) hone (hzr w (Fr q0l));have hrun:=hexec (.tuple #[]) w' (by
      rw[hv];unfold Builtin.clear_;cases n with
      |zero=>
       have e0:(Builtin.zeroCells z.cells 0).toList=[]:=by simp[Builtin.zeroCells]
       rw[e0]at hst;have:w'=w:=by simpa[storeCells]using hst.symm
       subst this;simp[hu]
      |succ n=>simp[hu,hz,hst])
     exact q3c hd hrun hR (.atom rfl (.undef _))
    ·subst hn0;have hrun:=hexec (.tuple #[]) w (by
      rw[hv];unfold Builtin.clear_;cases a1<;>simp[hu])
     exact q3c hd hrun (qBP h hlk) (.atom rfl (.undef _))
theorem qQ0 {w:World} {Fr:Nat→Nat→Prop} {ι:q1K} {id n c:Nat} {e:Bool} {x:Value} (h:q0e w Fr ι (.oss id 0 n c e) x):q0e w Fr ι (.osl id n) x:=by
 cases h with
 |atom hv _=>simp[isP]at hv
 |oss hi hn hc hcc hx hs hcs=>rw[Nat.zero_mul];exact .osl hi (by omega) hc hs (by rw[Nat.zero_add]at hcs;exact hcs)
 |oss0 a h0=>exact .osl0 a (h0 rfl)
include hT in
theorem qIh {g:G} {s:AS} {a:Act} {w:World} {ι:q1K} {Fr:Nat→Nat→Prop} (h:Rel g s a w ι Fr) {o:Oper} {c:Call} {x y:Operand} {t u:TypeId} {rest:List TypeId} (hop:o.op=.call c)
  (hcal:c.callee=.builtin .append) (hargs:c.args= #[x,y]) (hty:c.argTypes.toList=t::u::rest) (hu2:∃ti,q2Q tt u=some ti)
  (hx:q0e w Fr ι (q1H (q20 s x)) (a.eval x)) (hy:q0e w Fr ι (q1H (q20 s y)) (a.eval y)) (hd:q4Z g.nt o=true) {site:Nat} (hf:q17 s site)
  {e:Ef} (he:q8U tt s.S site t (q1H (q20 s x)) (q1H (q20 s y))=some e) (ho:∀p∈e.ob,p):q90 P g (s.app o.dst e) a w o:=by
 by_cases hos:∃id o' n c e,q1H (q20 s x)=.oss id o' n c e
 ·obtain⟨id,o',n,cc,ee,hxe⟩:=hos;rw[hxe]at hx he;simp only[q8U]at he;split at he
  ·rename_i h0;have h0':=q0y.1 h0;subst h0';exact qBZ (P:=P) hT h hop hcal hargs hty hu2 (qQ0 hx) hy hd hf he ho
  ·rename_i h0;have h0':=q0y.1 h0;subst h0';split at he
   case h_2=>simp at he
   case h_1 ti m H th rd sz k F te hti hsrc hlk=>
    split at he
    case h_2=>simp at he
    case h_1 hbb=>
     simp only[Bool.and_eq_true,q0y]at hbb;obtain⟨⟨e1,e2⟩,e3⟩:=hbb;subst e1 e2 e3;simp only[Option.some.injEq]at he;subst he;obtain⟨tiu,htiu⟩:=hu2;obtain⟨elu,huu,_⟩:=q3z (P:=P) hT htiu w;obtain⟨el,hu,hl⟩:=q3z (P:=P) hT hti w;have hc1:n+m≤cc:=ho _ (List.mem_cons_self ..);have hc2:n+m≤k:=ho _ (List.mem_cons_of_mem _ (List.mem_cons_self ..));have hsz:q13 ti.size m H:=ho _ (List.mem_cons_of_mem _ (List.mem_cons_of_mem _ (List.mem_cons_self ..)));obtain⟨a0,c0,news,hvx,hnr,hns,hrep⟩:=qM6 (P:=P) (size:=ti.size) h hsrc hy hsz (Nat.le_refl _);have hone:=qC4 hsz hns hrep;have hat:c.argTypes=(t::u::rest).toArray:=by rw[←hty]
     have hexec:∀v w',(Builtin.append_ (t::u::rest).toArray o.type #[a.eval x,a.eval y]).run P w=.ok v w'→(execOp a.eval o).run P w=.ok (.value v) w':=by
      intro v w' hr;unfold execOp;rw[hop];simp only[resolve,hcal,hargs,invoke,builtin,Sem.run_bind,Sem.run_pure,Result.andThen_ok,hat,List.map_toArray,List.map_cons,List.map_nil,hr]
     generalize a.eval x=vx at hx hexec;generalize a.eval y=vy at hy hexec hvx hnr;subst hvx;cases hx with
     |atom hv _=>simp[isP]at hv
     |oss0 base h0=>
      have hm0:m=0:=by omega
      subst hm0;have hnews:news= #[]:=Array.eq_empty_of_size_eq_zero (by rw[hns];simp);subst hnews;have hrun:=hexec (.slice base 0 0) w (by
       have h1:=hnr w rfl;unfold Builtin.append_;cases base<;>simp[hu,huu,q2c hT hl,Builtin.lenOf,h1,storeCells])
      exact q3c hd hrun (qBP h hlk) (.oss0 base h0)
     | @oss _ _ _ _ b sz2 m2 cap cz e9 _ hi hn hc hcc hxx hs hcs=>
      have hown:=(h.own id _ b sz2 m2 hlk hi).1;have e4:ti.size=sz2:=hown.1;have e5:k=m2:=hown.2.1;subst e4 e5;obtain⟨w',hst,hR,hsh⟩:=qCD (P:=P) h hlk hi (lo:=n) (n:=m) (H:=H) hc2 hns (fun i hi=>(hsz i hi).1) hone hrep;have hrun:=hexec (.slice (some ⟨b,0*ti.size,none⟩) (n+m) cap) w' (by
       have h1:=hnr w rfl;have hroom:n+m≤cap:=by omega
       have hst':(storeCells ((⟨b,0*ti.size,none⟩:Addr).add (n*ti.size)) news.toList).run P w=.ok () w':=by
        rw[q5b,Nat.zero_mul,Nat.zero_add];exact hst
       rw[Nat.zero_mul]at hst'⊢;unfold Builtin.append_;simp[hu,huu,q2c hT hl,Builtin.lenOf,hroom,h1,hst'])
      exact q3c hd hrun hR (.oss hi (by omega) (by omega) hcc hxx (hsh _ _ hs) hcs)
  ·simp at he
 ·have e1:q8U tt s.S site t (q1H (q20 s x)) (q1H (q20 s y))=q8H tt s.S site t (q1H (q20 s x)) (q1H (q20 s y)):=by
   generalize q1H (q20 s x)=xv at*;cases xv<;>first|rfl|exact absurd ⟨_,_,_,_,_,rfl⟩ hos
  rw[e1]at he;exact qJl (P:=P) hT h hop hcal hargs hty hu2 hx hy hd hf he ho
theorem qBt {t u ty el:TypeId} {n cap:Nat} {m:Int} {k ik:IntKind} {base:Option Addr} {old:Array Value} {w:World} {i:TypeInfo} {z:Value}
  (hu:(underlying t).run P w=.ok (.slice el) w) (hu2:(underlying u).run P w=.ok (.int ik) w) (hi:P.info? el=some i) (hz:i.zero=some z)
  (rest:List TypeId) (hold:(Builtin.firstCells i.size n (.slice base n cap)).run P w.drew=.ok old w.drew) (h0:0≤m) (hroom:cap<n+m.toNat) (hb1:1≤i.bytes) (hb2:i.bytes≤1024) (hmost:n+m.toNat≤q4w):
  (Builtin.append_ (t::u::rest).toArray ty #[.slice base n cap,.int k m]).run P w=
   .ok (.slice (some ⟨w.heap.size,0,none⟩) (n+m.toNat) (grownCap w (n+m.toNat) cap el)) (w.drew.alloc (.cells (old++(if m.toNat*i.size=0 then #[]else Builtin.zeroCells z.cells m.toNat)++Builtin.zeroCells z.cells (grownCap w (n+m.toNat) cap el-(n+m.toNat))) el (0,0))):=by
 have hm:n+m.toNat≤1073741824:=by unfold q4w at hmost;omega
 have hw:IntKind.i64.wrap m=m:=by unfold IntKind.wrap IntKind.bits IntKind.signed;simp;omega
 have hfit:Builtin.nextslicecap (n+m.toNat) cap*i.bytes≤281474976710656:=by
  refine growslice_fits (by omega) ?_;have:(n+m.toNat)*i.bytes≤1073741824*1024:=Nat.mul_le_mul hm hb2;omega
 have hno:¬(281474976710656<Builtin.nextslicecap (n+m.toNat) cap*i.bytes):=by omega
 have hb0:¬i.bytes=0:=by omega
 have c1:¬m<0:=by omega
 have c2:¬(281474976710656<m*(i.bytes:Int)):=by
  have:m*(i.bytes:Int)≤1073741824*1024:=Int.mul_le_mul (by omega) (by omega) (by omega) (by omega);omega
 have c3:¬n+m.toNat≤cap:=by omega
 have c4:¬(9223372036854775807<(n:Int)+m):=by omega
 have c5:¬((9223372036854775807:Int)<((n+m.toNat:Nat):Int)):=by omega
 unfold Builtin.append_;by_cases hzz:m.toNat*i.size=0
 ·simp[hu,hu2,sizeOf,typeInfo,zeroValue,hi,hz,asInt,asIntOf,hw,c1,c2,c3,c4,c5,hb0,hno,Question.forced,hold,newRow,grownCap,IntKind.max,hzz];intro hq;exfalso;simp[IntKind.signed,IntKind.bits]at hq;omega
 ·simp[hu,hu2,sizeOf,typeInfo,zeroValue,hi,hz,asInt,asIntOf,hw,c1,c2,c3,c4,c5,hb0,hno,Question.forced,hold,newRow,grownCap,IntKind.max,hzz];intro hq;exfalso;simp[IntKind.signed,IntKind.bits]at hq;omega
include hT in
theorem qHo {g:G} {s:AS} {a:Act} {w:World} {ι:q1K} {Fr:Nat→Nat→Prop} (h:Rel g s a w ι Fr) {o:Oper} {c:Call} {x y:Operand} {t u:TypeId} {rest:List TypeId} (hop:o.op=.call c)
  (hcal:c.callee=.builtin .append) (hargs:c.args= #[x,y]) (hty:c.argTypes.toList=t::u::rest) (hu2:qQm tt u=true)
  (hx:q0e w Fr ι (q1H (q20 s x)) (a.eval x)) (hy:q0e w Fr ι (q1H (q20 s y)) (a.eval y)) (hd:q4Z g.nt o=true) {site:Nat} (hf:q17 s site)
  {e:Ef} (he:qAu tt s.S site t (q1H (q20 s x)) (q1H (q20 s y))=some e) (ho:∀p∈e.ob,p):q90 P g (s.app o.dst e) a w o:=by
 have hat:c.argTypes=(t::u::rest).toArray:=by rw[←hty]
 obtain⟨ik,huu⟩:∃ik,(underlying u).run P w=.ok (.int ik) w:=by
  unfold qQm at hu2;split at hu2
  ·rename_i hl;exact⟨_,q4v hT hl w⟩
  ·cases hu2
 have hexec:∀v w',(Builtin.append_ (t::u::rest).toArray o.type #[a.eval x,a.eval y]).run P w=.ok v w'→(execOp a.eval o).run P w=.ok (.value v) w':=by
  intro v w' hr;unfold execOp;rw[hop];simp only[resolve,hcal,hargs,invoke,builtin,Sem.run_bind,Sem.run_pure,Result.andThen_ok,hat,List.map_toArray,List.map_cons,List.map_nil,hr]
 generalize a.eval x=vx at hx hexec;generalize a.eval y=vy at hy hexec;generalize q1H (q20 s x)=xv at*;generalize q1H (q20 s y)=yv at*;unfold qAu at he;split at he
 case h_2=>simp at he
 case h_1 ti id o' n cc kk m hti=>
  have hvy:=q31 hy;subst hvy;obtain⟨el,hu,hl⟩:=q3z (P:=P) hT hti w;obtain⟨i',hi',his',hib',z,hz,_,_,hzs,_⟩:=hT.info _ _ hl;split at he
  case h_2=>simp at he
  case h_1 sz k F te hlk hbb=>
   simp only[Bool.and_eq_true,q0y]at hbb;obtain⟨⟨⟨hb2,hb1⟩,h0⟩,hflat⟩:=hbb;subst h0;split at he
   case h_2=>simp at he
   case h_1 hcc=>
    simp only[Bool.and_eq_true,q0y]at hcc;obtain⟨e1,e2⟩:=hcc;subst e1 e2;simp only[Option.some.injEq]at he;subst he;have o1:0≤m:=ho _ (by simp);have o2:n≤k:=ho _ (by simp);have o3:cc<n+m.toNat:=ho _ (by simp);have o4:n+m.toNat≤q4w:=ho _ (by simp);obtain⟨z',hz',hzz,hzs',hzc,hzr⟩:=qHg (P:=P) hT hl hflat w m.toNat;have hzeq:z'=z:=by
     have:(zeroValue el).run P w=.ok z w:=by simp[zeroValue,typeInfo,hi',hz]
     rw[this]at hz';simpa using hz'.symm
    subst hzeq;have hnews:∀cond:Prop,∀_:Decidable cond,(cond→m.toNat*ti.size=0)→(if cond then(#[]:Array Value)else Builtin.zeroCells z'.cells m.toNat)=Builtin.zeroCells z'.cells m.toNat:=fun cond _ hc=>by
     split
     ·rename_i hq;exact(Array.eq_empty_of_size_eq_zero (by rw[hzz];exact hc hq)).symm
     ·rfl
    have fin:∀(base:Option Addr) (old:Array Value),(∀w':World,w'.heap=w.heap→(Builtin.firstCells ti.size n (.slice base n cc)).run P w'=.ok old w')→old.size=n*ti.size→(∀i,i<n→(F i).cells.length=ti.size)→
      (∀i j,i<n→j<ti.size→PRep w (Fr q0l) ((F i).cells.getD j .undef) (old.getD (i*ti.size+j) Go.undef))→vx=.slice base n cc→
      q90 P g (s.app o.dst ⟨.osl site (n+m.toNat),[(site,some (.arr ti.size (n+m.toNat) (q3K n F fun _=>ti.zero) q0l))],[id],[0≤m,n≤k,cc<n+m.toNat,n+m.toNat≤q4w]⟩) a w o:=by
     intro base old hold hos hFl hor hv;have hrun:=hexec _ _ (by
      rw[hv];exact qBt (P:=P) (ty:=o.type) hu huu hi' hz rest (by rw[his'];exact hold w.drew rfl) o1 o3 (by rw[hib'];exact Nat.le_of_ble_eq_true hb1) (by rw[hib'];exact Nat.le_of_ble_eq_true hb2) o4)
     rw[his',hnews _ _ (fun q=>q)]at hrun;exact q8t (P:=P) h hf hd hl (n:=n) (m:=m.toNat) (F:=F) (H:=fun _=>ti.zero) (old:=old) (news:=Builtin.zeroCells z'.cells m.toNat) (tj:=q0l) (upd0:=[])
      (fun k=>rfl) hos hzz hFl (fun i hi=>hzc) hor (hzr w (Fr q0l)) hzs (q6o _ _ _ _) hrun
    cases hx with
    |atom hv _=>simp[isP]at hv
    |oss0 base h0=>
     exact fin base #[] (fun w' _=>by cases base<;>simp[Builtin.firstCells,loadCells,loadCellsFrom]) (by simp) (fun i hi=>by omega) (fun i j hi=>by omega) rfl
    | @oss _ _ _ _ b sz2 m2 cap cz e9 _ hi hn hc hcc hxx hs hcs=>
     have hcap:=hxx rfl;subst hcap;obtain⟨rfl,rfl,cells,e',hh,hcsz,hFl,hFr⟩:=(h.own id _ b sz2 m2 hlk hi).1;obtain⟨arr,h1,h2,h3⟩:=q7B (P:=P) (w:=w) (b:=b) (off:=0) (m:=n) (size:=ti.size) (cv:=fun i j=>cells.getD (i*ti.size+j) Go.undef) (fun i j hi hj=>by
      have e1:i*ti.size+ti.size=(i+1)*ti.size:=by rw[Nat.add_mul,Nat.one_mul]
      have e2:(i+1)*ti.size≤k*ti.size:=Nat.mul_le_mul_right _ (by omega);rw[Nat.zero_add];exact q4Q hh (by omega))
     refine fin (some ⟨b,0*ti.size,none⟩) arr (fun w' hw'=>by
      rw[Nat.zero_mul];simpa[Builtin.firstCells]using h1 w' hw') h2 (fun i hi=>hFl i (by omega)) (fun i j hi hj=>by rw[h3 i j hi hj];exact hFr i j (by omega) hj) rfl
theorem x2c {t:Nat} {ti:TI} (ht:q2Q tt t=some ti) {w:World} {a:Option Addr} {len cap:Nat} {lo hi:Option V} {vlo vhi:Option Value} {l:Option Int} {h m:Int} {km:IntKind}
  (h1:q5J lo=some l) (h2:q5J hi=some (some h)) (r1:qJe lo vlo) (r2:qJe hi vhi) (hl:0≤l.getD 0) (hlh:l.getD 0≤h) (hh:h≤m) (hm:m≤(cap:Int)) (hT:q4K P tt):
  ∃z,(Instr.sliceAt t (.slice a len cap) vlo vhi (some (.int km m))).run P w=.ok z w:=by
 obtain⟨e,hu,he⟩:=q3z (P:=P) hT ht w;have hsz:=q2c (P:=P) hT he w;unfold Instr.sliceAt Instr.slice Instr.sliceBounds;have e3:=q4V (P:=P) (w:=w) (k:=km) (i:=m) (y:=cap) (c:=.slice3Acap) (by omega) hm;rcases r2 _ h2 with⟨_,hq⟩|⟨k2,i2,rfl,hq⟩
 ·cases hq
 ·cases hq;have e2:=q4V (P:=P) (w:=w) (k:=k2) (i:=h) (y:=m.toNat) (c:=.slice3B) (by omega) (by omega);rcases r1 l h1 with⟨rfl,rfl⟩|⟨k1,i1,rfl,rfl⟩
  ·exact⟨_,by simp[hu,e2,e3,hsz];rfl⟩
  ·simp only[Option.getD_some]at hl hlh;have e1:=q4V (P:=P) (w:=w) (k:=k1) (i:=i1) (y:=h.toNat) (c:=.slice3C) hl (by omega);exact⟨_,by simp[hu,e1,e2,e3,hsz];rfl⟩
include hT in
theorem qNF {g:G} {s:AS} {ac:Act} {w:World} {Fr:Nat→Nat→Prop} {ι:q1K} (h:Rel g s ac w ι Fr) {t:Nat} {x:V} {vx:Value} {lo hi mx:Option V} {vlo vhi vmx:Option Value} {e:Ef}
  (he:qEi tt s.S t x lo hi mx=some e) (ho:∀p∈e.ob,p) (hx:q0e w Fr ι x vx) (r1:qJe lo vlo) (r2:qJe hi vhi) (r3:qJe mx vmx) (hm:mx=none→vmx=none):
  e.upd=[]∧∃z,(Instr.sliceAt t vx vlo vhi vmx).run P w=.ok z w∧q0e w Fr ι e.v z:=by
 unfold qEi at he;have part:∀(id o n c:Nat) (ee:Bool) (l h':Option Int) (ti:TI) (sz m:Nat) (F:Nat→V) (te:Nat) (o2:Nat),mx=none→q5J lo=some l→q5J hi=some h'→q2Q tt t=some ti→lk s.S id=some (.arr sz m F te)→sz=ti.size→
   0≤l.getD 0→l.getD 0≤h'.getD n→h'.getD n≤(c:Int)→o+(h'.getD (n:Int)).toNat≤m→o2=o+(l.getD 0).toNat→q0e w Fr ι (.oss id o n c ee) vx→
   ∃z,(Instr.sliceAt t vx vlo vhi vmx).run P w=.ok z w∧q0e w Fr ι (.oss id o2 ((h'.getD (n:Int)).toNat-(l.getD 0).toNat) (c-(l.getD 0).toNat) ee) z:=by
  intro id o n c ee l h' ti sz m F te o2 hmx b1 b2 hti hlk hsz q1 q2 q3 q4 ho2 hx;have:=hm hmx;subst this;subst ho2;cases hx with
  |atom hv _=>simp[isP]at hv
  |oss0 a h0=>
   have e1:l.getD 0=0:=by omega
   have e2:h'.getD ((0:Nat):Int)=0:=by omega
   have hrun:=q7Y (P:=P) hT hti (w:=w) (a:=a) (len:=0) (cap:=0) b1 b2 r1 r2 q1 q2 q3;refine⟨_,hrun,?_⟩;rw[e1,e2];exact .oss0 _ fun e=>h0 (by simpa using e)
  | @oss _ _ _ _ b sz2 m2 cap cz e9 _ hi hn hc hcc hxx hs hcs=>
   obtain⟨e3,e4,_⟩:=(h.own id _ b sz2 m2 hlk hi).1;subst e3 e4;have hrun:=q7Y (P:=P) hT hti (w:=w) (a:=some ⟨b,o*sz,none⟩) (len:=n) (cap:=cap) b1 b2 r1 r2 q1 q2 (by omega);refine⟨_,hrun,?_⟩;generalize l.getD 0=l1 at*;generalize h'.getD (n:Int)=h1 at*;by_cases hz:cap=l1.toNat
   ·have e5:h1.toNat-l1.toNat=0:=by omega
    have e6:cap-l1.toNat=0:=by omega
    have e7:c-l1.toNat=0:=by omega
    rw[if_pos hz,e5,e6,e7];by_cases hl0:l1.toNat=0
    ·rw[hl0,Nat.add_zero];exact .oss hi (by omega) (Nat.le_refl _) (Nat.le_refl _) (fun _=>rfl) hs (Nat.le_trans (Nat.mul_le_mul_right _ (by omega)) hcs)
    ·exact .oss0 _ fun e=>by omega
   ·rw[if_neg hz];simp only[Option.map_some,q5b];rw[←hsz,←Nat.add_mul];exact .oss hi (by omega) (by omega) (by omega) (fun e=>by rw[hxx e]) hs (by rw[show o+l1.toNat+(cap-l1.toNat)=o+cap by omega];exact hcs)
 split at he
 ·rename_i id n l h2 b1 b2;split at he
  ·rename_i ti sz m F te hti hlk;split at he
   ·rename_i hb;simp only[Option.some.injEq]at he;subst he;have hob:=ho _ (List.mem_singleton.2 rfl);have hx':q0e w Fr ι (.oss id 0 n n false) vx:=by
     cases hx with
     |atom hv _=>simp[isP]at hv
     |osl hi hn hc hs hcs=>have:=q0e.oss (w:=w) (Fr:=Fr) (x:=false) hi (lo:=0) (cc:=n) (n:=n) (by omega) hc hc (fun e=>by cases e) hs (by rw[Nat.zero_add];exact hcs);rw[Nat.zero_mul]at this;exact this
     |osl0 a hi=>exact .oss0 a fun _=>hi
    have hle:n≤m∨n=0:=by
     cases hx with
     |atom hv _=>simp[isP]at hv
     |osl hi hn hc hs hcs=>obtain⟨_,e4,_⟩:=(h.own id _ _ _ _ hlk hi).1;omega
     |osl0 a hi=>exact .inr rfl
    obtain⟨z,hz1,hz2⟩:=part id 0 n n false (some l) h2 ti sz m F te l.toNat rfl b1 b2 hti hlk (q0y.1 hb) hob.1 hob.2.1 hob.2.2 (by omega) (by simp) hx';exact⟨rfl,z,hz1,hz2⟩
   ·simp at he
  ·simp at he
 ·rename_i id o n c ee l h2 b1 b2;split at he
  ·rename_i ti sz m F te hti hlk;split at he
   ·rename_i hb;simp only[Option.some.injEq]at he;subst he;have hob:=ho _ (List.mem_singleton.2 rfl);obtain⟨z,hz1,hz2⟩:=part id o n c ee l h2 ti sz m F te _ rfl b1 b2 hti hlk (q0y.1 hb) hob.1 hob.2.1 hob.2.2.1 hob.2.2.2 rfl hx;refine⟨rfl,z,hz1,?_⟩;cases l with
    |none=>exact hz2
    |some l=>exact hz2
   ·simp at he
  ·simp at he
 ·rename_i id o n c ee lo' h' km k b1 b2;split at he
  ·rename_i ht;simp only[okO,Option.some.injEq]at he;subst he;have hob:=ho _ (List.mem_singleton.2 rfl);obtain⟨el,ti,hti,hu,hel⟩:=q9X (P:=P) hT ht w;obtain⟨k2,hk2⟩:∃k2,vmx=some (.int k2 k):=by
    rcases r3 (some k) rfl with⟨_,hq⟩|⟨k2,i,hv,hq⟩
    ·cases hq
    ·cases hq;exact⟨k2,hv⟩
   subst hk2;have:∃a len cap,vx=.slice a len cap∧c≤cap:=by
    cases hx with
    |atom hv _=>simp[isP]at hv
    |oss hi hn hc hcc hxx hs hcs=>exact⟨_,_,_,rfl,hcc⟩
    |oss0 a h0=>exact⟨_,_,_,rfl,Nat.le_refl _⟩
   obtain⟨a,len,cap,rfl,hcap⟩:=this;obtain⟨z,hz⟩:=x2c (P:=P) hti (w:=w) (a:=a) (len:=len) (cap:=cap) (km:=k2) b1 b2 r1 r2 hob.1 hob.2.1 hob.2.2.1 (by have:=hob.2.2.2;omega) hT;exact⟨rfl,z,hz,.atom rfl (.undef _)⟩
  ·simp at he
 ·exact qMI (P:=P) hT h he ho hx r1 r2 r3 hm
end
end Go.Av
