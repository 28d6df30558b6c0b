/- The proof's texts, joined, without what the row does not reach: part 3. -/
import Derived.Test.YtognmcollmdbpaaGreatDoorZb2
import Derived.Test.YtognmcollmdbpaaGreatDoorProg
import Derived.KernelRfl
import Derived.IntWalk
import Derived.Lib.Bytealg
import Derived.Lib.Overlaps
namespace Go.Av
set_option linter.unusedVariables false
set_option linter.unusedSimpArgs false
structure q0A where
 path:ByteArray
 data:Int
 version:Int
 owner:Int
 next:Int
instance:Inhabited q0A:=⟨⟨ByteArray.empty,0,0,0,0⟩⟩
noncomputable instance:DecidableEq q0A:=fun _ _=>Classical.propDecidable _
def q01 (t:Nat) (x:q0A):V:=.agg [.str (x.path),.int .i64 (x.data),.int .i64 (x.version),.int .i64 (x.owner),.int .i64 (x.next)]
def q03:V→q0A
 | .agg [c0,c1,c2,c3,c4]=>⟨qRx c0,q2G c1,q2G c2,q2G c3,q2G c4⟩
 |_=>default
@[simp] theorem q1R (t:Nat) (x:q0A):q03 (q01 t x)=x:=by
 simp only[q03,q01,q67,q4x,q61]
def q0A.bd (x:q0A):Prop:=(x.path.size≤maxLen)
theorem qLW {x y:q0A}:x=y↔x.path=y.path∧x.data=y.data∧x.version=y.version∧x.owner=y.owner∧x.next=y.next:=by
 cases x;cases y;simp
theorem qQe (t t':Nat) (x:q0A):ELe (q01 t x) (q01 t' x):=qKz ⟨PLe.refl _,PLe.refl _,PLe.refl _,PLe.refl _,PLe.refl _,trivial⟩
structure q07 where
 id:Int
 upto:Int
instance:Inhabited q07:=⟨⟨0,0⟩⟩
noncomputable instance:DecidableEq q07:=fun _ _=>Classical.propDecidable _
def q00 (t:Nat) (x:q07):V:=.agg [.int .i64 (x.id),.int .i64 (x.upto)]
def q05:V→q07
 | .agg [c0,c1]=>⟨q2G c0,q2G c1⟩
 |_=>default
@[simp] theorem q2K (t:Nat) (x:q07):q05 (q00 t x)=x:=by
 simp only[q05,q00,q67,q4x,q61]
theorem qEU {x y:q07}:x=y↔x.id=y.id∧x.upto=y.upto:=by
 cases x;cases y;simp
theorem qJ7 (t t':Nat) (x:q07):ELe (q00 t x) (q00 t' x):=qKz ⟨PLe.refl _,PLe.refl _,trivial⟩
structure TOp where
 kind:Int
 path:ByteArray
 data:Int
 version:Int
 seq:Bool
 own:Bool
instance:Inhabited TOp:=⟨⟨0,ByteArray.empty,0,0,false,false⟩⟩
noncomputable instance:DecidableEq TOp:=fun _ _=>Classical.propDecidable _
def q0Q (t:Nat) (x:TOp):V:=.agg [.int .i64 (x.kind),.str (x.path),.int .i64 (x.data),.int .i64 (x.version),.bool (x.seq),.bool (x.own)]
def q0a:V→TOp
 | .agg [c0,c1,c2,c3,c4,c5]=>⟨q2G c0,qRx c1,q2G c2,q2G c3,x4V c4,x4V c5⟩
 |_=>default
@[simp] theorem q4G (t:Nat) (x:TOp):q0a (q0Q t x)=x:=by
 simp only[q0a,q0Q,q67,q4x,q61]
def TOp.bd (x:TOp):Prop:=(x.path.size≤maxLen)
theorem x3E {x y:TOp}:x=y↔x.kind=y.kind∧x.path=y.path∧x.data=y.data∧x.version=y.version∧x.seq=y.seq∧x.own=y.own:=by
 cases x;cases y;simp
theorem qVg (t t':Nat) (x:TOp):ELe (q0Q t x) (q0Q t' x):=qKz ⟨PLe.refl _,PLe.refl _,PLe.refl _,PLe.refl _,PLe.refl _,PLe.refl _,trivial⟩
def q3f (t:Nat) (x:TOp):V:=.ptr (q0Q t x).cells 0 t
def q0x:V→TOp
 | .ptr cs _ _=>q0a (.agg cs)
 |_=>default
@[simp] theorem q7P (t:Nat) (x:TOp):q0x (q3f t x)=x:=q4G t x
structure q0E where
 client:Int
 number:Int
 time:Int
 ops:List TOp
instance:Inhabited q0E:=⟨⟨0,0,0,[]⟩⟩
noncomputable instance:DecidableEq q0E:=fun _ _=>Classical.propDecidable _
def q0t (t:Nat) (x:q0E):V:=.agg [.int .i64 (x.client),.int .i64 (x.number),.int .i64 (x.time),q0D (q0Q 1) t (x.ops)]
def q0N:V→q0E
 | .agg [c0,c1,c2,c3]=>⟨q2G c0,q2G c1,q2G c2,(q0K q0a) c3⟩
 |_=>default
@[simp] theorem q3s (t:Nat) (x:q0E):q0N (q0t t x)=x:=by
 simp only[q0N,q0t,q67,q4x,q61,q1g (enc:=(q0Q 1)) (dec:=q0a) (q4G 1)]
def q0E.bd (x:q0E):Prop:=(x.ops.length≤maxLen∧∀y∈x.ops,y.bd)
theorem qMb {x y:q0E}:x=y↔x.client=y.client∧x.number=y.number∧x.time=y.time∧x.ops=y.ops:=by
 cases x;cases y;simp
def q0n (t:Nat) (x:q0E):V:=.ptr (q0t t x).cells 0 t
def q0L:V→q0E
 | .ptr cs _ _=>q0N (.agg cs)
 |_=>default
@[simp] theorem q4C (t:Nat) (x:q0E):q0L (q0n t x)=x:=q3s t x
structure q2E where
 code:Int
 value:Int
 path:ByteArray
instance:Inhabited q2E:=⟨⟨0,0,ByteArray.empty⟩⟩
noncomputable instance:DecidableEq q2E:=fun _ _=>Classical.propDecidable _
def q0V (t:Nat) (x:q2E):V:=.agg [.int .i64 (x.code),.int .i64 (x.value),.str (x.path)]
def q0q:V→q2E
 | .agg [c0,c1,c2]=>⟨q2G c0,q2G c1,qRx c2⟩
 |_=>default
@[simp] theorem q4D (t:Nat) (x:q2E):q0q (q0V t x)=x:=by
 simp only[q0q,q0V,q67,q4x,q61]
def q2E.bd (x:q2E):Prop:=(x.path.size≤maxLen)
theorem qLm {x y:q2E}:x=y↔x.code=y.code∧x.value=y.value∧x.path=y.path:=by
 cases x;cases y;simp
structure q0U where
 client:Int
 number:Int
 reply:q2E
instance:Inhabited q0U:=⟨⟨0,0,default⟩⟩
noncomputable instance:DecidableEq q0U:=fun _ _=>Classical.propDecidable _
def q09 (t:Nat) (x:q0U):V:=.agg [.int .i64 (x.client),.int .i64 (x.number),.int .i64 (x.reply.code),.int .i64 (x.reply.value),.str (x.reply.path)]
def q0H:V→q0U
 | .agg [c0,c1,c2,c3,c4]=>⟨q2G c0,q2G c1,⟨q2G c2,q2G c3,qRx c4⟩⟩
 |_=>default
@[simp] theorem q2h (t:Nat) (x:q0U):q0H (q09 t x)=x:=by
 simp only[q0H,q09,q67,q4x,q61]
def q0U.bd (x:q0U):Prop:=(x.reply.bd)
theorem qKL {x y:q0U}:x=y↔x.client=y.client∧x.number=y.number∧x.reply=y.reply:=by
 cases x;cases y;simp
theorem qQr (t t':Nat) (x:q0U):ELe (q09 t x) (q09 t' x):=qKz ⟨PLe.refl _,PLe.refl _,PLe.refl _,PLe.refl _,PLe.refl _,trivial⟩
structure q06 where
 nodes:List q0A
 sessions:List q07
 now:Int
 marks:List q0U
instance:Inhabited q06:=⟨⟨[],[],0,[]⟩⟩
noncomputable instance:DecidableEq q06:=fun _ _=>Classical.propDecidable _
def q0J (t:Nat) (x:q06):V:=.agg [q0D (q01 1) t (x.nodes),q0D (q00 1) t (x.sessions),.int .i64 (x.now),q0D (q09 1) t (x.marks)]
def q0B:V→q06
 | .agg [c0,c1,c2,c3]=>⟨(q0K q03) c0,(q0K q05) c1,q2G c2,(q0K q0H) c3⟩
 |_=>default
@[simp] theorem q1X (t:Nat) (x:q06):q0B (q0J t x)=x:=by
 simp only[q0B,q0J,q67,q4x,q61,q1g (enc:=(q00 1)) (dec:=q05) (q2K 1),q1g (enc:=(q09 1)) (dec:=q0H) (q2h 1),q1g (enc:=(q01 1)) (dec:=q03) (q1R 1)]
def q06.bd (x:q06):Prop:=(x.nodes.length≤maxLen∧∀y∈x.nodes,y.bd)∧(x.sessions.length≤maxLen)∧(x.marks.length≤maxLen∧∀y∈x.marks,y.bd)
theorem qNz {x y:q06}:x=y↔x.nodes=y.nodes∧x.sessions=y.sessions∧x.now=y.now∧x.marks=y.marks:=by
 cases x;cases y;simp
def q0b (t:Nat) (x:q06):V:=.ptr (q0J t x).cells 0 t
def q14:V→q06
 | .ptr cs _ _=>q0B (.agg cs)
 |_=>default
@[simp] theorem q3F (t:Nat) (x:q06):q14 (q0b t x)=x:=q1X t x
structure qR1 where
 client:Int
 path:ByteArray
instance:Inhabited qR1:=⟨⟨0,ByteArray.empty⟩⟩
noncomputable instance:DecidableEq qR1:=fun _ _=>Classical.propDecidable _
def qR1.bd (x:qR1):Prop:=(x.path.size≤maxLen)
structure qHC where
 client:Int
 path:ByteArray
 kind:Int
instance:Inhabited qHC:=⟨⟨0,ByteArray.empty,0⟩⟩
noncomputable instance:DecidableEq qHC:=fun _ _=>Classical.propDecidable _
def qHC.bd (x:qHC):Prop:=(x.path.size≤maxLen)
structure q1S where
 code:Int
 text:ByteArray
instance:Inhabited q1S:=⟨⟨0,ByteArray.empty⟩⟩
noncomputable instance:DecidableEq q1S:=fun _ _=>Classical.propDecidable _
def q7l (t:Nat) (x:q1S):V:=.agg [.int .i64 (x.code),.str (x.text)]
def q1S.bd (x:q1S):Prop:=(x.text.size≤maxLen)
structure q2I where
 code:Int
 texts:List ByteArray
instance:Inhabited q2I:=⟨⟨0,[]⟩⟩
noncomputable instance:DecidableEq q2I:=fun _ _=>Classical.propDecidable _
def q9B (t:Nat) (x:q2I):V:=.agg [.int .i64 (x.code),q0D q4r t (x.texts)]
def q2I.bd (x:q2I):Prop:=(x.texts.length≤maxLen∧∀y∈x.texts,y.size≤maxLen)
structure q16 where
 code:Int
 path:ByteArray
 nodes:List q0A
instance:Inhabited q16:=⟨⟨0,ByteArray.empty,[]⟩⟩
noncomputable instance:DecidableEq q16:=fun _ _=>Classical.propDecidable _
def q0W (t:Nat) (x:q16):V:=.agg [.int .i64 (x.code),.str (x.path),q0D (q01 1) t (x.nodes)]
def q0j:V→q16
 | .agg [c0,c1,c2]=>⟨q2G c0,qRx c1,(q0K q03) c2⟩
 |_=>default
@[simp] theorem q9D (t:Nat) (x:q16):q0j (q0W t x)=x:=by
 simp only[q0j,q0W,q67,q4x,q61,q1g (enc:=(q01 1)) (dec:=q03) (q1R 1)]
def q16.bd (x:q16):Prop:=(x.path.size≤maxLen)∧(x.nodes.length≤maxLen∧∀y∈x.nodes,y.bd)
structure q12 where
 code:Int
 sessions:List q07
instance:Inhabited q12:=⟨⟨0,[]⟩⟩
noncomputable instance:DecidableEq q12:=fun _ _=>Classical.propDecidable _
def q1j (t:Nat) (x:q12):V:=.agg [.int .i64 (x.code),q0D (q00 1) t (x.sessions)]
def q12.bd (x:q12):Prop:=(x.sessions.length≤maxLen)
structure q3H where
 code:Int
 live:List q07
 over:List Int
instance:Inhabited q3H:=⟨⟨0,[],[]⟩⟩
noncomputable instance:DecidableEq q3H:=fun _ _=>Classical.propDecidable _
def q6t (t:Nat) (x:q3H):V:=.agg [.int .i64 (x.code),q0D (q00 1) t (x.live),q0D q42 t (x.over)]
def q3H.bd (x:q3H):Prop:=(x.live.length≤maxLen)∧(x.over.length≤maxLen)
structure q0f where
 code:Int
 reply:q2E
 state:q06
instance:Inhabited q0f:=⟨⟨0,default,default⟩⟩
noncomputable instance:DecidableEq q0f:=fun _ _=>Classical.propDecidable _
def q0m (t:Nat) (x:q0f):V:=.agg [.int .i64 (x.code),.int .i64 (x.reply.code),.int .i64 (x.reply.value),.str (x.reply.path),q0D (q01 1) t (x.state.nodes),q0D (q00 1) t (x.state.sessions),.int .i64 (x.state.now),q0D (q09 1) t (x.state.marks)]
def q0T:V→q0f
 | .agg [c0,c1,c2,c3,c4,c5,c6,c7]=>⟨q2G c0,⟨q2G c1,q2G c2,qRx c3⟩,⟨(q0K q03) c4,(q0K q05) c5,q2G c6,(q0K q0H) c7⟩⟩
 |_=>default
@[simp] theorem q6n (t:Nat) (x:q0f):q0T (q0m t x)=x:=by
 simp only[q0T,q0m,q67,q4x,q61,q1g (enc:=(q00 1)) (dec:=q05) (q2K 1),q1g (enc:=(q09 1)) (dec:=q0H) (q2h 1),q1g (enc:=(q01 1)) (dec:=q03) (q1R 1)]
def q0f.bd (x:q0f):Prop:=(x.reply.bd)∧(x.state.bd)
theorem qE1 {x y:q0f}:x=y↔x.code=y.code∧x.reply=y.reply∧x.state=y.state:=by
 cases x;cases y;simp
structure q7V where
 code:Int
 reply:q2E
instance:Inhabited q7V:=⟨⟨0,default⟩⟩
noncomputable instance:DecidableEq q7V:=fun _ _=>Classical.propDecidable _
def q7V.bd (x:q7V):Prop:=(x.reply.bd)
structure q7W where
 code:Int
 watches:List qR1
 events:List qHC
instance:Inhabited q7W:=⟨⟨0,[],[]⟩⟩
noncomputable instance:DecidableEq q7W:=fun _ _=>Classical.propDecidable _
def q7W.bd (x:q7W):Prop:=(x.watches.length≤maxLen∧∀y∈x.watches,y.bd)∧(x.events.length≤maxLen∧∀y∈x.events,y.bd)
@[simp] theorem q8f (t:Nat) (xs:List Int):q0K q2G (q0D q42 t xs)=xs:=q1g qQk t xs
@[simp] theorem x2l (t:Nat) (xs:List ByteArray):q0K qRx (q0D q4r t xs)=xs:=q1g qRu t xs
@[simp] theorem q0o (t:Nat) (xs:List q0A):q0K q03 (q0D (q01 1) t xs)=xs:=q1g (q1R 1) t xs
@[simp] theorem q0p (t:Nat) (xs:List q07):q0K q05 (q0D (q00 1) t xs)=xs:=q1g (q2K 1) t xs
@[simp] theorem q9m (t:Nat) (xs:List TOp):q0K q0a (q0D (q0Q 1) t xs)=xs:=q1g (q4G 1) t xs
@[simp] theorem qVC (t:Nat) (xs:List q0E):q0K q0N (q0D (q0t 1) t xs)=xs:=q1g (q3s 1) t xs
@[simp] theorem qZ2 (t:Nat) (xs:List q2E):q0K q0q (q0D (q0V 1) t xs)=xs:=q1g (q4D 1) t xs
@[simp] theorem q2i (t:Nat) (xs:List q0U):q0K q0H (q0D (q09 1) t xs)=xs:=q1g (q2h 1) t xs
@[simp] theorem qXs (t:Nat) (xs:List q06):q0K q0B (q0D (q0J 1) t xs)=xs:=q1g (q1X 1) t xs
@[simp] theorem qVB (t:Nat) (xs:List q16):q0K q0j (q0D (q0W 1) t xs)=xs:=q1g (q9D 1) t xs
@[simp] theorem qNa (t:Nat) (xs:List q0f):q0K q0T (q0D (q0m 1) t xs)=xs:=q1g (q6n 1) t xs
open Go.Proofs
noncomputable def tt:TT:=qI2 Tryz.prog (List.range 344)
theorem htt:q4K Tryz.prog tt:=qTA _ _
theorem q77:Tryz.prog.follows .mixedOrders=true:=by kernel_rfl
theorem q0X {n:Int} (h: -9223372036854775808≤n∧n≤9223372036854775807):inK .i64 n:=Go.IntWalk.i64_in _ (by omega)
noncomputable def lkR (l:List (Nat×q0P)):Nat→Option (Fl×q0P):=lk (l.map fun p=>(p.1,(Fl.ro,p.2)))
noncomputable def cxN (D:Nat→Option (Fl×q0P)) (fn:Func) (keep:List Nat):Cx:=⟨tt,D,fn.ntmps,keep,[],[],fun _=>none,[],noM,[]⟩
noncomputable def cxL (D:Nat→Option (Fl×q0P)) (fn:Func) (keep:List Nat) (lks:List (Nat×LK)) (iv:Nat→Option q0M) (nest:List Nat):Cx:=⟨tt,D,fn.ntmps,keep,lks,[],iv,[],noM,nest⟩
theorem sob {f:Nat} {fn:Func} {D:q0P} (pol:Nat) (hf:Tryz.prog.funcs[f]?=some fn)
  (h:∀args bin ob r bout,D args bin=some (ob,r,bout)→ob→bin=[]∧bout=[]∧args.length≤fn.ntmps∧
   ∃cx:Cx,q4K Tryz.prog cx.tt∧q0C Tryz.prog cx.D∧q4c Tryz.prog cx.M∧cx.nt=fn.ntmps∧∃args',q54 args args'∧q0d cx fn pol args' (fun r'=>VLe r' r))
  (hb:fn.body.isSome=true:=by kernel_rfl) (hn:(fn.name=="runtime.NumGoroutine")=false:=by kernel_rfl):q0R Tryz.prog f D:=by
 obtain⟨c,hc⟩:=Option.isSome_iff_exists.1 hb;exact qAN q77 hf hc hn h
theorem okB {fn:Func} {pol:Nat} {args args':List V} {r:V} {cx:Cx} (hb:q0d cx fn pol args' fun r'=>VLe r' r) (hD:q0C Tryz.prog cx.D) (hle:q54 args args')
  (h3:Nat.ble args.length fn.ntmps=true:=by kernel_rfl) (h4:cx.tt=tt:=by kernel_rfl) (h5:cx.M=noM:=by kernel_rfl) (h6:cx.nt=fn.ntmps:=by kernel_rfl):
  ([]:List Blk)=[]∧([]:List Blk)=[]∧args.length≤fn.ntmps∧∃cx:Cx,q4K Tryz.prog cx.tt∧q0C Tryz.prog cx.D∧q4c Tryz.prog cx.M∧cx.nt=fn.ntmps∧∃args',q54 args args'∧q0d cx fn pol args' (fun r'=>VLe r' r):=
 ⟨rfl,rfl,Nat.le_of_ble_eq_true h3,cx,h4▸htt,hD,h5▸q2n,h6,args',hle,hb⟩
theorem okQ {fn:Func} {tpl:List (Nat×Nat)} {args args':List V} {bin bin' bout:List Blk} {r:V} {cx:Cx} (hb:q3h cx fn tpl args' bin' fun r' bs=>VLe r' r∧q1y bs bout) (hD:q0C Tryz.prog cx.D) (hle:q54 args args') (hbin:q1y bin bin')
  (h3:Nat.ble args.length fn.ntmps=true:=by kernel_rfl) (h4:cx.tt=tt:=by kernel_rfl) (h5:cx.M=noM:=by kernel_rfl) (h6:cx.nt=fn.ntmps:=by kernel_rfl):
  args.length≤fn.ntmps∧∃cx:Cx,q4K Tryz.prog cx.tt∧q0C Tryz.prog cx.D∧q4c Tryz.prog cx.M∧cx.nt=fn.ntmps∧∃args' bin',q54 args args'∧q1y bin bin'∧q3h cx fn tpl args' bin' (fun r' bs=>VLe r' r∧q1y bs bout):=
 ⟨Nat.le_of_ble_eq_true h3,cx,h4▸htt,hD,h5▸q2n,h6,args',bin',hle,hbin,hb⟩
def inR (n lo hi:Int):Prop:=lo≤n∧n≤hi
instance (n lo hi:Int):Decidable (inR n lo hi):=inferInstanceAs (Decidable (_∧_))
def ba (l:List UInt8):ByteArray:=⟨l.toArray⟩
@[simp] theorem q8R (l:List UInt8):(ba l).data.toList=l:=by simp[ba]
@[simp] theorem qOe (s:ByteArray):ba s.data.toList=s:=by cases s;simp[ba]
theorem q4d {a b:ByteArray} (h:a.data.toList=b.data.toList):a=b:=by rw[←qOe a,←qOe b,h]
theorem q2o (s:ByteArray):s.size=s.data.toList.length:=by cases s;rfl
theorem qGd (l:List UInt8):(ba l).size=l.length:=by rw[q2o,q8R]
theorem q1W (a b:ByteArray):q1t a b=decide (a=b):=by
 unfold q1t;rw[Lib.toList_data,Lib.toList_data,Bool.eq_iff_iff,decide_eq_true_eq,beq_iff_eq];exact⟨q4d,fun h=>by rw[h]⟩
theorem qIZ:∀x y:List UInt8,Op.bytesLess x y=decide (x<y)
 |[],[]=>by simp[Op.bytesLess]
 |_::_,[]=>by simp[Op.bytesLess]
 |[],_::_=>by simp[Op.bytesLess]
 |a::x,b::y=>by
  rw[Op.bytesLess,qIZ x y,Bool.eq_iff_iff,decide_eq_true_eq,List.cons_lt_cons_iff];simp
def lt (a b:ByteArray):Prop:=a.data.toList<b.data.toList
noncomputable instance (a b:ByteArray):Decidable (lt a b):=Classical.propDecidable _
theorem qCm (a b:ByteArray):qFa a b=decide (lt a b):=by
 unfold qFa;rw[Lib.toList_data,Lib.toList_data,qIZ,Bool.eq_iff_iff,decide_eq_true_eq,decide_eq_true_eq];exact Iff.rfl
theorem lt_irrefl (a:ByteArray):¬lt a a:=List.lt_irrefl _
theorem lt_trans {a b c:ByteArray} (h:lt a b) (g:lt b c):lt a c:=List.lt_trans h g
theorem qLQ {a b:ByteArray} (h:lt a b):¬lt b a:=fun g=>lt_irrefl a (lt_trans h g)
theorem qFI {a b:ByteArray} (h:¬lt a b) (g:¬lt b a):a=b:=q4d (List.le_antisymm (List.not_lt.1 g) (List.not_lt.1 h))
theorem qUy:∀a b:List UInt8,Lib.compareBytes a b<0↔a<b
 |[],[]=>by simp[Lib.compareBytes]
 |[],_::_=>by simp[Lib.compareBytes]
 |_::_,[]=>by simp[Lib.compareBytes]
 |a::x,b::y=>by
  unfold Lib.compareBytes;rw[List.cons_lt_cons_iff];by_cases h1:a<b
  ·simp[h1]
  ·by_cases h2:b<a
   ·have:a≠b:=fun e=>by subst e;exact h1 h2
    simp[h1,h2,this]
   ·have:a=b:=UInt8.le_antisymm (UInt8.not_lt.1 h2) (UInt8.not_lt.1 h1);simp[h1,h2,this,qUy x y]
theorem qRj:∀a b:List UInt8,Lib.compareBytes a b=0↔a=b
 |[],[]=>by simp[Lib.compareBytes]
 |[],_::_=>by simp[Lib.compareBytes]
 |_::_,[]=>by simp[Lib.compareBytes]
 |a::x,b::y=>by
  unfold Lib.compareBytes;by_cases h1:a<b
  ·have:a≠b:=fun e=>by subst e;exact UInt8.lt_irrefl a h1
   simp[h1,this]
  ·by_cases h2:b<a
   ·have:a≠b:=fun e=>by subst e;exact h1 h2
    simp[h1,h2,this]
   ·have:a=b:=UInt8.le_antisymm (UInt8.not_lt.1 h2) (UInt8.not_lt.1 h1);simp[h1,h2,this,qRj x y]
def qMg (a b:ByteArray):Int:=Lib.compareBytes a.data.toList b.data.toList
theorem qPQ (a b:ByteArray):qMg a b<0↔lt a b:=qUy _ _
theorem qVy (a b:ByteArray):qMg a b=0↔a=b:=(qRj _ _).trans ⟨q4d,fun h=>by rw[h]⟩
theorem q3Z (s:ByteArray) (a b:Nat):(s.extract a b).data.toList=(s.data.toList.drop a).take (b-a):=by
 rw[ByteArray.data_extract];simp[List.extract]
theorem q4f (s:ByteArray) (i:Nat) (h:i<s.size):q0i s i=((s.data.toList[i]'(by rw[←q2o];exact h)).toNat:Int):=by
 unfold q0i;have h':i<s.data.size:=h;have e:s.data.getD (i:Int).toNat 0=s.data[i]:=by
  rw[Int.toNat_natCast,Array.getD_eq_getD_getElem?,Array.getElem?_eq_getElem h',Option.getD_some]
 rw[e];simp
theorem q9l {s:ByteArray} {i:Nat} (h:i<s.size) (c:UInt8):q0i s i=(c.toNat:Int)↔s.data.toList[i]'(by rw[←q2o];exact h)=c:=by
 rw[q4f s i h];constructor
 ·intro e;exact UInt8.toNat_inj.1 (by omega)
 ·intro e;rw[e]
def qBn (c:UInt8):List UInt8→List (List UInt8)
 |[]=>[[]]
 |x::r=>if x=c then[]::qBn c r else match qBn c r with
  |p::q=>(x::p)::q
  |[]=>[[x]]
theorem qJw (c:UInt8):∀l,qBn c l≠[]
 |[]=>by simp[qBn]
 |x::r=>by
  unfold qBn;split
  ·simp
  ·split<;>simp
theorem qGH {c:UInt8}:∀{p r:List UInt8},c∉p→qBn c (p++c::r)=p::qBn c r
 |[],r,_=>by simp[qBn]
 |x::p,r,h=>by
  have h1:x≠c:=fun e=>h (by simp[e]);have h2:c∉p:=fun e=>h (by simp[e]);rw[List.cons_append,qBn,if_neg h1,qGH h2]
theorem qDn {c:UInt8}:∀{p:List UInt8},c∉p→qBn c p=[p]
 |[],_=>by simp[qBn]
 |x::p,h=>by
  have h1:x≠c:=fun e=>h (by simp[e]);have h2:c∉p:=fun e=>h (by simp[e]);rw[qBn,if_neg h1,qDn h2]
theorem qKU (c:UInt8):∀l,(qBn c l).length=l.count c+1
 |[]=>by simp[qBn]
 |x::r=>by
  have ih:=qKU c r;unfold qBn;by_cases h:x=c
  ·subst h;rw[if_pos rfl,List.count_cons_self,List.length_cons,ih]
  ·rw[if_neg h,List.count_cons_of_ne (by simpa using h)];split
   ·rename_i p q e;rw[e]at ih;simpa using ih
   ·rename_i e;exact absurd e (qJw c r)
theorem qUJ (c:UInt8):∀l:List UInt8,(c∉l∧Lib.indexByte l c=-1)∨∃p r,l=p++c::r∧c∉p∧Lib.indexByte l c=(p.length:Int)
 |[]=>.inl ⟨by simp,rfl⟩
 |x::l=>by
  unfold Lib.indexByte;by_cases h:x=c
  ·subst h;exact .inr ⟨[],l,rfl,by simp,by simp⟩
  ·have hb:(x==c)=false:=by simpa using h
   rcases qUJ c l with⟨h1,h2⟩|⟨p,r,h1,h2,h3⟩
   ·refine .inl ⟨by simp[h1,Ne.symm h],?_⟩;simp[hb,h2]
   ·refine .inr ⟨x::p,r,by rw[h1];rfl,by simp[h2,Ne.symm h],?_⟩;have:((p.length:Int)== -1)=false:=by rw[beq_eq_false_iff_ne];omega
    rw[h3];simp[hb,this]
noncomputable def cnt (s:ByteArray):Nat:=s.data.toList.count 47
def q2O (s:ByteArray):List ByteArray:=(qBn 47 s.data.toList).map ba
theorem qBz (s:ByteArray):(q2O s).length=cnt s+1:=by rw[q2O,List.length_map,qKU,cnt]
theorem qSr {s:ByteArray} {p r:List UInt8} (h:s.data.toList=p++47::r) (hp:47∉p):q2O s=ba p::q2O (ba r):=by
 unfold q2O;rw[h,qGH hp,List.map_cons,q8R]
theorem qR7 {s:ByteArray} (h:47∉s.data.toList):q2O s=[s]:=by
 unfold q2O;rw[qDn h];simp
theorem qQu (c:UInt8):∀(l:List UInt8),∀p∈qBn c l,p.length≤l.length
 |[],p,h=>by simp[qBn]at h;simp[h]
 |x::r,p,h=>by
  have ih:=qQu c r;unfold qBn at h;split at h
  ·rcases List.mem_cons.1 h with h|h
   ·simp[h]
   ·have:=ih p h;simp;omega
  ·split at h
   ·rename_i q t e;rcases List.mem_cons.1 h with h|h
    ·have:=ih q (by rw[e];simp);rw[h];simp;omega
    ·have:=ih p (by rw[e];simp[h]);simp;omega
   ·simp at h;simp[h]
theorem qNp {s p:ByteArray} (h:p∈q2O s):p.size≤s.size:=by
 unfold q2O at h;obtain⟨l,h1,rfl⟩:=List.mem_map.1 h;rw[qGd,q2o];exact qQu _ _ _ h1
theorem qFQ {α:Type} (x:α):∀(a:List α) (i:Nat),i<a.length→(a.set i x).take (i+1)=a.take i++[x]
 |[],_,h=>by simp at h
 |y::r,0,_=>by simp
 |y::r,i+1,h=>by
  have:=qFQ x r i (by simpa using h);simp[this]
theorem qNB {l:List UInt8} {f i:Nat} (h:f≤i) (hi:i<l.length):l.drop f=(l.drop f).take (i-f)++l[i]::l.drop (i+1):=by
 have h1:=(List.take_append_drop (i-f) (l.drop f)).symm;rw[List.drop_drop,show f+(i-f)=i by omega,List.drop_eq_getElem_cons hi]at h1;exact h1
def qRy (s:ByteArray) (f i:Nat) (out:List ByteArray):Prop:=
 i≤s.size+1∧out.length≤i∧(i≤s.size→f≤i∧47∉(s.data.toList.drop f).take (i-f)∧out++(qBn 47 (s.data.toList.drop f)).map ba=q2O s)∧(i=s.size+1→out=q2O s)
theorem qUA {s:ByteArray} {f i:Nat} {out:List ByteArray} (h:qRy s f i out) (hi:i≤s.size) (hb:i=s.size∨q0i s i=47):qRy s (i+1) (i+1) (out++[s.extract f i]):=by
 obtain⟨h1,h2,h3,h4⟩:=h;obtain⟨g1,g2,g3⟩:=h3 hi;have hl:=q2o s;refine⟨by omega,by simp;omega,fun h=>⟨Nat.le_refl _,by simp,?_⟩,fun h=>?_⟩
 ·have hlt:i<s.data.toList.length:=by omega
  have hc:s.data.toList[i]=47:=by
   rcases hb with hb|hb
   ·omega
   ·exact(q9l (by omega) 47).1 hb
  have e:=qNB g1 hlt;rw[hc]at e;rw[←g3,e,qGH g2,List.append_assoc,List.map_cons,List.singleton_append];congr 2;exact q4d (by rw[q3Z,q8R])
 ·have hi':i=s.size:=by omega
  have ht:(s.data.toList.drop f).take (i-f)=s.data.toList.drop f:=List.take_of_length_le (by rw[List.length_drop];omega);rw[ht]at g2;rw[←g3,qDn g2];simp only[List.map_cons,List.map_nil];congr 2;exact q4d (by rw[q3Z,q8R,ht])
theorem qX5 {s:ByteArray} {f i:Nat} {out:List ByteArray} (h:qRy s f i out) (hi:i<s.size) (hb:q0i s i≠47):qRy s f (i+1) out:=by
 obtain⟨h1,h2,h3,h4⟩:=h;obtain⟨g1,g2,g3⟩:=h3 (by omega);have hl:=q2o s;refine⟨by omega,by omega,fun h=>⟨by omega,?_,g3⟩,fun h=>by omega⟩;have hlt:i<s.data.toList.length:=by omega
 have hc:s.data.toList[i]≠47:=fun e=>hb ((q9l (by omega) 47).2 e);have e:(s.data.toList.drop f).take (i+1-f)=(s.data.toList.drop f).take (i-f)++[s.data.toList[i]]:=by
  rw[show i+1-f=(i-f)+1 by omega];have hk:i-f<(s.data.toList.drop f).length:=by rw[List.length_drop];omega
  rw[List.take_succ_eq_append_getElem hk,List.getElem_drop];congr 3;omega
 rw[e];intro hm;rcases List.mem_append.1 hm with hm|hm
 ·exact g2 hm
 ·exact hc (by simp at hm;exact hm.symm)
theorem qNG (s:ByteArray):qRy s 0 0 []:=⟨by omega,by simp,fun _=>⟨by omega,by simp,by simp[q2O]⟩,fun h=>by omega⟩
def qLd (c:Int):Prop:=¬((c<97∨122<c)∧(c<48∨57<c))
noncomputable instance (c:Int):Decidable (qLd c):=Classical.propDecidable _
def q5j (s:ByteArray):Prop:=(∀i:Nat,i<s.size→qLd (q0i s i))∧1≤s.size∧s.size≤8
noncomputable instance (s:ByteArray):Decidable (q5j s):=Classical.propDecidable _
abbrev q1f:ByteArray:=⟨#[]⟩
abbrev top:ByteArray:=⟨#[47]⟩
def q6p (s:ByteArray):Prop:=2≤(q2O s).length∧(q2O s).getD 0 default=q1f∧∀p∈(q2O s).tail,q5j p
noncomputable instance (s:ByteArray):Decidable (q6p s):=Classical.propDecidable _
noncomputable def q1I (s:ByteArray):Int:=if 24<s.size∨4<cnt s then 2 else if s=top∨q6p s then 0 else 5
noncomputable def qEX (s:ByteArray):List ByteArray:=if s=top∨¬q6p s then[]else(q2O s).tail
def q6d (s:ByteArray):Prop:=∃r,s.data.toList=47::r
theorem q4n {s:ByteArray} (h:q1I s=0):q6d s:=by
 unfold q1I at h;split at h
 ·cases h
 split at h
 ·rename_i h1;rcases h1 with h1|h1
  ·exact⟨[],by rw[h1]⟩
  ·obtain⟨h2,h3,_⟩:=h1;cases hl:s.data.toList with
   |nil=>rw[qBz,cnt,hl]at h2;simp at h2
   |cons x r=>
    by_cases hx:x=47
    ·exact⟨r,by rw[hl,hx]⟩
    ·exfalso;unfold q2O at h3;rw[hl,qBn,if_neg hx]at h3;cases hc:qBn 47 r with
     |nil=>exact qJw _ _ hc
     |cons p q=>
      rw[hc]at h3;have:=congrArg ByteArray.size h3;rw[List.map_cons,List.getD_cons_zero,qGd]at this;exact absurd (show p.length+1=0 from this) (by omega)
 ·cases h
theorem q8C {s:ByteArray} (h:q1I s=0):s.size≤24:=by
 unfold q1I at h;split at h
 ·cases h
 ·omega
theorem q5N {s:ByteArray} (h:q6d s):0<s.size∧q0i s 0=47:=by
 obtain⟨r,h⟩:=h;have h1:0<s.size:=by rw[q2o,h];simp
 refine⟨h1,?_⟩;have:=(q9l h1 47).2 (by simp[h]);simpa using this
theorem qZD {s:ByteArray} (h:q6d s):¬lt s top:=by
 obtain⟨r,h⟩:=h;unfold lt;rw[h];simp
def q3V (s:ByteArray):Nat→Nat
 |0=>0
 |i+1=>if q0i s i=47 then i else q3V s i
theorem q9s (s:ByteArray):∀i,q3V s i≤i
 |0=>Nat.le_refl _
 |i+1=>by
  have:=q9s s i;unfold q3V;split<;>omega
theorem qH7 {s:ByteArray} {k:Nat} (hk:q0i s k=47):∀n,k<n→(∀j,k<j→j<n→q0i s j≠47)→q3V s n=k
 |0,h,_=>by omega
 |n+1,h,hj=>by
  unfold q3V;by_cases e:k=n
  ·subst e;rw[if_pos hk]
  ·rw[if_neg (hj n (by omega) (by omega))];exact qH7 hk n (by omega) fun j h1 h2=>hj j h1 (by omega)
abbrev q2B (s:ByteArray):Nat:=q3V s s.size
theorem q8G {s:ByteArray}:∀n,0<n→q3V s n<n
 |0,h=>by omega
 |n+1,_=>by
  unfold q3V;split
  ·omega
  ·have:=q9s s n;omega
def upF (s:ByteArray):ByteArray:=if q2B s=0 then top else s.extract 0 (q2B s)
def q4R (s:ByteArray):ByteArray:=s.extract (q2B s+1) s.size
theorem x2D {s:ByteArray} (h:q6d s):s.extract 0 (max (q2B s) 1)=upF s:=by
 unfold upF;split
 ·rename_i h0;rw[h0];apply q4d;obtain⟨r,h⟩:=h;rw[q3Z,h];simp
 ·rename_i h0;congr 1;omega
theorem q8P (s:ByteArray) (a b:Nat) (h:a≤b) (hb:b≤s.size):(s.extract a b).size=b-a:=by
 rw[q2o,q3Z,List.length_take,List.length_drop,←q2o];omega
theorem qPc {s:ByteArray} (h:q6d s):q6d (upF s):=by
 rw[←x2D h];obtain⟨r,h⟩:=h;refine⟨r.take (max (q2B s) 1-1),?_⟩;rw[q3Z,h];have:max (q2B s) 1-0=(max (q2B s) 1-1)+1:=by omega
 rw[this,List.drop_zero,List.take_succ_cons]
set_option maxRecDepth 100000
set_option maxHeartbeats 4000000
noncomputable def x0V:q0P:=qPk
theorem xAO:q0R Tryz.prog 269 x0V:=qJr Tryz.func269 (by kernel_rfl) (by kernel_rfl) (by kernel_rfl) (by kernel_rfl)
noncomputable def qVX:q0P:=qAX
theorem x1X:q0R Tryz.prog 291 qVX:=qCb Tryz.func291 (by kernel_rfl) (by kernel_rfl) (by kernel_rfl) (by kernel_rfl)
noncomputable def x0g:q0P:=qFm
theorem x4b:q0R Tryz.prog 296 x0g:=qFM Tryz.func296 (by kernel_rfl) (by kernel_rfl) (by kernel_rfl) (by kernel_rfl)
noncomputable def qEv (s:ByteArray):Int:=Lib.indexByte s.data.toList 47
theorem qFF:top.size=1:=rfl
theorem qOs:q0i top 0=47:=rfl
theorem b47:(Int.toNat 47).toUInt8=47:=rfl
def qNS (s:ByteArray) (sub:ByteArray):Prop:=sub=top∧s.size≤1000
noncomputable def x2M (s:ByteArray) (sub:ByteArray):V:=.int .i64 (cnt s)
noncomputable def qUE:q0P:=fun args bin=>match args,bin with
 |[.str a0,.str a1],[]=>some (qNS a0 a1,x2M a0 a1,[])
 |_,_=>none
noncomputable def xDB:=lkR [(269,x0V)]
theorem x67:q0C Tryz.prog xDB:=q02 xAO (q04)
noncomputable def x7b (s:ByteArray) (sub:ByteArray):Cx:=⟨tt,xDB,Tryz.f232.ntmps,[0,1,4,5,6,9,15,24],[],[2,5],fun _=>none,[],noM,[]⟩
noncomputable def q2z (sub:ByteArray):Int:=(↑ sub.size:Int)
theorem x4z (s:ByteArray) (sub:ByteArray) (hpre:qNS s sub):q0d (x7b s sub) Tryz.f232 0 [.str (s),.str (sub)] (fun rr=>VLe rr (x2M s sub)):=by
 have key:(((q2z sub)==(0:Int))=true→False)∧(((q2z sub)==(0:Int))=false→(((q2z sub)==(1:Int))=true→((0:Int)≤(0:Int)∧0<(q2z sub))∧True∧VLe (vi (↑ (Lib.countByte (Array.toList (ByteArray.data s)) (Nat.toUInt8 (q0i sub (0:Int)).toNat)):Int)) (vi (↑ (cnt s):Int)))∧(((q2z sub)==(1:Int))=false→False)):=by
  delta q2z;delta vi;obtain⟨rfl,hs⟩:=hpre;simp only[qFF,qOs,b47];exact⟨fun h=>by simp at h,fun h=>⟨fun h=>⟨by simp,trivial,VLe.refl _⟩,fun h=>by simp at h⟩⟩
 exact Eq.mp (by kernel_rfl) key
theorem x3e:q0R Tryz.prog 232 qUE:=by
 refine sob 0 Tryz.func232 fun args bin ob r bout hDe hob=>?_;unfold qUE at hDe;split at hDe
 ·rename_i a0 a1;cases hDe;exact okB (x4z a0 a1 (hob)) x67 (args_of_vles ⟨VLe.refl _,VLe.refl _,trivial⟩)
 ·cases hDe
def qTM (s:ByteArray) (c:Int):Prop:=c=47
noncomputable def x3g (s:ByteArray) (c:Int):V:=.int .i64 (qEv s)
noncomputable def qXM:q0P:=fun args bin=>match args,bin with
 |[.str a0,.int .u8 a1],[]=>some (qTM a0 a1,x3g a0 a1,[])
 |_,_=>none
noncomputable def xEE:=lkR [(291,qVX)]
theorem x6b:q0C Tryz.prog xEE:=q02 x1X (q04)
noncomputable def x88 (s:ByteArray) (c:Int):=cxN xEE Tryz.f282 [0,1,4]
theorem x7i (s:ByteArray) (c:Int) (hpre:qTM s c):q0d (x88 s c) Tryz.f282 0 [.str (s),.int .u8 (c)] (fun rr=>VLe rr (x3g s c)):=by
 have key:True∧VLe (vi (Lib.indexByte (Array.toList (ByteArray.data s)) (Nat.toUInt8 c.toNat))) (vi (qEv s)):=by
  delta vi;subst hpre;exact⟨trivial,VLe.refl _⟩
 exact Eq.mp (by kernel_rfl) key
theorem xCV:q0R Tryz.prog 282 qXM:=by
 refine sob 0 Tryz.func282 fun args bin ob r bout hDe hob=>?_;unfold qXM at hDe;split at hDe
 ·rename_i a0 a1;cases hDe;exact okB (x7i a0 a1 (hob)) x6b (args_of_vles ⟨VLe.refl _,VLe.refl _,trivial⟩)
 ·cases hDe
def qXL (s:ByteArray) (sub:ByteArray):Prop:=sub=top
noncomputable def x3O (s:ByteArray) (sub:ByteArray):V:=.int .i64 (qEv s)
noncomputable def qYO:q0P:=fun args bin=>match args,bin with
 |[.str a0,.str a1],[]=>some (qXL a0 a1,x3O a0 a1,[])
 |_,_=>none
noncomputable def xD2:=lkR [(282,qXM)]
theorem x7m:q0C Tryz.prog xD2:=q02 xCV (q04)
noncomputable def x8r (s:ByteArray) (sub:ByteArray):Cx:=⟨tt,xD2,Tryz.f267.ntmps,[0,1,4,5,6,7,8,9,10,11,12,13,16,24,31,36,59,64,73,93,107,114,132,139],[],[6],fun _=>none,[],noM,[]⟩
theorem x4a (s:ByteArray) (sub:ByteArray) (hpre:qXL s sub):q0d (x8r s sub) Tryz.f267 0 [.str (s),.str (sub)] (fun rr=>VLe rr (x3O s sub)):=by
 have key:tq (! (q2z sub)==(0:Int))∧tq (! (q2z sub)==(0:Int))∧((true=true→((q2z sub)==(0:Int))=false→(! (q2z sub)==(0:Int))=true)∧∀b:Bool,(b=bif (q2z sub)==(0:Int)then true else q1t sub s)→(b=true→VLe (vi 0) (vi (qEv s)))∧(b=false→(((q2z sub)==(1:Int))=true→((0:Int)≤(0:Int)∧0<(q2z sub))∧qTM s (q0i sub (0:Int))∧VLe (vi (qEv s)) (vi (qEv s)))∧(((q2z sub)==(1:Int))=false→False))):=by
  delta q2z;delta vi;subst hpre;simp only[qFF,qOs]
  repeat (first|(refine And.intro (fun h _=>h) ?_)|(refine And.intro (fun _ h=>h) ?_)|(refine And.intro ?aa ?_;case aa=>(exact trivial))|(refine And.intro ?aa ?_;case aa=>(intros;simp_all [qTM];done))|(refine And.intro ?aa ?_;case aa=>(intros;exact q0X (by omega)))|(refine And.intro ?aa ?_;case aa=>(intros;simp only[decide_eq_true_eq]at *;omega))|(intro q hq))
  refine⟨fun h=>?_,fun h=>⟨fun h=>⟨by simp,rfl,VLe.refl _⟩,fun h=>by simp at h⟩⟩;rw[hq]at h;simp[q1W]at h;refine q0I ?_;rw[←h];rfl
 exact Eq.mp (by kernel_rfl) key
theorem x7x:q0R Tryz.prog 267 qYO:=by
 refine sob 0 Tryz.func267 fun args bin ob r bout hDe hob=>?_;unfold qYO at hDe;split at hDe
 ·rename_i a0 a1;cases hDe;exact okB (x4a a0 a1 (hob)) x7m (args_of_vles ⟨VLe.refl _,VLe.refl _,trivial⟩)
 ·cases hDe
def qWU (s:ByteArray) (sub:ByteArray):Prop:=sub=top
noncomputable def x04 (s:ByteArray) (sub:ByteArray):V:=.int .i64 (qEv s)
noncomputable def qY3:q0P:=fun args bin=>match args,bin with
 |[.str a0,.str a1],[]=>some (qWU a0 a1,x04 a0 a1,[])
 |_,_=>none
noncomputable def xF6:=lkR [(267,qYO)]
theorem xAy:q0C Tryz.prog xF6:=q02 x7x (q04)
noncomputable def xBA (s:ByteArray) (sub:ByteArray):=cxN xF6 Tryz.f231 [0,1,4]
theorem x5C (s:ByteArray) (sub:ByteArray) (hpre:qWU s sub):q0d (xBA s sub) Tryz.f231 0 [.str (s),.str (sub)] (fun rr=>VLe rr (x04 s sub)):=by
 have key:qXL s sub∧VLe (vi (qEv s)) (vi (qEv s)):=by
  delta vi;exact⟨hpre,VLe.refl _⟩
 exact Eq.mp (by kernel_rfl) key
theorem x5w:q0R Tryz.prog 231 qY3:=by
 refine sob 0 Tryz.func231 fun args bin ob r bout hDe hob=>?_;unfold qY3 at hDe;split at hDe
 ·rename_i a0 a1;cases hDe;exact okB (x5C a0 a1 (hob)) xAy (args_of_vles ⟨VLe.refl _,VLe.refl _,trivial⟩)
 ·cases hDe
theorem qV0 {l:List ByteArray} {i:Nat} {x:ByteArray} (hi:i<l.length):q65 (gL q4r l) i (.str x)=gL q4r (l.set i x):=by
 funext k;simp only[q2F,gL];by_cases e:k=i
 ·subst e;rw[if_pos rfl,q27 _ _ _ _ hi];rfl
 ·rw[if_neg e,q1u _ _ _ _ e]
theorem q3G {α:Type} [Inhabited α] (enc:α→V) {sz te te':Nat} {g:Nat→V}:BLe (.arr sz 0 g te) (.arr sz ([]:List α).length (gL enc []) te'):=q1P (fun i hi=>absurd hi (Nat.not_lt_zero i)) (Or.inr (Or.inr (Or.inr rfl)))
theorem qO5 {a b:Blk} (h:a=b):BLe a b:=by rw[h];exact BLe.refl _
theorem x1f {n i:Nat} (h:i<n):gL q4r (List.replicate n ByteArray.empty) i=.str ⟨#[]⟩:=by
 simp[gL,h];rfl
def qW3 (s:ByteArray) (sep:ByteArray) (save:Int) (n:Int):Prop:=sep=top∧save=0∧n=-1∧s.size≤1000
noncomputable def x1C (s:ByteArray) (sep:ByteArray) (save:Int) (n:Int):V:=q0D q4r 2 (q2O s)
noncomputable def qVL:q0P:=fun args bin=>match args,bin with
 |[.str a0,.str a1,.int .i64 a2,.int .i64 a3],[]=>some (qW3 a0 a1 a2 a3,x1C a0 a1 a2 a3,[])
 |_,_=>none
noncomputable def qTf (s:ByteArray) (sep:ByteArray) (save:Int) (n:Int):q0M:=
 ⟨ByteArray×Nat×List ByteArray,fun p=>⟨[(0,.str p.1),(1,.str top),(2,.int .i64 0),(3,.int .i64 (cnt s)),(9,.osl (q25 9) (cnt s+1)),(10,.int .i64 p.2.1)],[(q25 9,.arr 1 (cnt s+1) (gL q4r p.2.2) q0l)]⟩,
  fun p=>p.1.size≤s.size∧p.2.2.length=cnt s+1∧p.2.1+cnt p.1=cnt s∧p.2.2.take p.2.1++q2O p.1=q2O s,fun p=>cnt s-p.2.1⟩
noncomputable def x7E (s:ByteArray) (sep:ByteArray) (save:Int) (n:Int):Nat→Option q0M:=fun rg_=>match rg_ with
 |11=>some (qTf s sep save n)
 |_=>none
noncomputable def xDv:=lkR [(232,qUE),(231,qY3)]
theorem xAb:q0C Tryz.prog xDv:=q02 x3e (q02 x5w (q04))
noncomputable def x7T (s:ByteArray) (sep:ByteArray) (save:Int) (n:Int):Cx:=⟨tt,xDv,Tryz.f270.ntmps,[0,1,2,3,8,9,10,11,13,15,20,36,41],[(11,⟨[(0,none),(1,none),(2,none),(3,none),(9,some 1),(10,none)],[]⟩)],[2,4],x7E s sep save n,[],noM,[]⟩
def qKc (s:ByteArray) (x:ByteArray×Nat×List ByteArray):Prop:=x.1.size≤s.size∧x.2.2.length=cnt s+1∧Prod.fst x.2+cnt x.1=cnt s∧List.take x.2.1 x.2.2++q2O x.1=q2O s
noncomputable def q5F (x:ByteArray×Nat×List ByteArray):Int:=(↑x.2.1:Int)
noncomputable def q4Y (s:ByteArray):Int:=(↑ (cnt s):Int)
def qPz (s:ByteArray) (x:ByteArray×Nat×List ByteArray):Prop:=(0≤(q5F x)∧(q5F x)<(↑ (cnt s+1):Int))∧(q5F x).toNat<cnt s+1∧inK IntKind.i64 ((q5F x)+1)∧(0≤(q5F x)+1∧(q5F x)+1≤(↑ (cnt s+1):Int))∧VLe (V.sl ((q5F x)+1).toNat (q65 (gL q4r x.2.2) (q5F x).toNat (V.str x.1)) 2) (q0D q4r 2 (q2O s))
noncomputable def q9p (x:ByteArray×Nat×List ByteArray):Int:=(↑ x.1.size:Int)
def qPS (s:ByteArray) (x:ByteArray×Nat×List ByteArray):Prop:=qKc s x→(decide ((q5F x)<(q4Y s))=true→qWU x.1 top∧(decide (qEv x.1<(0:Int))=true→qPz s x)∧(decide (qEv x.1<(0:Int))=false→inK IntKind.i64 (qEv x.1+(0:Int))∧((0:Int)≤Option.getD none (0:Int)∧Option.getD none (0:Int)≤Option.getD (some (qEv x.1+(0:Int))) (q9p x)∧Option.getD (some (qEv x.1+(0:Int))) (q9p x)≤(q9p x))∧(0≤(q5F x)∧(q5F x)<(↑ (cnt s+1):Int))∧(q5F x).toNat<cnt s+1∧inK IntKind.i64 (qEv x.1+(↑1:Int))∧((0:Int)≤Option.getD (some (qEv x.1+(↑1:Int))) (0:Int)∧Option.getD (some (qEv x.1+(↑1:Int))) (0:Int)≤Option.getD none (q9p x)∧Option.getD none (q9p x)≤(q9p x))∧(inK IntKind.i64 ((q5F x)+1)∧∃y:ByteArray×Nat×List ByteArray,SLe (AS.mk [(0,V.str (ByteArray.extract x.1 (Option.getD (some (qEv x.1+(↑1:Int))) (0:Int)).toNat (Option.getD none (q9p x)).toNat)),(1,V.str top),(2,vi 0),(3,vi (q4Y s)),(9,V.osl 32000640 (cnt s+1)),(10,vi ((q5F x)+1))] [(32000640,Blk.arr 1 (cnt s+1) (q65 (gL q4r x.2.2) (q5F x).toNat (V.str (ByteArray.extract x.1 0 (Option.getD (some (qEv x.1+(0:Int))) (q9p x)).toNat))) 100)]) (AS.mk [(0,V.str y.1),(1,V.str top),(2,vi 0),(3,vi (q4Y s)),(9,V.osl 32000640 (cnt s+1)),(10,vi (↑y.2.1:Int))] [(32000640,Blk.arr 1 (cnt s+1) (gL q4r y.2.2) 100)])∧(y.1.size≤s.size∧y.2.2.length=cnt s+1∧Prod.fst y.2+cnt y.1=cnt s∧List.take y.2.1 y.2.2++q2O y.1=q2O s)∧cnt s-Prod.fst y.2<cnt s-Prod.fst x.2)))∧(decide ((q5F x)<(q4Y s))=false→qPz s x)
noncomputable def q0g (s:ByteArray):Int:=(↑ s.size:Int)
noncomputable def qRb (s:ByteArray) (x:ByteArray×Nat×List ByteArray):AS:=AS.mk [(0,V.str x.1),(1,V.str top),(2,vi 0),(3,vi (q4Y s)),(9,V.osl 32000640 (cnt s+1)),(10,vi (q5F x))] [(32000640,Blk.arr 1 (cnt s+1) (gL q4r x.2.2) 100)]
noncomputable def qP3 (s:ByteArray):Nat:=(if(q0g s)+(1:Int)<(q4Y s)+(1:Int)then(q0g s)+(1:Int)else(q4Y s)+(1:Int)).toNat
theorem x8A (s:ByteArray) (sep:ByteArray) (save:Int) (n:Int) (hpre:qW3 s sep save n):q0d (x7T s sep save n) Tryz.f270 1 [.str (s),.str (sep),.int .i64 (save),.int .i64 (n)] (fun rr=>VLe rr (x1C s sep save n)):=by
 have key:((n==0)=true→False)∧((n==0)=false→(q1t sep (ByteArray.mk #[])=true→False)∧(q1t sep (ByteArray.mk #[])=false→(decide (n<0)=true→qNS s sep∧inK IntKind.i64 ((q4Y s)+1)∧inK IntKind.i64 ((q0g s)+1)∧(((0:Int)≤if(q0g s)+(1:Int)<(q4Y s)+(1:Int)then(q0g s)+(1:Int)else(q4Y s)+(1:Int))∧((if(q0g s)+(1:Int)<(q4Y s)+(1:Int)then(q0g s)+(1:Int)else(q4Y s)+(1:Int))≤if(q0g s)+(1:Int)<(q4Y s)+(1:Int)then(q0g s)+(1:Int)else(q4Y s)+(1:Int))∧(if(q0g s)+(1:Int)<(q4Y s)+(1:Int)then(q0g s)+(1:Int)else(q4Y s)+(1:Int))≤(↑1073741824:Int))∧inK IntKind.i64 ((if(q0g s)+(1:Int)<(q4Y s)+(1:Int)then(q0g s)+(1:Int)else(q4Y s)+(1:Int))-(1:Int))∧((∃x:ByteArray×Nat×List ByteArray,SLe (AS.mk [(0,V.str s),(1,V.str sep),(2,vi save),(3,vi ((if(q0g s)+(1:Int)<(q4Y s)+(1:Int)then(q0g s)+(1:Int)else(q4Y s)+(1:Int))-(1:Int))),(9,V.osl 32000640 (qP3 s)),(10,vi 0)] [(32000640,Blk.arr 1 (qP3 s) (fun(x:Nat) ↦ V.str (ByteArray.mk #[])) 100)]) (qRb s x)∧qKc s x)∧∀x:ByteArray×Nat×List ByteArray,qPS s x))∧(decide (n<0)=false→inK IntKind.i64 ((q0g s)+1)∧(((0:Int)≤if(q0g s)+(1:Int)<n then(q0g s)+(1:Int)else n)∧((if(q0g s)+(1:Int)<n then(q0g s)+(1:Int)else n)≤if(q0g s)+(1:Int)<n then(q0g s)+(1:Int)else n)∧(if(q0g s)+(1:Int)<n then(q0g s)+(1:Int)else n)≤(↑1073741824:Int))∧inK IntKind.i64 ((if(q0g s)+(1:Int)<n then(q0g s)+(1:Int)else n)-(1:Int))∧((∃x:ByteArray×Nat×List ByteArray,SLe (AS.mk [(0,V.str s),(1,V.str sep),(2,vi save),(3,vi ((if(q0g s)+(1:Int)<n then(q0g s)+(1:Int)else n)-(1:Int))),(9,V.osl 32000640 (if(q0g s)+(1:Int)<n then(q0g s)+(1:Int)else n).toNat),(10,vi 0)] [(32000640,Blk.arr 1 (if(q0g s)+(1:Int)<n then(q0g s)+(1:Int)else n).toNat (fun(x:Nat) ↦ V.str (ByteArray.mk #[])) 100)]) (qRb s x)∧qKc s x)∧∀x:ByteArray×Nat×List ByteArray,qPS s x)))):=by
  delta qP3;delta qRb;delta q0g;delta qPS;delta q9p;delta qPz;delta q4Y;delta q5F;delta qKc;delta vi;obtain⟨rfl,rfl,rfl,hs⟩:=hpre;have hc:cnt s≤s.size:=by unfold cnt;rw[q2o];exact List.count_le_length
  have em:(if(s.size:Int)+1<(cnt s:Int)+1 then(s.size:Int)+1 else(cnt s:Int)+1)=(cnt s:Int)+1:=if_neg (by omega);have em2:((cnt s:Int)+1).toNat=cnt s+1:=by omega
  simp only[em,em2];refine⟨fun h=>by simp at h,fun _=>⟨fun h=>?_,fun _=>⟨fun _=>?_,fun h=>by simp at h⟩⟩⟩
  ·rw[q1W]at h;exact absurd (congrArg ByteArray.size (of_decide_eq_true h)) (by decide)
  refine⟨⟨rfl,hs⟩,q0X (by omega),q0X (by omega),⟨by omega,by omega,by omega⟩,q0X (by omega),⟨(s,0,List.replicate (cnt s+1) ByteArray.empty),q1Q ⟨rfl,VLe.refl _,rfl,VLe.refl _,rfl,VLe.refl _,rfl,q0I (by omega),rfl,VLe.refl _,rfl,q0I (by simp),trivial⟩ ⟨rfl,q1P (fun i hi=>ELe.of_eq (x1f hi).symm) (Or.inl rfl),trivial⟩,by simp,by simp,by simp,by simp⟩,?_⟩;rintro⟨r,i,a⟩ ⟨h1,h2,h3,h4⟩;simp only at h1 h2 h3 h4⊢;refine⟨fun h=>?_,fun h=>?_⟩
  ·have hlt:i<cnt s:=by simpa using h
   rcases qUJ 47 r.data.toList with⟨e1,_⟩|⟨p,q,e1,e2,e3⟩
   ·have:cnt r=0:=List.count_eq_zero.2 e1;omega
   ·have hx:qEv r=(p.length:Int):=e3;have hr:r.size=p.length+1+q.length:=by rw[q2o,e1];simp;omega
    have hq:cnt r=cnt (ba q)+1:=by
     have:p.count 47=0:=List.count_eq_zero.2 e2;unfold cnt;rw[e1,q8R,List.count_append,List.count_cons_self,this,Nat.zero_add]
    have x1:r.extract 0 p.length=ba p:=q4d (by rw[q3Z,e1];simp);have x2:r.extract (p.length+1) r.size=ba q:=q4d (by
     rw[q3Z,e1,hr];have:p.length+1+q.length-(p.length+1)=q.length:=by omega
     rw[this];simp)
    have n1:((p.length:Int)+((1:Nat):Int)).toNat=p.length+1:=by omega
    have n2:((p.length:Int)+1).toNat=p.length+1:=by omega
    simp only[hx,Option.getD_some,Option.getD_none,Int.add_zero,Int.toNat_natCast,n1,n2,x1,x2];refine⟨rfl,fun h=>?_,fun _=>⟨q0X (by omega),⟨by omega,by omega,by omega⟩,⟨by omega,by omega⟩,by omega,q0X (by omega),⟨by omega,by omega,by omega⟩,q0X (by omega),(ba q,i+1,a.set i (ba p)),?_,⟨?_,by simpa using h2,?_,?_⟩,?_⟩⟩
    ·have:=of_decide_eq_true h;omega
    ·exact q1Q ⟨rfl,VLe.refl _,rfl,VLe.refl _,rfl,VLe.refl _,rfl,VLe.refl _,rfl,VLe.refl _,rfl,q0I (by simp),trivial⟩ ⟨rfl,qO5 (by rw[qV0 (by omega)]),trivial⟩
    ·show(ba q).size≤s.size;rw[qGd];omega
    ·simp only;omega
    ·show(a.set i (ba p)).take (i+1)++q2O (ba q)=q2O s;rw[qFQ _ _ _ (by omega),List.append_assoc,List.singleton_append,←qSr e1 e2,h4]
    ·simp only;omega
  ·have hge:i=cnt s:=by
    have:=of_decide_eq_false h;omega
   have hz:cnt r=0:=by omega
   have e1:q2O r=[r]:=qR7 (List.count_eq_zero.1 hz);have e2:a.set i r=q2O s:=by
    rw[←h4,e1,←qFQ r a i (by omega),List.take_of_length_le (by rw[List.length_set];omega)]
   refine⟨⟨by omega,by omega⟩,by simp;omega,q0X (by omega),⟨by omega,by omega⟩,?_⟩;rw[Int.toNat_natCast,qV0 (by omega),e2];exact q4i (by rw[←e2,List.length_set];omega) (fun k hk=>by simp[gL,hk]) (Or.inl rfl)
 exact Eq.mp (by kernel_rfl) key
theorem x8X:q0R Tryz.prog 270 qVL:=by
 refine sob 1 Tryz.func270 fun args bin ob r bout hDe hob=>?_;unfold qVL at hDe;split at hDe
 ·rename_i a0 a1 a2 a3;cases hDe;exact okB (x8A a0 a1 a2 a3 (hob)) xAb (args_of_vles ⟨VLe.refl _,VLe.refl _,VLe.refl _,VLe.refl _,trivial⟩)
 ·cases hDe
def qRU (s:ByteArray) (sep:ByteArray):Prop:=sep=top∧s.size≤1000
noncomputable def qZw (s:ByteArray) (sep:ByteArray):V:=q0D q4r 2 (q2O s)
noncomputable def qYs:q0P:=fun args bin=>match args,bin with
 |[.str a0,.str a1],[]=>some (qRU a0 a1,qZw a0 a1,[])
 |_,_=>none
noncomputable def xEQ:=lkR [(270,qVL)]
theorem xBI:q0C Tryz.prog xEQ:=q02 x8X (q04)
noncomputable def x4w (s:ByteArray) (sep:ByteArray):=cxN xEQ Tryz.f233 [0,1,4]
theorem x9o (s:ByteArray) (sep:ByteArray) (hpre:qRU s sep):q0d (x4w s sep) Tryz.f233 1 [.str (s),.str (sep)] (fun rr=>VLe rr (qZw s sep)):=by
 have key:qW3 s sep (0:Int) (-1:Int)∧VLe (q0D q4r 2 (q2O s)) (q0D q4r 2 (q2O s)):=by
  exact⟨⟨hpre.1,rfl,rfl,hpre.2⟩,VLe.refl _⟩
 exact Eq.mp (by kernel_rfl) key
theorem xBZ:q0R Tryz.prog 233 qYs:=by
 refine sob 1 Tryz.func233 fun args bin ob r bout hDe hob=>?_;unfold qYs at hDe;split at hDe
 ·rename_i a0 a1;cases hDe;exact okB (x9o a0 a1 (hob)) xBI (args_of_vles ⟨VLe.refl _,VLe.refl _,trivial⟩)
 ·cases hDe
def q64 (n:Int) (low:Int) (high:Int):Prop:=True
noncomputable def x0U (n:Int) (low:Int) (high:Int):V:=.bool (decide (inR n low high))
noncomputable def q9i:q0P:=fun args bin=>match args,bin with
 |[.int .i64 a0,.int .i64 a1,.int .i64 a2],[]=>some (q64 a0 a1 a2,x0U a0 a1 a2,[])
 |_,_=>none
noncomputable def xET:=lkR []
theorem xCJ:q0C Tryz.prog xET:=q04
noncomputable def x8w (n:Int) (low:Int) (high:Int):=cxN xET Tryz.f120 [0,1,2,6]
theorem x9l (n:Int) (low:Int) (high:Int) (hpre:q64 n low high):q0d (x8w n low high) Tryz.f120 0 [.int .i64 (n),.int .i64 (low),.int .i64 (high)] (fun rr=>VLe rr (x0U n low high)):=by
 have key:tq (decide (low≤n))∧tq (decide (low≤n))∧((true=true→decide (low≤n)=true→decide (low≤n)=true)∧∀b:Bool,(b=bif decide (low≤n)then decide (n≤high)else false)→VLe (V.bool b) (V.bool (decide (inR n low high)))):=by
  repeat (first|(refine And.intro (fun h _=>h) ?_)|(refine And.intro (fun _ h=>h) ?_)|(refine And.intro ?aa ?_;case aa=>(simp[];done))|(refine And.intro ?aa ?_;case aa=>(simp_all [];done))|(refine And.intro ?aa ?_;case aa=>(intros;exact q0X (by omega)))|(refine And.intro ?aa ?_;case aa=>(intros;simp only[decide_eq_true_eq]at *;omega))|(intro q hq))
  subst_vars
  refine q0Z ?_;rw[Bool.eq_iff_iff];simp
  try simp only[inR]
  try omega
 exact Eq.mp (by kernel_rfl) key
theorem qBu:q0R Tryz.prog 120 q9i:=by
 refine sob 0 Tryz.func120 fun args bin ob r bout hDe hob=>?_;unfold q9i at hDe;split at hDe
 ·rename_i a0 a1 a2;cases hDe;exact okB (x9l a0 a1 a2 (hob)) xCJ (args_of_vles ⟨VLe.refl _,VLe.refl _,VLe.refl _,trivial⟩)
 ·cases hDe
def q62 (n:Int) (low:Int) (high:Int):Prop:=True
noncomputable def qZY (n:Int) (low:Int) (high:Int):V:=.bool (decide (inR n low high))
noncomputable def qA8:q0P:=fun args bin=>match args,bin with
 |[.int .i64 a0,.int .i64 a1,.int .i64 a2],[]=>some (q62 a0 a1 a2,qZY a0 a1 a2,[])
 |_,_=>none
noncomputable def xF5:=lkR []
theorem xCB:q0C Tryz.prog xF5:=q04
noncomputable def x8Z (n:Int) (low:Int) (high:Int):=cxN xF5 Tryz.f151 [0,1,2,6]
theorem x4Y (n:Int) (low:Int) (high:Int) (hpre:q62 n low high):q0d (x8Z n low high) Tryz.f151 0 [.int .i64 (n),.int .i64 (low),.int .i64 (high)] (fun rr=>VLe rr (qZY n low high)):=by
 have key:tq (decide (n≥low))∧tq (decide (n≥low))∧((true=true→decide (n≥low)=true→decide (n≥low)=true)∧∀b:Bool,(b=bif decide (n≥low)then decide (n≤high)else false)→VLe (V.bool b) (V.bool (decide (inR n low high)))):=by
  repeat (first|(refine And.intro (fun h _=>h) ?_)|(refine And.intro (fun _ h=>h) ?_)|(refine And.intro ?aa ?_;case aa=>(simp[];done))|(refine And.intro ?aa ?_;case aa=>(simp_all [];done))|(refine And.intro ?aa ?_;case aa=>(intros;exact q0X (by omega)))|(refine And.intro ?aa ?_;case aa=>(intros;simp only[decide_eq_true_eq]at *;omega))|(intro q hq))
  subst_vars
  refine q0Z ?_;rw[Bool.eq_iff_iff];simp
  try simp only[inR]
  try omega
 exact Eq.mp (by kernel_rfl) key
theorem qBp:q0R Tryz.prog 151 qA8:=by
 refine sob 0 Tryz.func151 fun args bin ob r bout hDe hob=>?_;unfold qA8 at hDe;split at hDe
 ·rename_i a0 a1 a2;cases hDe;exact okB (x4Y a0 a1 a2 (hob)) xCB (args_of_vles ⟨VLe.refl _,VLe.refl _,VLe.refl _,trivial⟩)
 ·cases hDe
def qGs (s:ByteArray):Prop:=s.size≤1000
noncomputable def x03 (s:ByteArray):V:=.bool (decide (q5j s))
noncomputable def qT9:q0P:=fun args bin=>match args,bin with
 |[.str a0],[]=>some (qGs a0,x03 a0,[])
 |_,_=>none
noncomputable def qWq (s:ByteArray):q0M:=
 ⟨Nat,fun i=>⟨[(0,.str s),(5,.int .i64 s.size),(6,.int .i64 i)],[]⟩,fun i=>i≤s.size∧∀j:Nat,j<i→qLd (q0i s j),fun i=>s.size-i⟩
noncomputable def x4d (s:ByteArray):Nat→Option q0M:=fun rg_=>match rg_ with
 |2=>some (qWq s)
 |_=>none
noncomputable def xF9:=lkR [(120,q9i)]
theorem x6Z:q0C Tryz.prog xF9:=q02 qBu (q04)
noncomputable def xBy (s:ByteArray):=cxL xF9 Tryz.f234 [0,2,3,5,6,7,30] [(2,⟨[(0,none),(5,none),(6,none)],[]⟩)] (x4d s) []
def q99 (s:ByteArray) (x:Nat):Prop:=0≤(↑x:Int)∧(↑x:Int)<(q0g s)
theorem x7a (s:ByteArray) (hpre:qGs s):q0d (xBy s) Tryz.f234 0 [.str (s)] (fun rr=>VLe rr (x03 s)):=by
 have key:((∃x:Nat,SLe (AS.mk [(0,V.str s),(5,vi (q0g s)),(6,vi 0)] []) (AS.mk [(0,V.str s),(5,vi (q0g s)),(6,vi (↑x:Int))] [])∧(x≤s.size∧∀j:Nat,j<x→qLd (q0i s (↑j:Int))))∧∀x:Nat,(x≤s.size∧∀j:Nat,j<x→qLd (q0i s (↑j:Int)))→(decide ((↑x:Int)<(q0g s))=true→q99 s x∧tq (!decide (q0i s (↑x:Int)<(97:Int)))∧tq (!decide (q0i s (↑x:Int)<(97:Int)))∧((!decide (q0i s (↑x:Int)<(97:Int)))=true→q99 s x)∧tq (!decide (q0i s (↑x:Int)<(97:Int)))∧((true=true→decide (q0i s (↑x:Int)<(97:Int))=false→(!decide (q0i s (↑x:Int)<(97:Int)))=true)∧∀b:Bool,(b=bif decide (q0i s (↑x:Int)<(97:Int))then true else decide (q0i s (↑x:Int)>(122:Int)))→tq b∧tq b∧(b=true→q99 s x)∧tq b∧tq b∧tq (b&& !decide (q0i s (↑x:Int)<(48:Int)))∧tq (b&& !decide (q0i s (↑x:Int)<(48:Int)))∧((b&& !decide (q0i s (↑x:Int)<(48:Int)))=true→q99 s x)∧tq (b&& !decide (q0i s (↑x:Int)<(48:Int)))∧tq b∧((b=true→b=true→decide (q0i s (↑x:Int)<(48:Int))=false→(b&& !decide (q0i s (↑x:Int)<(48:Int)))=true)∧∀b_1:Bool,(b_1=bif decide (q0i s (↑x:Int)<(48:Int))then true else decide (q0i s (↑x:Int)>(57:Int)))→((true=true→b=true→b=true)∧∀b_2:Bool,(b_2=bif b then b_1 else false)→(b_2=true→VLe (V.bool false) (V.bool (decide (q5j s))))∧(b_2=false→(inK IntKind.i64 ((↑x:Int)+1)∧∃y:Nat,SLe (AS.mk [(0,V.str s),(5,vi (q0g s)),(6,vi ((↑x:Int)+1))] []) (AS.mk [(0,V.str s),(5,vi (q0g s)),(6,vi (↑y:Int))] [])∧(y≤s.size∧∀j:Nat,j<y→qLd (q0i s (↑j:Int)))∧s.size-y<s.size-x))))))∧(decide ((↑x:Int)<(q0g s))=false→q64 (q0g s) (1:Int) (8:Int)∧VLe (V.bool (decide (inR (q0g s) (1:Int) (8:Int)))) (V.bool (decide (q5j s))))):=by
  delta q99;delta q0g;delta vi;unfold qGs at hpre;refine⟨⟨0,SLe.refl _,by omega,fun j hj=>by omega⟩,?_⟩;rintro i ⟨hi,hj⟩;refine⟨fun h=>?_,fun h=>?_⟩
  ·have hlt:i<s.size:=by simpa using h
   refine⟨by omega,?_⟩
   repeat (first|(refine And.intro (fun h _=>h) ?_)|(refine And.intro (fun _ h=>h) ?_)|(refine And.intro ?aa ?_;case aa=>(exact(fun _=>⟨by omega,by omega⟩)))|(refine And.intro ?aa ?_;case aa=>(intros;simp_all [q64];done))|(refine And.intro ?aa ?_;case aa=>(intros;exact q0X (by omega)))|(refine And.intro ?aa ?_;case aa=>(intros;simp only[decide_eq_true_eq]at *;omega))|(intro q hq))
   have e0:q=decide (¬qLd (q0i s i)):=by
    subst_vars
    rw[Bool.eq_iff_iff,decide_eq_true_eq];unfold qLd;by_cases a1:q0i s i<97<;>by_cases a2:q0i s i>122<;>by_cases a3:q0i s i<48<;>by_cases a4:q0i s i>57<;>simp[a1,a2,a3,a4]<;>omega
   clear hq;refine⟨fun h2=>q0Z ?_,fun h2=>⟨q0X (by omega),i+1,SLe.refl _,⟨by omega,fun j h3=>?_⟩,by omega⟩⟩
   ·rw[e0]at h2
    symm
    exact decide_eq_false fun g=>of_decide_eq_true h2 (g.1 i hlt)
   ·rw[e0]at h2;rcases Nat.lt_or_ge j i with h4|h4
    ·exact hj j h4
    ·have:j=i:=by omega
     subst this;exact Classical.not_not.1 (of_decide_eq_false h2)
  ·have hge:i=s.size:=by simp at h;omega
   subst hge;refine⟨trivial,q0Z ?_⟩;rw[Bool.eq_iff_iff,decide_eq_true_eq,decide_eq_true_eq];unfold inR;exact⟨fun g=>⟨hj,by omega,by omega⟩,fun g=>by have:=g.2;omega⟩
 exact Eq.mp (by kernel_rfl) key
theorem qZT:q0R Tryz.prog 234 qT9:=by
 refine sob 0 Tryz.func234 fun args bin ob r bout hDe hob=>?_;unfold qT9 at hDe;split at hDe
 ·rename_i a0;cases hDe;exact okB (x7a a0 (hob)) x6Z (args_of_vles ⟨VLe.refl _,trivial⟩)
 ·cases hDe
def qMl (s:ByteArray):Prop:=s.size≤1000
noncomputable def x2w (s:ByteArray):V:=.bool (decide (q5j s))
noncomputable def qTq:q0P:=fun args bin=>match args,bin with
 |[.str a0],[]=>some (qMl a0,x2w a0,[])
 |_,_=>none
noncomputable def qWk (s:ByteArray):q0M:=
 ⟨Nat,fun i=>⟨[(0,.str s),(3,.int .i64 i)],[]⟩,fun i=>i≤s.size∧∀j:Nat,j<i→qLd (q0i s j),fun i=>s.size-i⟩
noncomputable def xCr (s:ByteArray):Nat→Option q0M:=fun rg_=>match rg_ with
 |2=>some (qWk s)
 |_=>none
noncomputable def xEN:=lkR [(151,qA8)]
theorem x6P:q0C Tryz.prog xEN:=q02 qBp (q04)
noncomputable def x7Y (s:ByteArray):=cxL xEN Tryz.f251 [0,2,3,7,31] [(2,⟨[(0,none),(3,none)],[]⟩)] (xCr s) []
theorem x5u (s:ByteArray) (hpre:qMl s):q0d (x7Y s) Tryz.f251 0 [.str (s)] (fun rr=>VLe rr (x2w s)):=by
 have key:((∃x:Nat,SLe (AS.mk [(0,V.str s),(3,vi 0)] []) (AS.mk [(0,V.str s),(3,vi (↑x:Int))] [])∧(x≤s.size∧∀j:Nat,j<x→qLd (q0i s (↑j:Int))))∧∀x:Nat,(x≤s.size∧∀j:Nat,j<x→qLd (q0i s (↑j:Int)))→(decide ((↑x:Int)<(q0g s))=true→q99 s x∧tq (!decide (q0i s (↑x:Int)<(97:Int)))∧tq (!decide (q0i s (↑x:Int)<(97:Int)))∧((!decide (q0i s (↑x:Int)<(97:Int)))=true→q99 s x)∧tq (!decide (q0i s (↑x:Int)<(97:Int)))∧((true=true→decide (q0i s (↑x:Int)<(97:Int))=false→(!decide (q0i s (↑x:Int)<(97:Int)))=true)∧∀b:Bool,(b=bif decide (q0i s (↑x:Int)<(97:Int))then true else decide (q0i s (↑x:Int)>(122:Int)))→tq b∧tq b∧(b=true→q99 s x)∧tq b∧tq b∧tq (b&& !decide (q0i s (↑x:Int)<(48:Int)))∧tq (b&& !decide (q0i s (↑x:Int)<(48:Int)))∧((b&& !decide (q0i s (↑x:Int)<(48:Int)))=true→q99 s x)∧tq (b&& !decide (q0i s (↑x:Int)<(48:Int)))∧tq b∧((b=true→b=true→decide (q0i s (↑x:Int)<(48:Int))=false→(b&& !decide (q0i s (↑x:Int)<(48:Int)))=true)∧∀b_1:Bool,(b_1=bif decide (q0i s (↑x:Int)<(48:Int))then true else decide (q0i s (↑x:Int)>(57:Int)))→((true=true→b=true→b=true)∧∀b_2:Bool,(b_2=bif b then b_1 else false)→(b_2=true→VLe (V.bool false) (V.bool (decide (q5j s))))∧(b_2=false→(inK IntKind.i64 ((↑x:Int)+1)∧∃y:Nat,SLe (AS.mk [(0,V.str s),(3,vi ((↑x:Int)+1))] []) (AS.mk [(0,V.str s),(3,vi (↑y:Int))] [])∧(y≤s.size∧∀j:Nat,j<y→qLd (q0i s (↑j:Int)))∧s.size-y<s.size-x))))))∧(decide ((↑x:Int)<(q0g s))=false→q62 (q0g s) (1:Int) (8:Int)∧VLe (V.bool (decide (inR (q0g s) (1:Int) (8:Int)))) (V.bool (decide (q5j s))))):=by
  delta q99;delta q0g;delta vi;unfold qMl at hpre;refine⟨⟨0,SLe.refl _,by omega,fun j hj=>by omega⟩,?_⟩;rintro i ⟨hi,hj⟩;refine⟨fun h=>?_,fun h=>?_⟩
  ·have hlt:i<s.size:=by simpa using h
   refine⟨by omega,?_⟩
   repeat (first|(refine And.intro (fun h _=>h) ?_)|(refine And.intro (fun _ h=>h) ?_)|(refine And.intro ?aa ?_;case aa=>(exact(fun _=>⟨by omega,by omega⟩)))|(refine And.intro ?aa ?_;case aa=>(intros;simp_all [q62];done))|(refine And.intro ?aa ?_;case aa=>(intros;exact q0X (by omega)))|(refine And.intro ?aa ?_;case aa=>(intros;simp only[decide_eq_true_eq]at *;omega))|(intro q hq))
   have e0:q=decide (¬qLd (q0i s i)):=by
    subst_vars
    rw[Bool.eq_iff_iff,decide_eq_true_eq];unfold qLd;by_cases a1:q0i s i<97<;>by_cases a2:q0i s i>122<;>by_cases a3:q0i s i<48<;>by_cases a4:q0i s i>57<;>simp[a1,a2,a3,a4]<;>omega
   clear hq;refine⟨fun h2=>q0Z ?_,fun h2=>⟨q0X (by omega),i+1,SLe.refl _,⟨by omega,fun j h3=>?_⟩,by omega⟩⟩
   ·rw[e0]at h2
    symm
    exact decide_eq_false fun g=>of_decide_eq_true h2 (g.1 i hlt)
   ·rw[e0]at h2;rcases Nat.lt_or_ge j i with h4|h4
    ·exact hj j h4
    ·have:j=i:=by omega
     subst this;exact Classical.not_not.1 (of_decide_eq_false h2)
  ·have hge:i=s.size:=by simp at h;omega
   subst hge;refine⟨trivial,q0Z ?_⟩;rw[Bool.eq_iff_iff,decide_eq_true_eq,decide_eq_true_eq];unfold inR;exact⟨fun g=>⟨hj,by omega,by omega⟩,fun g=>by have:=g.2;omega⟩
 exact Eq.mp (by kernel_rfl) key
theorem qZ3:q0R Tryz.prog 251 qTq:=by
 refine sob 0 Tryz.func251 fun args bin ob r bout hDe hob=>?_;unfold qTq at hDe;split at hDe
 ·rename_i a0;cases hDe;exact okB (x5u a0 (hob)) x6P (args_of_vles ⟨VLe.refl _,trivial⟩)
 ·cases hDe
def qNO (s:ByteArray) (c:Int):Prop:=c=47∧s.size≤1000
noncomputable def x3U (s:ByteArray) (c:Int):V:=q0D q4r 2 (q2O s)
noncomputable def qTe:q0P:=fun args bin=>match args,bin with
 |[.str a0,.int .u8 a1],[]=>some (qNO a0 a1,x3U a0 a1,[])
 |_,_=>none
noncomputable def qVQ (s:ByteArray) (c:Int):q0M:=
 ⟨Nat×Nat×List ByteArray,fun p=>⟨[(0,.str s),(1,.int .u8 47),(5,.osl (q25 5) p.2.2.length),(6,.int .i64 p.1),(7,.int .i64 p.2.1)],[(q25 5,.arr 1 p.2.2.length (gL q4r p.2.2) q0l)]⟩,
  fun p=>qRy s p.1 p.2.1 p.2.2,fun p=>s.size+1-p.2.1⟩
noncomputable def x5F (s:ByteArray) (c:Int):Nat→Option q0M:=fun rg_=>match rg_ with
 |4=>some (qVQ s c)
 |_=>none
noncomputable def xCx:=lkR []
theorem x56:q0C Tryz.prog xCx:=q04
noncomputable def xBi (s:ByteArray) (c:Int):=cxL xCx Tryz.f246 [0,1,4,5,6,7,12,25] [(4,⟨[(0,none),(1,none),(5,some 1),(6,none),(7,none)],[]⟩)] (x5F s c) []
noncomputable def q41 (x:Nat×Nat×List ByteArray):Int:=(↑x.2.1:Int)
noncomputable def qIE:Nat×V:=(1,V.int IntKind.u8 (47:Int))
noncomputable def qPl (s:ByteArray) (y:Nat×Nat×List ByteArray):AS:=AS.mk [(0,V.str s),qIE,(5,V.osl 32000384 y.2.2.length),(6,vi (↑y.1:Int)),(7,vi (↑y.2.1:Int))] [(32000384,Blk.arr 1 y.2.2.length (gL q4r y.2.2) 100)]
noncomputable def qNm (s:ByteArray) (x:Nat×Nat×List ByteArray):Nat→V:=q3C [V.str (ByteArray.extract s (Option.getD (some (↑x.1:Int)) (0:Int)).toNat (Option.getD (some (q41 x)) (q0g s)).toNat)]
theorem xAn (s:ByteArray) (c:Int) (hpre:qNO s c):q0d (xBi s c) Tryz.f246 1 [.str (s),.int .u8 (c)] (fun rr=>VLe rr (x3U s c)):=by
 have key:((∃x:Nat×Nat×List ByteArray,SLe (AS.mk [(0,V.str s),(1,V.int IntKind.u8 c),(5,V.osl 32000384 0),(6,vi 0),(7,vi 0)] [(32000384,Blk.arr 1 0 (q3C []) 100)]) (AS.mk [(0,V.str s),qIE,(5,V.osl 32000384 x.2.2.length),(6,vi (↑x.1:Int)),(7,vi (q41 x))] [(32000384,Blk.arr 1 x.2.2.length (gL q4r x.2.2) 100)])∧qRy s x.1 x.2.1 x.2.2)∧∀x:Nat×Nat×List ByteArray,qRy s x.1 x.2.1 x.2.2→(decide ((q41 x)≤(q0g s))=true→tq (! (q41 x)==(q0g s))∧tq (! (q41 x)==(q0g s))∧((! (q41 x)==(q0g s))=true→0≤(q41 x)∧(q41 x)<(q0g s))∧tq (! (q41 x)==(q0g s))∧tq (! (q41 x)==(q0g s))∧((true=true→((q41 x)==(q0g s))=false→(! (q41 x)==(q0g s))=true)∧∀b:Bool,(b=bif (q41 x)==(q0g s)then true else q0i s (q41 x)==(47:Int))→(b=true→((0:Int)≤Option.getD (some (↑x.1:Int)) (0:Int)∧Option.getD (some (↑x.1:Int)) (0:Int)≤Option.getD (some (q41 x)) (q0g s)∧Option.getD (some (q41 x)) (q0g s)≤(q0g s))∧x.2.2.length=x.2.2.length∧x.2.2.length+1≤1073741824∧q13 1 1 (qNm s x)∧inK IntKind.i64 ((q41 x)+1)∧(inK IntKind.i64 ((q41 x)+1)∧∃y:Nat×Nat×List ByteArray,SLe (AS.mk [(0,V.str s),qIE,(5,V.osl 32000384 (x.2.2.length+1)),(6,vi ((q41 x)+1)),(7,vi ((q41 x)+1))] [(32000384,Blk.arr 1 (x.2.2.length+1) (q3K x.2.2.length (gL q4r x.2.2) (qNm s x)) 100)]) (qPl s y)∧qRy s y.1 y.2.1 y.2.2∧s.size+1-Prod.fst y.2<s.size+1-Prod.fst x.2))∧(b=false→(inK IntKind.i64 ((q41 x)+1)∧∃y:Nat×Nat×List ByteArray,SLe (AS.mk [(0,V.str s),qIE,(5,V.osl 32000384 x.2.2.length),(6,vi (↑x.1:Int)),(7,vi ((q41 x)+1))] [(32000384,Blk.arr 1 x.2.2.length (gL q4r x.2.2) 100)]) (qPl s y)∧qRy s y.1 y.2.1 y.2.2∧s.size+1-Prod.fst y.2<s.size+1-Prod.fst x.2))))∧(decide ((q41 x)≤(q0g s))=false→VLe (q0D q4r 2 x.2.2) (q0D q4r 2 (q2O s)))):=by
  delta qNm;delta qPl;delta qIE;delta q41;delta q0g;delta vi;obtain⟨rfl,hs⟩:=hpre;refine⟨⟨(0,0,[]),q1Q ⟨rfl,VLe.refl _,rfl,VLe.refl _,rfl,VLe.refl _,rfl,VLe.refl _,rfl,VLe.refl _,trivial⟩ ⟨rfl,q3G _,trivial⟩,qNG s⟩,?_⟩;rintro⟨f,i,out⟩ hI;simp only at hI⊢;refine⟨fun h=>?_,fun h=>?_⟩
  ·have hle:i≤s.size:=by simpa using h
   have hf:=(hI.2.2.1 hle).1;have hol:=hI.2.1
   repeat (first|(refine And.intro (fun h _=>h) ?_)|(refine And.intro (fun _ h=>h) ?_)|(refine And.intro ?aa ?_;case aa=>(exact(fun h=>by simp at h;omega)))|(refine And.intro ?aa ?_;case aa=>(intros;simp_all [];done))|(refine And.intro ?aa ?_;case aa=>(intros;exact q0X (by omega)))|(refine And.intro ?aa ?_;case aa=>(intros;simp only[decide_eq_true_eq]at *;omega))|(intro q hq))
   have e0:q=decide (i=s.size∨q0i s i=47):=by
    subst_vars
    rw[Bool.eq_iff_iff,decide_eq_true_eq];by_cases a1:i=s.size
    ·simp[a1]
    ·have:((i:Int)==(s.size:Int))=false:=by rw[beq_eq_false_iff_ne];omega
     simp[a1,this]
   clear hq;simp only[Option.getD_some,Int.toNat_natCast];refine⟨fun h2=>?_,fun h2=>?_⟩
   ·rw[e0]at h2;refine⟨⟨by omega,by omega,by omega⟩,trivial,by omega,fun k hk=>?_,q0X (by omega),q0X (by omega),(i+1,i+1,out++[s.extract f i]),?_,qUA hI hle (of_decide_eq_true h2),by simp only;omega⟩
    ·have hk0:k=0:=by omega
     subst hk0;exact⟨rfl,rfl⟩
    ·simp only[List.length_append,List.length_singleton];exact q1Q ⟨rfl,VLe.refl _,rfl,VLe.refl _,rfl,VLe.refl _,rfl,VLe.refl _,rfl,VLe.refl _,trivial⟩ ⟨rfl,q66 rfl rfl,trivial⟩
   ·rw[e0]at h2;have h3:=of_decide_eq_false h2;refine⟨q0X (by omega),(f,i+1,out),SLe.refl _,qX5 hI (by omega) fun e=>h3 (Or.inr e),by simp only;omega⟩
  ·have:i=s.size+1:=by
    have:=hI.1;simp at h;omega
   rw[hI.2.2.2 this];exact VLe.refl _
 exact Eq.mp (by kernel_rfl) key
theorem x2Q:q0R Tryz.prog 246 qTe:=by
 refine sob 1 Tryz.func246 fun args bin ob r bout hDe hob=>?_;unfold qTe at hDe;split at hDe
 ·rename_i a0 a1;cases hDe;exact okB (xAn a0 a1 (hob)) x56 (args_of_vles ⟨VLe.refl _,VLe.refl _,trivial⟩)
 ·cases hDe
def q5l {α:Type} (q:α→Bool) (xs:List α):Int:=match xs.findIdx? q with
 |some i=>i
 |none=>-1
theorem q4b {α:Type} [Inhabited α] {q:α→Bool} {xs:List α} (h:∀j,j<xs.length→q (xs.getD j default)=false):q5l q xs=-1:=by
 unfold q5l;have:xs.findIdx? q=none:=by
  rw[List.findIdx?_eq_none_iff];intro x hx;obtain⟨j,hj,rfl⟩:=List.getElem_of_mem hx;have:=h j hj;simpa[hj]using this
 rw[this]
theorem q3i {α:Type} [Inhabited α] {q:α→Bool} {xs:List α} {i:Nat} (hi:i<xs.length) (h:∀j,j<i→q (xs.getD j default)=false) (hq:q (xs.getD i default)=true):q5l q xs=i:=by
 unfold q5l;have:xs.findIdx? q=some i:=by
  rw[List.findIdx?_eq_some_iff_getElem];refine⟨hi,by simpa[hi]using hq,fun j hj=>?_⟩;have:=h j hj;have hjl:j<xs.length:=by omega
  simpa[hjl]using this
 rw[this]
theorem q6O {α:Type} (q:α→Bool) (xs:List α):decide (0≤q5l q xs)=xs.any q:=by
 unfold q5l;cases h:xs.findIdx? q with
 |none=>
  rw[List.findIdx?_eq_none_iff]at h;have:xs.any q=false:=by rw[List.any_eq_false];intro x hx;simp[h x hx]
  simp[this]
 |some i=>
  obtain⟨hi,hp,_⟩:=List.findIdx?_eq_some_iff_getElem.1 h;have:xs.any q=true:=List.any_eq_true.2 ⟨xs[i],List.getElem_mem hi,hp⟩;simp[this]
theorem q9u {α:Type} [Inhabited α] {q:α→Bool} {xs:List α} {i:Nat} (h:q5l q xs=(i:Int)):i<xs.length∧q (xs.getD i default)=true∧∀j,j<i→q (xs.getD j default)=false:=by
 unfold q5l at h;cases hf:xs.findIdx? q with
 |none=>
  rw[hf]at h;exact absurd (show(-1:Int)=i from h) (by omega)
 |some k=>
  rw[hf]at h;have hk:k=i:=by
   have:(k:Int)=i:=h;omega
  subst hk;obtain⟨h1,h2,h3⟩:=List.findIdx?_eq_some_iff_getElem.1 hf;refine⟨h1,by simpa[h1]using h2,fun j hj=>?_⟩;have hjl:j<xs.length:=by omega
  have:=h3 j hj;simpa[hjl]using this
theorem qW9 {α:Type} (q:α→Bool) (xs:List α): -1≤q5l q xs:=by
 unfold q5l;split<;>omega
def q1s (e:Nat→Int):Nat→Int
 |0=>0
 |n+1=>if q1s e n≠0 then q1s e n else e n
theorem q5T {e:Nat→Int} {i:Nat} (h:q1s e i=0) (hi:e i≠0):∀n,i<n→q1s e n=e i
 |0,g=>by omega
 |n+1,g=>by
  unfold q1s;by_cases c:i=n
  ·subst c;rw[if_neg (by simpa using h)]
  ·have:=q5T h hi n (by omega);rw[this,if_pos hi]
theorem q4F {e:Nat→Int} {i:Nat} (h:q1s e i=0) (hi:e i=0):q1s e (i+1)=0:=by
 unfold q1s;rw[if_neg (by simpa using h),hi]
theorem q7H {e:Nat→Int}:∀{n:Nat},q1s e n=0→∀i,i<n→e i=0
 |0,_,i,h=>by omega
 |n+1,h,i,hi=>by
  unfold q1s at h;split at h
  ·rename_i c;exact absurd h c
  ·rename_i c;by_cases e1:i=n
   ·subst e1;exact h
   ·exact q7H (Classical.not_not.1 c) i (by omega)
def q3j (n:Nat) (left:Int):Int:=if left-n<0 then -1 else left-n
theorem q8m (n:Nat) (left:Int):q3j n left≤left∨q3j n left<0:=by unfold q3j;split<;>omega
theorem qTN {n:Nat} {left:Int} (h:¬q3j n left<0):(n:Int)≤left:=by unfold q3j at h;split at h<;>omega
def szA {α:Type} (f:α→Int→Int):List α→Int→Int
 |[],v=>v
 |x::r,v=>if f x v<0 then -1 else szA f r (f x v)
def szS {α:Type} (f:α→Int→Int) (xs:List α) (left:Int):Int:=if left-xs.length<0 then -1 else szA f xs (left-xs.length)
theorem qJQ {α:Type} {f:α→Int→Int} {xs:List α} {left:Int} (h:left-xs.length<0):szS f xs left=-1:=if_pos h
theorem qJ1 {α:Type} {f:α→Int→Int} {xs:List α} {left:Int} (h:¬left-xs.length<0):szS f xs left=szA f (xs.drop 0) (left-xs.length):=if_neg h
theorem qG4 {α:Type} [Inhabited α] (f:α→Int→Int) {xs:List α} {i:Nat} (h:i<xs.length) (v:Int):szA f (xs.drop i) v=if f (xs.getD i default) v<0 then -1 else szA f (xs.drop (i+1)) (f (xs.getD i default) v):=by
 have e:xs.getD i default=xs[i]:=by simp[h]
 rw[List.drop_eq_getElem_cons h,e];rfl
theorem qRl {α:Type} {f:α→Int→Int} {xs:List α} {left:Int} (h:¬szS f xs left<0):(xs.length:Int)≤left:=by
 unfold szS at h;split at h<;>omega
section
variable {α:Type} [Inhabited α]
def qI4 (p:α→Bool):List α→Nat
 |[]=>0
 |x::r=>if p x=true then qI4 p r+1 else 0
theorem qJJ {p:α→Bool}:∀{l:List α} {i:Nat},i≤l.length→(∀k,k<i→p (l.getD k default)=true)→(i<l.length→p (l.getD i default)=false)→qI4 p l=i
 |[],i,hi,_,_=>by simp at hi;simp[qI4,hi]
 |x::r,0,_,_,h=>by
  have:=h (by simp);simp at this;simp[qI4,this]
 |x::r,i+1,hi,h1,h2=>by
  have h0:=h1 0 (by omega);simp at h0;have:=qJJ (l:=r) (i:=i) (by simpa using hi) (fun k hk=>by simpa using h1 (k+1) (by omega)) (fun hk=>by simpa using h2 (by simpa using hk));simp[qI4,h0,this]
omit [Inhabited α] in
theorem q9R {p:α→Bool}:∀{l:List α},qI4 p l≤l.length
 |[]=>by simp[qI4]
 |x::r=>by unfold qI4;split<;>simp[q9R (l:=r)]
theorem q9e {p:α→Bool}:∀{l:List α} {k:Nat},k<qI4 p l→p (l.getD k default)=true
 |[],k,h=>by simp[qI4]at h
 |x::r,0,h=>by
  unfold qI4 at h;split at h
  ·rename_i c;simpa using c
  ·omega
 |x::r,k+1,h=>by
  unfold qI4 at h;split at h
  ·simpa using q9e (l:=r) (k:=k) (by omega)
  ·omega
theorem qDR {p:α→Bool}:∀{l:List α},qI4 p l<l.length→p (l.getD (qI4 p l) default)=false
 |[],h=>by simp at h
 |x::r,h=>by
  unfold qI4 at h⊢;split
  ·rename_i c;rw[if_pos c]at h;simpa using qDR (l:=r) (by simpa using h)
  ·rename_i c;simpa using c
end
noncomputable def q4y (z:q0A):Int:=
 if q1I z.path≠0 then q1I z.path else if¬(inR z.data 0 9999∧inR z.version 0 999∧inR z.owner 0 9∧inR z.next 0 100)then 3 else 0
abbrev atZ (l:List q0A) (i:Nat):q0A:=l.getD i default
noncomputable def q4g (l:List q0A) (i:Nat):Int:=
 if q4y (atZ l i)≠0 then q4y (atZ l i)else if 0<i∧¬lt (atZ l (i-1)).path (atZ l i).path then 1 else 0
noncomputable def q7r (t:ByteArray) (z:q0A):Bool:=decide (z.path=t)
noncomputable def atN (l:List q0A) (t:ByteArray):Int:=q5l (q7r t) l
def qRI (l:List q0A):Prop:=∃z∈l,atN l (upF z.path)<0
def qBm (l:List q0A):Prop:=∃z∈l,(atZ l (atN l (upF z.path)).toNat).owner≠0
noncomputable instance (l:List q0A):Decidable (qRI l):=Classical.propDecidable _
noncomputable instance (l:List q0A):Decidable (qBm l):=Classical.propDecidable _
noncomputable def q1A (l:List q0A):Int:=
 if 20<l.length then 2 else if q1s (q4g l) l.length≠0 then q1s (q4g l) l.length
 else if atN l top<0 then 4 else if qRI l then 4 else if qBm l then 1 else 0
def rising (l:List q0A):Prop:=∀i j,i<j→j<l.length→lt (atZ l i).path (atZ l j).path
theorem qQn {l:List q0A} (h:∀i,0<i→i<l.length→lt (atZ l (i-1)).path (atZ l i).path):rising l:=by
 intro i j hij hj;induction j with
 |zero=>omega
 |succ j ih=>
  have h1:=h (j+1) (by omega) hj;simp only[Nat.add_sub_cancel]at h1;by_cases e:i=j
  ·subst e;exact h1
  ·exact lt_trans (ih (by omega) (by omega)) h1
theorem q46 {l:List q0A} (h:q1s (q4g l) l.length=0):rising l:=qQn fun i h0 hi=>by
 have:=q7H h i hi;unfold q4g at this;split at this
 ·rename_i c;exact absurd this c
 ·split at this
  ·cases this
  ·rename_i c;exact Classical.byContradiction fun g=>c ⟨h0,g⟩
theorem q88 {l:List q0A} (h:q1s (q4g l) l.length=0) {i:Nat} (hi:i<l.length):q4y (atZ l i)=0:=by
 have:=q7H h i hi;unfold q4g at this;split at this
 ·rename_i c;exact absurd this c
 ·rename_i c;exact Classical.not_not.1 c
theorem q8S {z:q0A} (h:q4y z=0):q1I z.path=0:=by
 unfold q4y at h;split at h
 ·rename_i c;exact absurd h c
 ·rename_i c;exact Classical.not_not.1 c
theorem qF9 {z:q0A} (h:q4y z=0):inR z.data 0 9999∧inR z.version 0 999∧inR z.owner 0 9∧inR z.next 0 100:=by
 unfold q4y at h;split at h
 ·rename_i c;exact absurd h c
 ·split at h
  ·cases h
  ·rename_i c;exact Classical.not_not.1 c
noncomputable def qBh (t:ByteArray) (z:q0A):Bool:=decide (lt z.path t)
noncomputable def q2U (l:List q0A) (t:ByteArray):Nat:=qI4 (qBh t) l
noncomputable def isZ (l:List q0A) (t:ByteArray):Bool:=decide (q2U l t<l.length∧(atZ l (q2U l t)).path=t)
theorem qDO {l:List q0A} {t:ByteArray} {i:Nat} (hi:i≤l.length) (h1:∀k,k<i→lt (atZ l k).path t) (h2:i<l.length→¬lt (atZ l i).path t):q2U l t=i:=
 qJJ hi (fun k hk=>decide_eq_true (h1 k hk)) (fun hk=>decide_eq_false (h2 hk))
theorem qBg {l:List q0A} (hr:rising l) (t:ByteArray):atN l t=if isZ l t=true then(q2U l t:Int)else -1:=by
 unfold atN;split
 ·rename_i h;obtain⟨h1,h2⟩:=of_decide_eq_true h;refine q3i h1 (fun j hj=>?_) (decide_eq_true h2);refine decide_eq_false fun e=>?_;have:=of_decide_eq_true (q9e (p:=qBh t) (l:=l) (k:=j) hj);rw[e]at this;exact lt_irrefl _ this
 ·rename_i h;refine q4b fun j hj=>decide_eq_false fun e=>?_;have hp:q2U l t=j:=qDO (Nat.le_of_lt hj) (fun k hk=>by have:=hr k j hk hj;rw[e]at this;exact this) (fun _=>by rw[e];exact lt_irrefl _);exact h (decide_eq_true ⟨by rw[hp];exact hj,by rw[hp];exact e⟩)
theorem q57 {l:List q0A} (hr:rising l) (t:ByteArray):atN l t<0↔isZ l t=false:=by
 rw[qBg hr];cases isZ l t<;>simp<;>omega
theorem q6J {l:List q0A} (hr:rising l) {t:ByteArray} (h:isZ l t=true):(atN l t).toNat=q2U l t∧q2U l t<l.length∧(atZ l (q2U l t)).path=t:=by
 rw[qBg hr,if_pos h];exact⟨by simp,of_decide_eq_true h⟩
theorem qDX {l:List q0A} (h:q1s (q4g l) l.length=0) (ht:isZ l top=true):(atZ l 0).path=top∧0<l.length:=by
 have hr:=q46 h;obtain⟨_,h1,h2⟩:=q6J hr ht;refine⟨?_,by omega⟩;by_cases e:q2U l top=0
 ·rw[e]at h2;exact h2
 ·have:=hr 0 (q2U l top) (by omega) h1;rw[h2]at this;exact absurd this (qZD (q4n (q8S (q88 h (by omega)))))
theorem qIH:upF top=top:=by
 unfold upF q2B;have:q3V top top.size=0:=by
  show q3V top 1=0;unfold q3V;split
  ·rfl
  ·rfl
 rw[if_pos this]
theorem q8M (l:List q0A) (j:Nat):l.tail.getD j default=atZ l (j+1):=by
 unfold atZ;rw[List.getD_eq_getElem?_getD,List.getD_eq_getElem?_getD,List.getElem?_tail]
theorem q3w {l:List q0A} {i:Nat} (h:i<l.length):atZ l i∈l:=by
 unfold atZ;rw[List.getD_eq_getElem?_getD,List.getElem?_eq_getElem h];exact List.getElem_mem h
theorem q8I {l:List q0A} {z:q0A} (h:z∈l):∃i,i<l.length∧z=atZ l i:=by
 obtain⟨i,hi,rfl⟩:=List.getElem_of_mem h;exact⟨i,hi,by simp[atZ,hi]⟩
theorem qKG {l:List q0A} (hz:q1s (q4g l) l.length=0) (ht:isZ l top=true):qRI l↔∃j,j<l.tail.length∧isZ l (upF (l.tail.getD j default).path)=false:=by
 have hr:=q46 hz;obtain⟨f1,f2⟩:=qDX hz ht;constructor
 ·rintro⟨z,hz1,h⟩;obtain⟨i,hi,rfl⟩:=q8I hz1;have h':=(q57 hr _).1 h;cases i with
  |zero=>
   rw[f1,qIH,ht]at h';cases h'
  |succ i=>exact⟨i,by rw[List.length_tail];omega,by rw[q8M];exact h'⟩
 ·rintro⟨j,hj,h⟩;have hj':j+1<l.length:=by rw[List.length_tail]at hj;omega
  exact⟨atZ l (j+1),q3w hj',(q57 hr _).2 (by rw[←q8M];exact h)⟩
noncomputable def q6u (l:List q0A):Nat→Bool
 |0=>(atZ l 0).owner !=0
 |i+1=>bif q6u l i then true else(atZ l (q2U l (upF (l.tail.getD i default).path))).owner !=0
theorem qIi (l:List q0A):∀n,q6u l n=true↔(atZ l 0).owner≠0∨∃j,j<n∧(atZ l (q2U l (upF (l.tail.getD j default).path))).owner≠0
 |0=>by
  unfold q6u;rw[bne_iff_ne];exact⟨Or.inl,fun h=>h.elim id fun⟨j,hj,_⟩=>absurd hj (Nat.not_lt_zero j)⟩
 |n+1=>by
  have ih:=qIi l n;have e:q6u l (n+1)=bif q6u l n then true else(atZ l (q2U l (upF (l.tail.getD n default).path))).owner !=0:=rfl;rw[e];cases h:q6u l n with
  |true=>
   refine⟨fun _=>?_,fun _=>rfl⟩;rcases ih.1 h with g|⟨j,hj,g⟩
   ·exact Or.inl g
   ·exact Or.inr ⟨j,by omega,g⟩
  |false=>
   have hn:¬((atZ l 0).owner≠0∨∃j,j<n∧(atZ l (q2U l (upF (l.tail.getD j default).path))).owner≠0):=fun g=>by
    rw[ih.2 g]at h;cases h
   simp only[cond_false];rw[bne_iff_ne];constructor
   ·exact fun g=>Or.inr ⟨n,by omega,g⟩
   ·rintro(g|⟨j,hj,g⟩)
    ·exact absurd (Or.inl g) hn
    ·by_cases ej:j=n
     ·rw[←ej];exact g
     ·exact absurd (Or.inr ⟨j,by omega,g⟩) hn
theorem qR6 {l:List q0A} (hz:q1s (q4g l) l.length=0) (ht:isZ l top=true) (hn:∀j,j<l.tail.length→isZ l (upF (l.tail.getD j default).path)=true):
  qBm l↔q6u l l.tail.length=true:=by
 have hr:=q46 hz;obtain⟨f1,f2⟩:=qDX hz ht;obtain⟨t1,t2,t3⟩:=q6J hr ht;have p0:q2U l top=0:=by
  apply Classical.byContradiction;intro h;have:=hr 0 (q2U l top) (by omega) t2;rw[f1,t3]at this;exact lt_irrefl _ this
 rw[qIi];constructor
 ·rintro⟨z,hz1,h⟩;obtain⟨i,hi,rfl⟩:=q8I hz1;cases i with
  |zero=>
   rw[f1,qIH,t1,p0]at h;exact Or.inl h
  |succ i=>
   have hi':i<l.tail.length:=by rw[List.length_tail];omega
   have h2:=hn i hi';have h3:=(q6J hr h2).1;rw[←q8M,h3]at h;exact Or.inr ⟨i,hi',h⟩
 ·rintro(h|⟨j,hj,h⟩)
  ·refine⟨atZ l 0,q3w f2,?_⟩;rw[f1,qIH,t1,p0];exact h
  ·have hj':j+1<l.length:=by rw[List.length_tail]at hj;omega
   refine⟨atZ l (j+1),q3w hj',?_⟩;rw[←q8M,(q6J hr (hn j hj)).1];exact h
theorem qAq {α:Type} (q:α→Bool) (xs:List α):q5l q xs<xs.length∨q5l q xs=-1:=by
 unfold q5l;cases h:xs.findIdx? q with
 |none=>exact Or.inr rfl
 |some i=>
  obtain⟨hi,_⟩:=List.findIdx?_eq_some_iff_getElem.1 h;left;simp only;omega
theorem qB9 {l:List q0A} (h:q1A l=0):l.length≤20∧q1s (q4g l) l.length=0∧isZ l top=true:=by
 unfold q1A at h;split at h
 ·cases h
 ·rename_i h1;split at h
  ·rename_i h2;exact absurd h h2
  ·rename_i h2;have hz:=Classical.not_not.1 h2;split at h
   ·cases h
   ·rename_i h3;refine⟨by omega,hz,?_⟩;cases hc:isZ l top with
    |true=>rfl
    |false=>exact absurd ((q57 (q46 hz) _).2 hc) h3
theorem qJR {l:List q0A} (h:q1A l=0):rising l:=q46 (qB9 h).2.1
def qO2 (n:Int):ByteArray:=q6W 1 (q3C [.int .u8 (48+n)])
theorem qDT (n:Int):(qO2 n).size=1:=rfl
def q5P (s:ByteArray) (n:Int):ByteArray:=s++qO2 (n.tdiv 10)++qO2 (n.tmod 10)
def q2L (p s:ByteArray):ByteArray:=if p=top then top++s else p++top++s
noncomputable def qKs (l:List q0A) (z:q0A):List q0A:=l.take (q2U l z.path)++z::l.drop (q2U l z.path)
theorem qT7 (l:List q0A) (z:q0A):(qKs l z).length=l.length+1:=by
 have h:q2U l z.path≤l.length:=q9R;unfold qKs;rw[List.length_append,List.length_cons,List.length_take,List.length_drop];omega
noncomputable def upN (l:List q0A) (p:ByteArray):Nat:=(atN l (upF p)).toNat
noncomputable def q4M (l:List q0A) (i:Nat):List q0A:=l.set i ⟨(atZ l i).path,(atZ l i).data,(atZ l i).version,(atZ l i).owner,(atZ l i).next+1⟩
noncomputable def q5y (l out:List q0A) (p:ByteArray) (data owner:Int):q16:=
 if 0≤atN l p then⟨6,q1f,[]⟩else if 20≤l.length then⟨2,q1f,[]⟩else⟨0,p,qKs out ⟨p,data,0,owner,0⟩⟩
noncomputable def q2j (l:List q0A) (p:ByteArray) (data owner:Int) (seq:Bool):q16:=
 if¬(inR data 0 9999∧inR owner 0 9)then⟨3,q1f,[]⟩
 else if p=top then⟨1,q1f,[]⟩
 else if atN l (upF p)<0 then⟨4,q1f,[]⟩
 else if(atZ l (upN l p)).owner≠0 then⟨8,q1f,[]⟩
 else if seq=false then q5y l l p data owner
 else if 100≤(atZ l (upN l p)).next then⟨3,q1f,[]⟩
 else if¬q5j (q5P (q4R p) (atZ l (upN l p)).next)then⟨5,q1f,[]⟩
 else if q1I (q2L (upF p) (q5P (q4R p) (atZ l (upN l p)).next))≠0 then⟨q1I (q2L (upF p) (q5P (q4R p) (atZ l (upN l p)).next)),q1f,[]⟩
 else q5y l (q4M l (upN l p)) (q2L (upF p) (q5P (q4R p) (atZ l (upN l p)).next)) data owner
noncomputable def q5t (l:List q0A) (i:Nat) (data:Int):List q0A:=l.set i ⟨(atZ l i).path,data,(atZ l i).version+1,(atZ l i).owner,(atZ l i).next⟩
noncomputable def q2P (l:List q0A) (p:ByteArray) (data v:Int):q16:=
 if¬inR data 0 9999 then⟨3,q1f,[]⟩
 else if atN l p<0 then⟨4,q1f,[]⟩
 else if v≠-1∧v≠(atZ l (atN l p).toNat).version then⟨7,q1f,[]⟩
 else if 999≤(atZ l (atN l p).toNat).version then⟨2,q1f,[]⟩
 else⟨0,q1f,q5t l (atN l p).toNat data⟩
noncomputable def q1p (l:List q0A) (p:ByteArray):List ByteArray:=(l.filter fun z=>decide (z.path≠top∧upF z.path=p)).map fun z=>q4R z.path
noncomputable def q3X (l:List q0A) (p:ByteArray) (v:Int):q16:=
 if p=top then⟨1,q1f,[]⟩
 else if atN l p<0 then⟨4,q1f,[]⟩
 else if v≠-1∧v≠(atZ l (atN l p).toNat).version then⟨7,q1f,[]⟩
 else if q1p l p≠[]then⟨8,q1f,[]⟩
 else⟨0,q1f,l.take (atN l p).toNat++l.drop ((atN l p).toNat+1)⟩
def isS (id:Int) (s:q07):Bool:=decide (s.id=id)
def sAt (l:List q07) (id:Int):Int:=q5l (isS id) l
def qLS (id:Int) (s:q07):Bool:=decide (s.id<id)
def q6y (l:List q07) (id:Int):Nat:=qI4 (qLS id) l
def qBB (l:List q07) (id:Int):Bool:=decide (q6y l id<l.length∧(l.getD (q6y l id) default).id=id)
def qMn (l:List q07):Prop:=∀i j,i<j→j<l.length→(l.getD i default).id<(l.getD j default).id
theorem qJD {l:List q07} {id:Int} {i:Nat} (hi:i≤l.length) (h1:∀k,k<i→(l.getD k default).id<id) (h2:i<l.length→¬(l.getD i default).id<id):q6y l id=i:=
 qJJ hi (fun k hk=>decide_eq_true (h1 k hk)) fun h=>decide_eq_false (h2 h)
theorem qRK {l:List q07} (hr:qMn l) (id:Int):sAt l id=if qBB l id=true then(q6y l id:Int)else -1:=by
 by_cases h:qBB l id=true
 ·rw[if_pos h];obtain⟨h1,h2⟩:=of_decide_eq_true h;refine q3i h1 (fun j hj=>?_) (decide_eq_true h2);have h3:=of_decide_eq_true (q9e (p:=qLS id) (l:=l) hj);exact decide_eq_false fun e=>by omega
 ·rw[if_neg h];refine q4b fun j hj=>decide_eq_false fun e=>h ?_;have hp:q6y l id=j:=qJD (by omega) (fun k hk=>by have:=hr k j hk hj;omega) fun _=>by omega
  exact decide_eq_true ⟨by rw[hp];exact hj,by rw[hp];exact e⟩
theorem qNf (l:List q07) (id:Int):q6y l id≤l.length:=q9R
def q6c (l:List q07) (id now:Int):Bool:=decide (0≤sAt l id∧now≤(l.getD (sAt l id).toNat default).upto)
def q4S (l:List q07) (id now:Int):q12:=
 if 0≤sAt l id then⟨6,[]⟩else if 6≤l.length then⟨2,[]⟩else⟨0,l.take (q6y l id)++⟨id,now+10⟩::l.drop (q6y l id)⟩
def q44 (l:List q07) (id now:Int):q12:=
 if q6c l id now=true then⟨0,l.set (sAt l id).toNat ⟨(l.getD (sAt l id).toNat default).id,now+10⟩⟩else⟨9,[]⟩
def q1M (l:List q07) (now:Int):List q07:=l.filter fun s=>decide (now≤s.upto)
def q29 (l:List q07) (now:Int):List Int:=(l.filter fun s=> !decide (now≤s.upto)).map fun s=>s.id
def q2u (l:List q07) (id:Int):List q07:=l.filter fun s=>decide (s.id≠id)
def q1D (ids:List Int) (z:q0A):Bool:=decide (z.owner≠0∧z.owner∈ids)
def q2A (l:List q0A) (ids:List Int):List q0A:=l.filter fun z=> !q1D ids z
def okK (k:Int):Prop:=inR k 1 8
noncomputable instance (k:Int):Decidable (okK k):=Classical.propDecidable _
def q8j (k:Int):Prop:=inR k 3 8
def qAf (k:Int):Prop:=k=3∨k=5
def qAy (k:Int):Prop:=k=4∨k=5∨k=8
noncomputable instance (k:Int):Decidable (q8j k):=Classical.propDecidable _
noncomputable instance (k:Int):Decidable (qAf k):=Classical.propDecidable _
noncomputable instance (k:Int):Decidable (qAy k):=Classical.propDecidable _
noncomputable def opF (o:TOp):Int:=
 if¬okK o.kind∨(¬q8j o.kind∧o.path≠q1f)∨(¬qAf o.kind∧o.data≠0)∨(¬qAy o.kind∧o.version≠0)∨(o.kind≠3∧(o.seq=true∨o.own=true))then 1
 else if¬q8j o.kind then 0
 else if q1I o.path≠0 then q1I o.path
 else if¬(inR o.data 0 9999∧inR o.version (-1) 999)then 3 else 0
noncomputable def q4j (l:List q0A) (o:TOp):q2E:=
 if atN l o.path<0 then⟨4,0,q1f⟩
 else if o.kind=6 then⟨0,(atZ l (atN l o.path).toNat).data,q1f⟩
 else if o.kind=7 then⟨0,(q1p l o.path).length,q1f⟩
 else if o.version≠-1∧o.version≠(atZ l (atN l o.path).toNat).version then⟨7,0,q1f⟩
 else⟨0,(atZ l (atN l o.path).toNat).version,q1f⟩
def q6X (s:q06) (r:q16) (value:Int):q06×q2E:=
 if r.code≠0 then(s,⟨r.code,0,q1f⟩)else(⟨r.nodes,s.sessions,s.now,s.marks⟩,⟨0,value,r.path⟩)
noncomputable def qTW (l:List q0A) (p:ByteArray):Int:=if 0≤atN l p then(atZ l (atN l p).toNat).version+1 else 0
noncomputable def doF (s:q06) (c:Int) (o:TOp):q06×q2E:=
 if o.kind=1 then
  if(q4S s.sessions c s.now).code≠0 then(s,⟨(q4S s.sessions c s.now).code,0,q1f⟩)else(⟨s.nodes,(q4S s.sessions c s.now).sessions,s.now,s.marks⟩,⟨0,0,q1f⟩)
 else if¬q6c s.sessions c s.now=true then(s,⟨9,0,q1f⟩)
 else if o.kind=2 then(⟨q2A s.nodes [c],q2u s.sessions c,s.now,s.marks⟩,⟨0,0,q1f⟩)
 else if o.kind=3 then q6X s (q2j s.nodes o.path o.data (if o.own=true then c else 0) o.seq) 0
 else if o.kind=4 then q6X s (q3X s.nodes o.path o.version) 0
 else if o.kind=5 then q6X s (q2P s.nodes o.path o.data o.version) (qTW s.nodes o.path)
 else(s,q4j s.nodes o)
theorem qRq (c:Int):q0h (.ptr [.int .i64 c] 0 1)=c:=rfl
theorem q48 {α:Type} [Inhabited α] {l:List α} {i:Nat} (h:i<l.length):l.take (i+1)=l.take i++[l.getD i default]:=by
 rw[List.take_add_one];simp[h]
theorem qDN {α:Type} [Inhabited α] (xs:List α) (i j:Nat) (x:α):(xs.set i x).getD j default=if i=j∧i<xs.length then x else xs.getD j default:=by
 simp only[List.getD_eq_getElem?_getD,List.getElem?_set];by_cases h:i=j
 ·subst h;by_cases h2:i<xs.length
  ·simp[h2]
  ·simp[h2]
 ·simp[h]
def qIo {α:Type} [Inhabited α] (q:α→Bool) (l:List α) (i j:Nat) (ys:List α):Prop:=
 ys.length=l.length∧i<j∧j≤l.length∧ys.take i=(l.take j).filter (fun x=> !q x)∧∀k,j≤k→k<l.length→ys.getD k default=l.getD k default
theorem qD1 {α:Type} [Inhabited α] {q:α→Bool} {l:List α} {n:Nat} (hn:n≤l.length) (h:∀j,j<n→q (l.getD j default)=false):(l.take n).filter (fun x=> !q x)=l.take n:=by
 rw[List.filter_eq_self];intro x hx;obtain⟨j,hj,rfl⟩:=List.getElem_of_mem hx;have hj':j<n:=by rw[List.length_take]at hj;omega
 have:=h j hj';rw[List.getElem_take];simpa[show j<l.length by omega]using this
theorem qPb {α:Type} {q:α→Bool} {x:α}:(q x=true→[x].filter (fun x=> !q x)=[])∧(q x=false→[x].filter (fun x=> !q x)=[x]):=⟨fun h=>by simp[h],fun h=>by simp[h]⟩
theorem qI0 {α:Type} [Inhabited α] {q:α→Bool} {l:List α} {i:Nat} (h:q5l q l=(i:Int)):qIo q l i (i+1) l:=by
 obtain⟨h1,h2,h3⟩:=q9u h;refine⟨rfl,by omega,h1,?_,fun _ _ _=>rfl⟩;rw[q48 h1,List.filter_append,qD1 (by omega) h3,qPb.1 h2,List.append_nil]
theorem qLF {α:Type} [Inhabited α] {q:α→Bool} {l:List α} (h:q5l q l=-1):l.filter (fun x=> !q x)=l:=by
 have:=qD1 (q:=q) (l:=l) (n:=l.length) (Nat.le_refl _) fun j hj=>by
  cases hq:q (l.getD j default)with
  |false=>rfl
  |true=>
   exfalso;have h2:=q6O q l;rw[h]at h2;have:l.any q=true:=List.any_eq_true.2 ⟨l.getD j default,by simp[hj],hq⟩;rw[this]at h2;simp at h2
 rwa [List.take_length]at this
theorem qL8 {α:Type} [Inhabited α] {q:α→Bool} {l ys:List α} {i j:Nat} (h:qIo q l i j ys) (hj:j<l.length) (hq:q (l.getD j default)=false):qIo q l (i+1) (j+1) (ys.set i (l.getD j default)):=by
 obtain⟨h1,h2,h3,h4,h5⟩:=h;refine⟨by rw[List.length_set];exact h1,by omega,by omega,?_,fun k hk hl=>?_⟩
 ·have hi:i<(ys.set i (l.getD j default)).length:=by rw[List.length_set];omega
  rw[q48 hi,q48 hj,List.filter_append,←h4,qDN,if_pos ⟨rfl,by omega⟩];rw[qPb.2 hq,List.take_set_of_le (Nat.le_refl i)]
 ·rw[qDN,if_neg (by omega)];exact h5 k (by omega) hl
theorem qKY {α:Type} [Inhabited α] {q:α→Bool} {l ys:List α} {i j:Nat} (h:qIo q l i j ys) (hj:j<l.length) (hq:q (l.getD j default)=true):qIo q l i (j+1) ys:=by
 obtain⟨h1,h2,h3,h4,h5⟩:=h;refine⟨h1,by omega,by omega,?_,fun k hk hl=>h5 k (by omega) hl⟩;rw[q48 hj,List.filter_append,←h4,qPb.1 hq,List.append_nil]
theorem qQo {α:Type} [Inhabited α] {q:α→Bool} {l ys:List α} {i:Nat} (h:qIo q l i l.length ys):ys.take i=l.filter (fun x=> !q x):=by
 obtain⟨h1,h2,h3,h4,h5⟩:=h
 rwa [List.take_length]at h4
theorem qON {α:Type} [Inhabited α] {enc:α→V} {sz i k:Nat} {ys zs:List α} {z:Nat→V} (h:ys.take i=zs) (hi:i≤ys.length):BLe (.arr sz i (q3x (gL enc ys) i k z) q0l) (.arr sz zs.length (gL enc zs) q0l):=by
 subst h;have e:(ys.take i).length=i:=by rw[List.length_take];omega
 rw[e];refine q1P (fun j hj=>?_) (Or.inl rfl);have e2:q3x (gL enc ys) i k z j=gL enc (ys.take i) j:=by
  unfold q3x gL;rw[if_neg (by omega)];congr 1;simp[List.getD_eq_getElem?_getD,List.getElem?_take,hj]
 rw[e2];exact ELe.refl _
theorem qM5 {α:Type} [Inhabited α] {enc:α→V} {sz n i te:Nat} {xs:List α} {v:V} {x:α} (hi:i<xs.length) (h:v=enc x):
  BLe (.arr sz n (q65 (gL enc xs) i v) te) (.arr sz n (gL enc (xs.set i x)) te):=by
 subst h;refine q1P (fun k hk=>?_) (Or.inl rfl);have e:q65 (gL enc xs) i (enc x) k=gL enc (xs.set i x) k:=by
  rw[q2F];unfold gL;rw[qDN];by_cases e:k=i
  ·subst e;rw[if_pos rfl,if_pos ⟨rfl,hi⟩]
  ·rw[if_neg e,if_neg (fun h=>e h.1.symm)]
 rw[e];exact ELe.refl _
theorem qPC {α:Type} {q:α→Bool} {l:List α} (h:(q5l q l== -1)=false):∃i:Nat,q5l q l=(i:Int):=by
 have h1:=qW9 q l;have h2:¬q5l q l=-1:=by simpa using h
 exact⟨(q5l q l).toNat,by omega⟩
def qTc (x:q07) (c:Int):Prop:=True
noncomputable def x2v (x:q07) (c:Int):V:=.bool (isS c x)
noncomputable def qPg:q0P:=fun args bin=>match args,bin with
 |[a0,a1],[]=>some (VLe a0 (q00 1 ((q05 a0)))∧VLe a1 (q1n 1 ((q0h a1)))∧qTc (q05 a0) (q0h a1),x2v (q05 a0) (q0h a1),[])
 |_,_=>none
noncomputable def xD6:=lkR []
theorem xCt:q0C Tryz.prog xD6:=q04
noncomputable def x9x (x:q07) (c:Int):=cxN xD6 Tryz.f180 [0,1,2,3]
theorem xC6 (x:q07) (c:Int) (hpre:qTc x c):q0d (x9x x c) Tryz.f180 0 [q00 1 (x),q1n 1 (c)] (fun rr=>VLe rr (x2v x c)):=by
 have key:VLe (V.bool (x.id==c)) (V.bool (isS c x)):=by
  refine q0Z ?_;unfold isS;rw[Bool.eq_iff_iff];simp
 exact Eq.mp (by kernel_rfl) key
theorem qX3:q0R Tryz.prog 180 qPg:=by
 refine sob 0 Tryz.func180 fun args bin ob r bout hDe hob=>?_;unfold qPg at hDe;split at hDe
 ·rename_i a0 a1;cases hDe;exact okB (xC6 (q05 a0) (q0h a1) (hob.2.2)) xCt (args_of_vles ⟨hob.1,hob.2.1,trivial⟩)
 ·cases hDe
def qCV (xs:List q07) (c:Int):Prop:=xs.length≤maxLen∧(True)
noncomputable def qHR (xs:List q07) (c:Int):V:=.int .i64 (q5l (fun s=>isS c s) xs)
noncomputable def qCE:q0P:=fun args bin=>match args,bin with
 |[a0,.fn 180 [a1]],[]=>some (VLe a0 (q0D (q00 1) 1 (((q0K q05) a0)))∧VLe a1 (q1n 1 ((q0h a1)))∧qCV ((q0K q05) a0) (q0h a1),qHR ((q0K q05) a0) (q0h a1),[])
 |_,_=>none
noncomputable def qJd (xs:List q07) (c:Int):q0M:=
 ⟨Nat,fun i=>⟨[(0,q0D (q00 1) 1 xs),(1,.fn 180 [q1n 1 (c)]),(7,.int .i64 xs.length),(8,.int .i64 i)],[]⟩,
  fun i=>i≤xs.length∧∀j,j<i→(fun s=>isS c s) (xs.getD j default)=false,fun i=>xs.length-i⟩
noncomputable def qOu (xs:List q07) (c:Int):Nat→Option q0M:=fun rg_=>match rg_ with
 |2=>some (qJd xs c)
 |_=>none
noncomputable def qLe:=lkR [(180,qPg)]
theorem qQb:q0C Tryz.prog qLe:=q02 qX3 (q04)
noncomputable def qPh (xs:List q07) (c:Int):=cxL qLe Tryz.f236 [0,1,4,5,7,8,9,16] [(2,⟨[(0,none),(1,none),(7,none),(8,none)],[]⟩)] (qOu xs c) []
noncomputable def q37 (xs:List q07) (x:Nat):V:=q00 1 (xs.getD (↑x:Int).toNat default)
noncomputable def q1k (xs:List q07):Int:=(↑ xs.length:Int)
noncomputable def q3q (c:Int):Nat×V:=(1,V.fn (180:FuncId) [q1n 1 c])
theorem qRg (xs:List q07) (c:Int) (hpre:qCV xs c):q0d (qPh xs c) Tryz.f236 0 [q0D (q00 1) 1 (xs),.fn 180 [q1n 1 (c)]] (fun rr=>VLe rr (qHR xs c)):=by
 have key:((∃x:Nat,SLe (AS.mk [(0,q0D (q00 1) 1 xs),(q3q c),(7,vi (q1k xs)),(8,vi 0)] []) (AS.mk [(0,q0D (q00 1) 1 xs),(q3q c),(7,vi (q1k xs)),(8,vi (↑x:Int))] [])∧(x≤xs.length∧∀j:Nat,j<x→isS c (xs.getD j default)=false))∧∀x:Nat,(x≤xs.length∧∀j:Nat,j<x→isS c (xs.getD j default)=false)→(decide ((↑x:Int)<(q1k xs))=true→(0≤(↑x:Int)∧(↑x:Int)<(q1k xs))∧(VLe (q37 xs x) (q00 1 (q05 (q37 xs x)))∧VLe (V.ptr [vi c] 0 1) (q1n 1 (q0h (V.ptr [vi c] 0 1)))∧qTc (q05 (q37 xs x)) (q0h (V.ptr [vi c] 0 1)))∧(isS (q0h (V.ptr [vi c] 0 1)) (q05 (q37 xs x))=true→VLe (vi (↑x:Int)) (vi (q5l (fun(s:q07) ↦ isS c s) xs)))∧(isS (q0h (V.ptr [vi c] 0 1)) (q05 (q37 xs x))=false→(inK IntKind.i64 ((↑x:Int)+1)∧∃y:Nat,SLe (AS.mk [(0,q0D (q00 1) 1 xs),(q3q c),(7,vi (q1k xs)),(8,vi ((↑x:Int)+1))] []) (AS.mk [(0,q0D (q00 1) 1 xs),(q3q c),(7,vi (q1k xs)),(8,vi (↑y:Int))] [])∧(y≤xs.length∧∀j:Nat,j<y→isS c (xs.getD j default)=false)∧xs.length-y<xs.length-x)))∧(decide ((↑x:Int)<(q1k xs))=false→VLe (vi (-1)) (vi (q5l (fun(s:q07) ↦ isS c s) xs)))):=by
  delta q3q;delta q1k;delta q37;delta vi;obtain⟨hlen,hp⟩:=hpre;unfold maxLen at hlen;refine⟨⟨0,SLe.refl _,by omega,fun j hj=>absurd hj (Nat.not_lt_zero j)⟩,?_⟩;rintro i ⟨hi,hj⟩;refine⟨fun h=>?_,fun h=>?_⟩
  ·have hlt:i<xs.length:=by simpa using h
   have hin:xs.getD i default∈xs:=by simp[hlt]
   simp only[Int.toNat_natCast,q2K,q6T];refine⟨⟨by omega,by omega⟩,⟨VLe.refl _,VLe.refl _,trivial⟩,fun h2=>q0I (q3i hlt hj h2).symm,fun h2=>⟨q0X (by omega),i+1,SLe.refl _,⟨by omega,fun j h3=>?_⟩,by omega⟩⟩;rcases Nat.lt_or_ge j i with h4|h4
   ·exact hj j h4
   ·have:j=i:=by omega
    subst this;exact h2
  ·have hge:i=xs.length:=by simp at h;omega
   exact q0I (q4b fun j h3=>hj j (by omega)).symm
 exact Eq.mp (by kernel_rfl) key
theorem qQD:q0R Tryz.prog 236 qCE:=by
 refine sob 0 Tryz.func236 fun args bin ob r bout hDe hob=>?_;unfold qCE at hDe;split at hDe
 ·rename_i a0 a1;cases hDe;exact okB (qRg ((q0K q05) a0) (q0h a1) (hob.2.2)) qQb (args_of_vles ⟨hob.1,qHm ⟨hob.2.1,trivial⟩,trivial⟩)
 ·cases hDe
def qDW (l:List q07) (c:Int):Prop:=l.length≤1000
noncomputable def q39 (l:List q07) (c:Int):List q07:=l.filter fun s=> !isS c s
noncomputable def qHd (l:List q07) (c:Int):List Blk:=[(.arr 2 (q39 l c).length (gL (q00 1) (q39 l c)) q0l)]
noncomputable def qI6 (l:List q07) (c:Int):V:=.osl 0 (q39 l c).length
noncomputable def qCp:q0P:=fun args bin=>match args,bin with
 |[.osl i0 m0,.fn 180 [a1]],[.arr s0 n0 g0 t0]=>some ((i0=0∧s0=2∧t0=q0l∧n0=m0∧∀i,i<n0→ELe (g0 i) (gL (q00 1) ((q0K q05) (.sl n0 g0 1)) i))∧VLe a1 (q1n 1 ((q0h a1)))∧qDW ((q0K q05) (.sl n0 g0 1)) (q0h a1),qI6 ((q0K q05) (.sl n0 g0 1)) (q0h a1),qHd ((q0K q05) (.sl n0 g0 1)) (q0h a1))
 |_,_=>none
noncomputable def qK3 (l:List q07) (c:Int):q0M:=
 ⟨Nat×Nat×List q07,fun p=>⟨[(0,.osl (q25 0) l.length),(1,.fn 180 [q1n 1 c]),(5,.int .i64 p.1),(6,.int .i64 p.2.1)],[(q25 0,.arr 2 l.length (gL (q00 1) p.2.2) q0l)]⟩,fun p=>qIo (isS c) l p.1 p.2.1 p.2.2,fun p=>l.length-p.2.1⟩
noncomputable def qOg (l:List q07) (c:Int):Nat→Option q0M:=fun rg_=>match rg_ with
 |5=>some (qK3 l c)
 |_=>none
noncomputable def qLw:=lkR [(236,qCE),(180,qPg)]
theorem qPM:q0C Tryz.prog qLw:=q02 qQD (q02 qX3 (q04))
noncomputable def qHh (l:List q07) (c:Int):=cxL qLw Tryz.f179 [0,1,4,5,6,7,12,19,29] [(5,⟨[(0,some 2),(1,none),(5,none),(6,none)],[]⟩)] (qOg l c) []
noncomputable def q33 (x:Nat×Nat×List q07):Int:=(↑x.2.1:Int)
noncomputable def q5K (x:Nat×Nat×List q07):V:=q00 1 (x.2.2.getD (q33 x).toNat default)
noncomputable def q0F (l:List q07):List q07:=q0K q05 (q0D (q00 1) 1 l)
noncomputable def q3o (l:List q07):Nat:=l.length
noncomputable def q6A (l:List q07):Nat×V:=(0,V.osl 32000064 (q3o l))
noncomputable def qB3 (l:List q07) (c:Int) (y:Nat×Nat×List q07):AS:=AS.mk [(q6A l),(q3q c),(5,vi (↑y.1:Int)),(6,vi (↑y.2.1:Int))] [(32000064,Blk.arr 2 (q3o l) (gL (q00 1) y.2.2) 100)]
noncomputable def q3u (l:List q07):Int:=(↑ (q3o l):Int)
noncomputable def q2R (c:Int):V:=V.ptr [vi c] 0 1
noncomputable def q1v (x:Nat×Nat×List q07):Int:=(↑x.1:Int)
theorem qRd (l:List q07) (c:Int) (hpre:qDW l c):qAG (qHh l c) Tryz.f179 [(0,2)] [.osl 25600000 (l).length,.fn 180 [q1n 1 (c)]] [(25600000,.arr 2 l.length (gL (q00 1) l) q0l)] (fun rr bs=>VLe rr (qI6 l c)∧q1y bs (qHd l c)):=by
 have key:(VLe (q0D (q00 1) 1 l) (q0D (q00 1) 1 (q0F l))∧VLe (q2R c) (q1n 1 (q0h (q2R c)))∧qCV (q0F l) (q0h (q2R c)))∧((q5l (fun(s:q07) ↦ isS (q0h (q2R c)) s) (q0F l)==(-1))=true→VLe (V.osl 0 (q3o l)) (V.osl 0 (q39 l c).length)∧BLe (Blk.arr 2 (q3o l) (gL (q00 1) l) 100) (Blk.arr 2 (q39 l c).length (gL (q00 1) (q39 l c)) 100)∧True)∧((q5l (fun(s:q07) ↦ isS (q0h (q2R c)) s) (q0F l)==(-1))=false→inK IntKind.i64 (q5l (fun(s:q07) ↦ isS (q0h (q2R c)) s) (q0F l)+(1:Int))∧((∃x:Nat×Nat×List q07,SLe (AS.mk [(q6A l),(1,V.fn (180:FuncId) [V.ptr [vi c] 0 1]),(5,vi (q5l (fun(s:q07) ↦ isS (q0h (q2R c)) s) (q0F l))),(6,vi (q5l (fun(s:q07) ↦ isS (q0h (q2R c)) s) (q0F l)+(1:Int)))] [(32000064,Blk.arr 2 (q3o l) (gL (q00 1) l) 100)]) (AS.mk [(q6A l),(q3q c),(5,vi (q1v x)),(6,vi (q33 x))] [(32000064,Blk.arr 2 (q3o l) (gL (q00 1) x.2.2) 100)])∧qIo (isS c) l x.1 x.2.1 x.2.2)∧∀x:Nat×Nat×List q07,qIo (isS c) l x.1 x.2.1 x.2.2→(decide ((q33 x)<(q3u l))=true→(0≤(q33 x)∧(q33 x)<(q3u l))∧(q33 x).toNat<l.length∧(VLe (q5K x) (q00 1 (q05 (q5K x)))∧VLe (q2R c) (q1n 1 (q0h (q2R c)))∧qTc (q05 (q5K x)) (q0h (q2R c)))∧((!isS (q0h (q2R c)) (q05 (q5K x)))=true→(0≤(q1v x)∧(q1v x)<(q3u l))∧(q1v x).toNat<l.length∧inK IntKind.i64 ((q1v x)+1)∧(inK IntKind.i64 ((q33 x)+1)∧∃y:Nat×Nat×List q07,SLe (AS.mk [(q6A l),(q3q c),(5,vi ((q1v x)+1)),(6,vi ((q33 x)+1))] [(32000064,Blk.arr 2 (q3o l) (q65 (gL (q00 1) x.2.2) (q1v x).toNat (q5K x)) 100)]) (qB3 l c y)∧qIo (isS c) l y.1 y.2.1 y.2.2∧l.length-Prod.fst y.2<l.length-Prod.fst x.2))∧((!isS (q0h (q2R c)) (q05 (q5K x)))=false→(inK IntKind.i64 ((q33 x)+1)∧∃y:Nat×Nat×List q07,SLe (AS.mk [(q6A l),(q3q c),(5,vi (q1v x)),(6,vi ((q33 x)+1))] [(32000064,Blk.arr 2 (q3o l) (gL (q00 1) x.2.2) 100)]) (qB3 l c y)∧qIo (isS c) l y.1 y.2.1 y.2.2∧l.length-Prod.fst y.2<l.length-Prod.fst x.2)))∧(decide ((q33 x)<(q3u l))=false→(0≤(q1v x)∧(q1v x)≤Option.getD none (q3u l)∧Option.getD none (q3u l)≤(q3u l))∧(0≤(q1v x)∧(q1v x)≤(q3u l))∧VLe (V.osl 0 (q1v x).toNat) (V.osl 0 (q39 l c).length)∧BLe (Blk.arr 2 (q1v x).toNat (q3x (gL (q00 1) x.2.2) (q1v x).toNat ((Option.getD none (q3u l)).toNat-(q1v x).toNat) fun(x:Nat) ↦ V.agg [vi 0,vi 0]) 100) (Blk.arr 2 (q39 l c).length (gL (q00 1) (q39 l c)) 100)∧True))):=by
  delta q1v;delta q2R;delta q3u;delta qB3;delta q3q;delta q6A;delta q3o;delta q0F;delta q5K;delta q33;delta vi;have hl:l.length≤1000:=hpre;simp only[q0p,q2K,qRq,Option.getD_none];refine⟨⟨VLe.refl _,VLe.refl _,by unfold maxLen;omega,trivial⟩,fun h=>?_,fun h=>?_⟩
  ·have e:q39 l c=l:=qLF (q:=fun s=>isS c s) (eq_of_beq h);rw[e];exact⟨VLe.refl _,BLe.refl _,trivial⟩
  ·obtain⟨i0,hi0⟩:=qPC h;have hlt:=(q9u hi0).1;simp only[hi0];have v0:((i0:Nat):Int)+1=((i0+1:Nat):Int):=by omega
   refine⟨q0X (by omega),⟨(i0,i0+1,l),q1Q ⟨rfl,VLe.refl _,rfl,VLe.refl _,rfl,VLe.refl _,rfl,q0I v0,trivial⟩ ⟨rfl,BLe.refl _,trivial⟩,qI0 hi0⟩,?_⟩;rintro⟨i,j,ys⟩ hd;simp only at hd⊢;have hd1:=hd.1;have hd2:=hd.2.1;have hd3:=hd.2.2.1;have v1:((i:Nat):Int)+1=((i+1:Nat):Int):=by omega
   have v2:((j:Nat):Int)+1=((j+1:Nat):Int):=by omega
   simp only[Int.toNat_natCast];refine⟨fun h=>?_,fun h=>?_⟩
   ·have hj:j<l.length:=by have:=of_decide_eq_true h;omega
    have hy:ys.getD j default=l.getD j default:=hd.2.2.2.2 j (Nat.le_refl j) hj;rw[hy];refine⟨⟨by omega,by omega⟩,hj,⟨VLe.refl _,VLe.refl _,trivial⟩,fun h2=>?_,fun h2=>?_⟩
    ·have hq:isS c (l.getD j default)=false:=by
      cases hb:isS c (l.getD j default)with
      |false=>rfl
      |true=>rw[hb]at h2;cases h2
     have hi:i<ys.length:=by omega
     exact⟨⟨by omega,by omega⟩,by omega,q0X (by omega),q0X (by omega),(i+1,j+1,ys.set i (l.getD j default)),q1Q ⟨rfl,VLe.refl _,rfl,VLe.refl _,rfl,q0I v1,rfl,q0I v2,trivial⟩ ⟨rfl,qM5 hi rfl,trivial⟩,qL8 hd hj hq,by simp only;omega⟩
    ·have hq:isS c (l.getD j default)=true:=by
      cases hb:isS c (l.getD j default)with
      |true=>rfl
      |false=>rw[hb]at h2;cases h2
     exact⟨q0X (by omega),(i,j+1,ys),q1Q ⟨rfl,VLe.refl _,rfl,VLe.refl _,rfl,VLe.refl _,rfl,q0I v2,trivial⟩ ⟨rfl,BLe.refl _,trivial⟩,qKY hd hj hq,by simp only;omega⟩
   ·have hj:j=l.length:=by have:=of_decide_eq_false h;omega
    subst hj;have e:ys.take i=q39 l c:=qQo hd;have el:i=(q39 l c).length:=by rw[←e,List.length_take];omega
    refine⟨⟨by omega,by omega,by omega⟩,⟨by omega,by omega⟩,VLe.of_eq ?_,qON e (by omega),trivial⟩;rw[←el]
 exact Eq.mp (by kernel_rfl) key
theorem qRD:q8g Tryz.prog 179 qCp:=by
 refine q47 q77 (tpl:=[(0,2)]) Tryz.func179 rfl (by kernel_rfl) fun args bin ob r bout hDe hob=>?_;unfold qCp at hDe;split at hDe
 ·rename_i i0 m0 a1 s0 n0 g0 t0;cases hDe;obtain⟨⟨rfl,rfl,rfl,rfl,hg0⟩,hv1,hpre⟩:=hob;exact⟨Nat.le_of_ble_eq_true (by kernel_rfl),qHh ((q0K q05) (.sl n0 g0 1)) (q0h a1),Eq.mp (by kernel_rfl) htt,Eq.mp (by kernel_rfl) qPM,Eq.mp (by kernel_rfl) (q2n (P:=Tryz.prog)),by kernel_rfl,false,n0,2,q0l,g0,gL (q00 1) ((q0K q05) (.sl n0 g0 1)),[.fn 180 [a1]],[.fn 180 [q1n 1 ((q0h a1))]],[],[],rfl,rfl,args_of_vles (l':=[.fn 180 [q1n 1 ((q0h a1))]]) ⟨qHm ⟨hv1,trivial⟩,trivial⟩,rfl,q1P (fun i hi=>hg0 i hi) (Or.inl rfl),trivial,rfl,(((q0K q05) (.sl n0 g0 1))).length,(q3y _ _ _ _).symm,.inr (Eq.mp (by kernel_rfl) (qRd ((q0K q05) (.sl n0 g0 1)) (q0h a1) hpre))⟩
 ·cases hDe
theorem qS2 {w:World} {X0 io:Nat→Prop} {bin:List Blk} {ι:q1K} {Fr:Nat→Nat→Prop} (hE:Ent w X0 io bin ι Fr):Ext w w X0 io (fun b=>w.heap.size≤b) ι bin.length bin ι Fr:=
 {own:=fun id blk b sz k hb hi=>⟨(hE.own id blk b sz k hb hi).1,.inr ⟨(hE.own id blk b sz k hb hi).2,(List.getElem?_eq_some_iff.1 hb).1⟩⟩
  nob:=hE.nob
  inj:=hE.inj
  fr:=hE.fr
  frS:=hE.frS
  fr0:=hE.fr0
  fr2:=fun t b h2 hf=>absurd hf (hE.fr2 t b h2)
  cl:=fun t b h2 hf=>absurd hf (hE.fr2 t b h2)
  same:=fun id h=>rfl
  os:=rfl,tape:=rfl,output:=rfl,hsize:=Nat.le_refl _
  frame:=fun _ _ _=>rfl
  shape:=fun _ _ h=>h }
def ovD (sz:Nat):q0P:=fun args bin=>match args,bin with
 |[.osl 0 n,.oss 1 lo m c e],[.arr s1 n1 g1 t1,.arr s2 n2 g2 t2]=>some (s2=sz,.bool false,[.arr s1 n1 g1 t1,.arr s2 n2 g2 t2])
 |_,_=>none
theorem q7N {P:Program} (w:World) (tS tR e:TypeId) (ht:P.underlying tS=some (.slice e)) (size:Nat) (hz:∀w,(Go.sizeOf e).run P w=.ok size w)
  (a b:Option Addr) (la ca lb cb:Nat) (h:la=0∨lb=0∨size=0):
  (Extern.SlicesOverlaps.overlaps #[tS,tS] #[tR] #[.slice a la ca,.slice b lb cb]).run P w=.ok (.bool false) w:=by
 change Sem.run P (α:=Value) (do
  let some t:=(#[tS,tS]:Array TypeId)[0]?|stuck "slices.overlaps: no parameter types"
  let .slice elem ←underlying t|stuck "slices.overlaps: slice type expected"
  let size ←sizeOf elem
  match a,b with
  |some a,some b=>
   if la=0∨lb=0∨size=0 then pure (Value.bool false)
   else if a.block !=b.block&&(←frozen a)&&(←frozen b)then unsupported .addressObserved
   else do
    if a.block !=b.block then do
     noView a;noView b
     if←mayBeOne a b then return Value.bool ((←choose (.extern "sameAddr.stringBytes" 2))==1)
    pure (Value.bool (a.block==b.block&&a.off<b.off+lb*size&&b.off<a.off+la*size))
  |_,_=>pure (Value.bool false)) w=_
 cases a<;>cases b<;>simp[q98 ht,hz,h]
theorem qM0 {P:Program} {tt:TT} (hT:q4K P tt) {f:Nat} {fn:Func} (hf:P.funcs[f]?=some fn) (hname:(fn.name=="runtime.NumGoroutine")=false)
  (hb:fn.body.isNone=true) (hn:Extern.findNext fn=none) {tS tR:Nat} {ti:TI} (he:Extern.find fn=some (Extern.SlicesOverlaps.overlaps #[tS,tS] #[tR])) (hti:q2Q tt tS=some ti):q0R P f (ovD ti.size):=by
 refine⟨fun args bin ob r bout hD hob vals w X0 io ι Fr hE hs hv=>?_⟩;unfold ovD at hD;split at hD
 ·rename_i n lo m c e s1 n1 g1 t1 s2 n2 g2 t2;cases hD;obtain⟨el,hund,hl⟩:∃el,P.underlying tS=some (.slice el)∧lk tt el=some ti:=by
   unfold q2Q at hti;split at hti
   ·rename_i hl;exact⟨_,hT.und _ _ hl,hti⟩
   ·cases hti
  have hz:∀w,(Go.sizeOf el).run P w=.ok ti.size w:=fun w=>q2c hT hl w;have h0:=hv 0 (by simp);have h1:=hv 1 (by simp);simp only[List.getD_cons_zero,List.getD_cons_succ]at h0 h1;refine .inr ⟨.bool false,?_,.bool false,ι,Fr,rfl,.atom rfl (.bool _),qS2 hE⟩;rw[run_callFunc_extern hf hname hb hn he];have key:∀v0 v1,q0e w Fr ι (.osl 0 n) v0→q0e w Fr ι (.oss 1 lo m c e) v1→(Extern.SlicesOverlaps.overlaps #[tS,tS] #[tR] #[v0,v1]).run P w=.ok (.bool false) w:=by
   intro v0 v1 h0 h1;cases h0 with
   |atom hv _=>simp[isP]at hv
   |osl0 a hi=>
    cases h1 with
    |atom hv _=>simp[isP]at hv
    |oss=>exact q7N w tS tR el hund ti.size hz _ _ _ _ _ _ (.inl rfl)
    |oss0=>exact q7N w tS tR el hund ti.size hz _ _ _ _ _ _ (.inl rfl)
   | @osl _ _ b0 z0 m0 cap0 c0 e0 hi0 hn0 hc0 hs0 hcs0=>
    cases h1 with
    |atom hv _=>simp[isP]at hv
    |oss0=>exact q7N w tS tR el hund ti.size hz _ _ _ _ _ _ (.inr (.inl rfl))
    | @oss _ _ _ _ b1 z1 m1 cap1 c1 e1 _ hi1 hn1 hc1 hcc1 hx1 hs1 hcs1=>
     by_cases hzero:n=0∨m=0∨ti.size=0
     ·exact q7N w tS tR el hund ti.size hz _ _ _ _ _ _ hzero
     ·obtain⟨q1,_⟩:=hE.own 0 _ b0 z0 m0 rfl hi0;obtain⟨_,_,cells,e3,hh,_⟩:=q1;obtain⟨⟨q2,_⟩,_⟩:=hE.own 1 _ b1 z1 m1 rfl hi1;have hne:b0≠b1:=fun e=>by
       have:=hE.inj 0 1 _ _ _ _ rfl rfl hi0 hi1 e;omega
      have hsz:z1=ti.size:=by rw[←q2];exact hob
      refine Lib.run_overlaps_apart w tS tR el hund ti.size hz ⟨b0,0,none⟩ ⟨b1,lo*z1,none⟩ n cap0 m cap1 hne e0 e1 c0 c1 hs0 hs1 (fun h=>?_) ?_ ?_
      ·subst h;have h3:(lo+cap1)*z1=0:=by omega
       rcases Nat.mul_eq_zero.1 h3 with h4|h4
       ·exact hzero (.inr (.inl (by omega)))
       ·exact hzero (.inr (.inr (by omega)))
      ·simp[World.frozen?,hh]
      ·simp[World.frozen?,hh]
  have e2:vals= #[vals.getD 0 Go.undef,vals.getD 1 Go.undef]:=qUF hs rfl rfl;rw[e2,key _ _ h0 h1];rfl
 ·cases hD
noncomputable def ov2:q0P:=ovD 2
noncomputable def ov5:q0P:=ovD 5
theorem q7U {α:Type} [Inhabited α] {enc:α→V} {sz n:Nat} {g:Nat→V} {zs:List α} (hn:n=zs.length) (h:∀j,j<n→g j=enc (zs.getD j default)):BLe (.arr sz n g q0l) (.arr sz zs.length (gL enc zs) q0l):=by
 subst hn;refine q1P (fun j hj=>?_) (Or.inl rfl);rw[h j hj];exact ELe.refl _
theorem qRN {α:Type} [Inhabited α] {l v:List α} {i:Nat} (hi:i≤l.length) (j:Nat):
  (l.take i++v++l.drop i).getD j default=if j<i then l.getD j default else if j<i+v.length then v.getD (j-i) default else l.getD (j-v.length) default:=by
 have h1:(l.take i).length=i:=by rw[List.length_take];omega
 simp only[List.getD_eq_getElem?_getD,List.append_assoc,List.getElem?_append,h1,List.getElem?_take,List.getElem?_drop];split
 ·rfl
 ·split
  ·rename_i h2 h3;rw[if_pos (by omega)]
  ·rename_i h2 h3;rw[if_neg (by omega)];congr 2;omega
theorem qQs {α:Type} {l v:List α} {i:Nat} (hi:i≤l.length):(l.take i++v++l.drop i).length=l.length+v.length:=by
 simp only[List.length_append,List.length_take,List.length_drop];omega
theorem xEK {α:Type} [Inhabited α] {enc:α→V} {sz:Nat} {l v:List α} (j:Nat) (hj:j<l.length+v.length):
  q3K l.length (q8i sz l.length (gL enc l)) (gL enc v) j=enc ((l.take l.length++v++l.drop l.length).getD j default):=by
 rw[qRN (Nat.le_refl _)];simp only[q3K,q8i,gL];by_cases h1:j<l.length
 ·rw[if_pos h1,if_pos h1,if_pos h1]
 ·rw[if_neg h1,if_neg h1,if_pos hj]
theorem xFA {α:Type} [Inhabited α] {enc:α→V} {sz:Nat} {l v:List α} {k:Nat} {z:Nat→V} (hk:k≤l.length) (j:Nat) (hj:j<l.length+v.length):
  q3x (q3x (q3K k (q8i sz l.length (gL enc l)) z) k v.length (gL enc v)) (k+v.length) (l.length-k) (q32 (q8i sz l.length (gL enc l)) k) j=enc ((l.take k++v++l.drop k).getD j default):=by
 rw[qRN hk];simp only[q3x,q3K,q32,q8i,gL];by_cases h1:j<k
 ·rw[if_neg (by omega),if_neg (by omega),if_pos h1,if_pos (by omega),if_pos h1]
 ·by_cases h2:j<k+v.length
  ·rw[if_neg (by omega),if_pos ⟨by omega,h2⟩,if_neg h1,if_pos h2]
  ·rw[if_pos ⟨by omega,by omega⟩,if_pos (by omega),if_neg h1,if_neg h2];congr 2;omega
theorem xE7 {α:Type} [Inhabited α] {enc:α→V} {sz:Nat} {l v:List α} {k:Nat} (hk:k≤l.length) (j:Nat) (hj:j<l.length+v.length):
  q3x (q3x (q8i sz l.length (gL enc l)) (k+v.length) (l.length-k) (q32 (q8i sz l.length (gL enc l)) k)) k v.length (gL enc v) j=enc ((l.take k++v++l.drop k).getD j default):=by
 rw[qRN hk];simp only[q3x,q32,q8i,gL];by_cases h1:j<k
 ·rw[if_neg (by omega),if_neg (by omega),if_pos (by omega),if_pos h1]
 ·by_cases h2:j<k+v.length
  ·rw[if_pos ⟨by omega,h2⟩,if_neg h1,if_pos h2]
  ·rw[if_neg (by omega),if_pos ⟨by omega,by omega⟩,if_pos (by omega),if_neg h1,if_neg h2];congr 2;omega
theorem xGI {α:Type} [Inhabited α] {enc:α→V} {sz:Nat} {l:List α} {k:Nat} {z:Nat→V} (hk:k<l.length) (j:Nat) (hj:j<k+(l.length-(k+1))) {c:Nat}:
  q3x (q3x (q8i sz l.length (gL enc l)) k (l.length-(k+1)) (q32 (q8i sz l.length (gL enc l)) (k+1))) (k+(l.length-(k+1))) c z j=enc ((l.take k++l.drop (k+1)).getD j default):=by
 have h0:(l.take k).length=k:=by rw[List.length_take];omega
 have e:(l.take k++l.drop (k+1)).getD j default=if j<k then l.getD j default else l.getD (j+1) default:=by
  simp only[List.getD_eq_getElem?_getD,List.getElem?_append,h0,List.getElem?_take,List.getElem?_drop];split
  ·rfl
  ·congr 2;omega
 rw[e];simp only[q3x,q32,q8i,gL];by_cases h1:j<k
 ·rw[if_neg (by omega),if_neg (by omega),if_pos (by omega),if_pos h1]
 ·rw[if_neg (by omega),if_pos ⟨by omega,by omega⟩,if_pos (by omega),if_neg h1];congr 2;omega
theorem q8x {α:Type} [Inhabited α] {enc:α→V} {sz n:Nat} {l:List α} (h:∀x,(enc x).cells.length=sz∧q87 (enc x)=true):q13 sz n (gL enc l):=fun i hi=>h _
theorem q7J {α:Type} [Inhabited α] {enc:α→V} {sz n k m:Nat} {l:List α} (h:∀x,(enc x).cells.length=sz∧q87 (enc x)=true) (hm:k+m≤n):q13 sz m (q32 (q8i sz n (gL enc l)) k):=fun i hi=>by
 simp only[q32,q8i];rw[if_pos (by omega)];exact h _
theorem x8M:q0R Tryz.prog 271 ov2:=qM0 htt Tryz.func271 (by kernel_rfl) (by kernel_rfl) (by kernel_rfl) (tS:=27) (tR:=4) (by kernel_rfl) rfl
noncomputable def xA2:q0P:=ov2
theorem xCf:q0R Tryz.prog 273 ov5:=qM0 htt Tryz.func273 (by kernel_rfl) (by kernel_rfl) (by kernel_rfl) (tS:=26) (tR:=4) (by kernel_rfl) rfl
noncomputable def xAl:q0P:=ov5
def qTG (xs:List Int) (v:Int):Prop:=xs.length≤maxLen
noncomputable def qZU (xs:List Int) (v:Int):V:=.int .i64 (q5l (fun x=>decide (v=x)) xs)
noncomputable def qWS:q0P:=fun args bin=>match args,bin with
 |[a0,.int .i64 a1],[]=>some (VLe a0 (q0D q42 1 (((q0K q2G) a0)))∧qTG ((q0K q2G) a0) a1,qZU ((q0K q2G) a0) a1,[])
 |_,_=>none
noncomputable def qYD (xs:List Int) (v:Int):q0M:=
 ⟨Nat,fun i=>⟨[(0,q0D q42 1 xs),(1,.int .i64 v),(7,.int .i64 xs.length),(8,.int .i64 i)],[]⟩,
  fun i=>i≤xs.length∧∀j,j<i→(fun x=>decide (v=x)) (xs.getD j default)=false,fun i=>xs.length-i⟩
noncomputable def x7R (xs:List Int) (v:Int):Nat→Option q0M:=fun rg_=>match rg_ with
 |2=>some (qYD xs v)
 |_=>none
noncomputable def xEu:=lkR []
theorem xBh:q0C Tryz.prog xEu:=q04
noncomputable def xAZ (xs:List Int) (v:Int):=cxL xEu Tryz.f263 [0,1,4,5,7,8,9,16] [(2,⟨[(0,none),(1,none),(7,none),(8,none)],[]⟩)] (x7R xs v) []
noncomputable def qBb (xs:List Int):Int:=(↑ xs.length:Int)
theorem x8t (xs:List Int) (v:Int) (hpre:qTG xs v):q0d (xAZ xs v) Tryz.f263 0 [q0D q42 1 (xs),.int .i64 (v)] (fun rr=>VLe rr (qZU xs v)):=by
 have key:((∃x:Nat,SLe (AS.mk [(0,q0D q42 1 xs),(1,vi v),(7,vi (qBb xs)),(8,vi 0)] []) (AS.mk [(0,q0D q42 1 xs),(1,vi v),(7,vi (qBb xs)),(8,vi (↑x:Int))] [])∧(x≤xs.length∧∀j:Nat,j<x→decide (v=xs.getD j default)=false))∧∀x:Nat,(x≤xs.length∧∀j:Nat,j<x→decide (v=xs.getD j default)=false)→(decide ((↑x:Int)<(qBb xs))=true→(0≤(↑x:Int)∧(↑x:Int)<(qBb xs))∧((v==xs.getD (↑x:Int).toNat default)=true→VLe (vi (↑x:Int)) (vi (q5l (fun(x:Int) ↦ decide (v=x)) xs)))∧((v==xs.getD (↑x:Int).toNat default)=false→(inK IntKind.i64 ((↑x:Int)+1)∧∃y:Nat,SLe (AS.mk [(0,q0D q42 1 xs),(1,vi v),(7,vi (qBb xs)),(8,vi ((↑x:Int)+1))] []) (AS.mk [(0,q0D q42 1 xs),(1,vi v),(7,vi (qBb xs)),(8,vi (↑y:Int))] [])∧(y≤xs.length∧∀j:Nat,j<y→decide (v=xs.getD j default)=false)∧xs.length-y<xs.length-x)))∧(decide ((↑x:Int)<(qBb xs))=false→VLe (vi (-1)) (vi (q5l (fun(x:Int) ↦ decide (v=x)) xs)))):=by
  delta qBb;delta vi;unfold qTG maxLen at hpre;refine⟨⟨0,SLe.refl _,by omega,fun j hj=>absurd hj (Nat.not_lt_zero j)⟩,?_⟩;rintro i ⟨hi,hj⟩;refine⟨fun h=>?_,fun h=>?_⟩
  ·have hlt:i<xs.length:=by simpa using h
   simp only[Int.toNat_natCast];refine⟨⟨by omega,by omega⟩,fun h2=>q0I (q3i hlt hj (by simpa using h2)).symm,fun h2=>⟨q0X (by omega),i+1,SLe.refl _,⟨by omega,fun j h3=>?_⟩,by omega⟩⟩;rcases Nat.lt_or_ge j i with h4|h4
   ·exact hj j h4
   ·have:j=i:=by omega
    subst this;simpa using h2
  ·have hge:i=xs.length:=by simp at h;omega
   exact q0I (q4b fun j h3=>hj j (by omega)).symm
 exact Eq.mp (by kernel_rfl) key
theorem x9B:q0R Tryz.prog 263 qWS:=by
 refine sob 0 Tryz.func263 fun args bin ob r bout hDe hob=>?_;unfold qWS at hDe;split at hDe
 ·rename_i a0 a1;cases hDe;exact okB (x8t ((q0K q2G) a0) a1 (hob.2)) xBh (args_of_vles ⟨hob.1,VLe.refl _,trivial⟩)
 ·cases hDe
def qXn (xs:List Int) (v:Int):Prop:=xs.length≤maxLen
noncomputable def x30 (xs:List Int) (v:Int):V:=.bool (decide (v∈xs))
noncomputable def qY0:q0P:=fun args bin=>match args,bin with
 |[a0,.int .i64 a1],[]=>some (VLe a0 (q0D q42 1 (((q0K q2G) a0)))∧qXn ((q0K q2G) a0) a1,x30 ((q0K q2G) a0) a1,[])
 |_,_=>none
noncomputable def xDd:=lkR [(263,qWS)]
theorem xBH:q0C Tryz.prog xDd:=q02 x9B (q04)
noncomputable def x81 (xs:List Int) (v:Int):=cxN xDd Tryz.f227 [0,1,4]
theorem x99 (xs:List Int) (v:Int) (hpre:qXn xs v):q0d (x81 xs v) Tryz.f227 0 [q0D q42 1 (xs),.int .i64 (v)] (fun rr=>VLe rr (x30 xs v)):=by
 have key:(VLe (q0D q42 1 xs) (q0D q42 1 (q0K q2G (q0D q42 1 xs)))∧qTG (q0K q2G (q0D q42 1 xs)) v)∧VLe (V.bool (decide (q5l (fun(x:Int) ↦ decide (v=x)) (q0K q2G (q0D q42 1 xs))≥(0:Int)))) (V.bool (decide (v∈xs))):=by
  simp only[q8f];refine⟨⟨VLe.refl _,hpre⟩,q0Z ?_⟩;refine(q6O _ _).trans ?_;rw[Bool.eq_iff_iff];simp
 exact Eq.mp (by kernel_rfl) key
theorem x5M:q0R Tryz.prog 227 qY0:=by
 refine sob 0 Tryz.func227 fun args bin ob r bout hDe hob=>?_;unfold qY0 at hDe;split at hDe
 ·rename_i a0 a1;cases hDe;exact okB (x99 ((q0K q2G) a0) a1 (hob.2)) xBH (args_of_vles ⟨hob.1,VLe.refl _,trivial⟩)
 ·cases hDe
def qTn (z:q0A) (ids:List Int):Prop:=ids.length≤maxLen
noncomputable def x06 (z:q0A) (ids:List Int):V:=.bool (q1D ids z)
noncomputable def qTi:q0P:=fun args bin=>match args,bin with
 |[a0,a1],[]=>some (VLe a0 (q01 1 ((q03 a0)))∧VLe a1 (q8d q42 1 (((q3O q2G) a1)))∧qTn (q03 a0) ((q3O q2G) a1),x06 (q03 a0) ((q3O q2G) a1),[])
 |_,_=>none
noncomputable def xD3:=lkR [(227,qY0)]
theorem xCH:q0C Tryz.prog xD3:=q02 x5M (q04)
noncomputable def x9n (z:q0A) (ids:List Int):=cxN xD3 Tryz.f226 [0,1,2,3]
theorem x7j (z:q0A) (ids:List Int) (hpre:qTn z ids):q0d (x9n z ids) Tryz.f226 0 [q01 1 (z),q8d q42 1 (ids)] (fun rr=>VLe rr (x06 z ids)):=by
 have key:tq (z.owner !=0)∧tq (z.owner !=0)∧tq (z.owner !=0)∧((z.owner !=0)=true→VLe (q0D q42 1 ids) (q0D q42 1 (q0K q2G (q0D q42 1 ids)))∧qXn (q0K q2G (q0D q42 1 ids)) z.owner)∧((true=true→(z.owner !=0)=true→(z.owner !=0)=true)∧∀b:Bool,(b=bif q0A.owner z !=0 then decide (z.owner∈q0K q2G (q0D q42 1 ids))else false)→VLe (V.bool b) (V.bool (q1D ids z))):=by
  have hl:ids.length≤maxLen:=hpre;simp only[q8f]
  repeat (first|refine And.intro (fun h _=>h) ?_|refine And.intro (fun _ h=>h) ?_|refine And.intro (fun _=>⟨VLe.refl _,hl⟩) ?_)
  intro q hq;refine q0Z ?_;rw[hq];unfold q1D;rw[Bool.eq_iff_iff,decide_eq_true_eq];by_cases a1:z.owner=0<;>simp[a1]
 exact Eq.mp (by kernel_rfl) key
theorem x0P:q0R Tryz.prog 226 qTi:=by
 refine sob 0 Tryz.func226 fun args bin ob r bout hDe hob=>?_;unfold qTi at hDe;split at hDe
 ·rename_i a0 a1;cases hDe;exact okB (x7j (q03 a0) ((q3O q2G) a1) (hob.2.2)) xCH (args_of_vles ⟨hob.1,hob.2.1,trivial⟩)
 ·cases hDe
def qYM (l:List q07) (i:Int) (v:List q07):Prop:=0≤i∧i≤l.length∧0<v.length∧l.length+v.length≤1000
noncomputable def qAo (l:List q07) (i:Int) (v:List q07):List q07:=l.take i.toNat++v++l.drop i.toNat
noncomputable def x2I (l:List q07) (i:Int) (v:List q07):List Blk:=[(.arr 2 (qAo l i v).length (gL (q00 1) (qAo l i v)) q0l)]
noncomputable def qZW (l:List q07) (i:Int) (v:List q07):V:=.osl 0 (qAo l i v).length
noncomputable def qVw:q0P:=fun args bin=>match args,bin with
 |[.osl i0 m0,.int .i64 a1,.osl i2 m2],[.arr s0 n0 g0 t0,.arr s2 n2 g2 t2]=>some ((i0=0∧s0=2∧t0=q0l∧n0=m0∧∀i,i<n0→ELe (g0 i) (gL (q00 1) ((q0K q05) (.sl n0 g0 1)) i))∧(i2=1∧s2=2∧t2=q0l∧n2=m2∧∀i,i<n2→ELe (g2 i) (gL (q00 1) ((q0K q05) (.sl n2 g2 1)) i))∧qYM ((q0K q05) (.sl n0 g0 1)) a1 ((q0K q05) (.sl n2 g2 1)),qZW ((q0K q05) (.sl n0 g0 1)) a1 ((q0K q05) (.sl n2 g2 1)),x2I ((q0K q05) (.sl n0 g0 1)) a1 ((q0K q05) (.sl n2 g2 1)))
 |_,_=>none
noncomputable def xDx:Nat→Option (Fl×q0P):=lk [(271,(.rw,xA2)),(272,(.ro,noD (.int .i64 0)))]
theorem x89:q0C Tryz.prog xDx:=q02 x8M (q02 qKX (q04))
noncomputable def x1T (l:List q07) (i:Int) (v:List q07):=cxN xDx Tryz.f235 [0,1,2,6,7,8,9,16,22,31,68]
noncomputable def q0O (l:List q07):Int:=(↑ l.length:Int)
noncomputable def q1U (v:List q07):Int:=(↑ v.length:Int)
def qL9 (l:List q07) (v:List q07) (cp_:Nat):Prop:=Option.getD none (↑ ((Option.getD (some ((q0O l)+(q1U v))) (q0O l)).toNat-0):Int)≤(↑ (cp_-(Option.getD none (0:Int)).toNat):Int)∧0+(Option.getD none (↑ ((Option.getD (some ((q0O l)+(q1U v))) (q0O l)).toNat-0):Int)).toNat≤cp_
def qKl (l:List q07) (i:Int) (v:List q07) (cp_:Nat):Prop:=(0:Int)≤Option.getD (some i) (0:Int)∧Option.getD (some i) (0:Int)≤Option.getD none (↑ ((Option.getD (some ((q0O l)+(q1U v))) (q0O l)).toNat-0):Int)∧qL9 l v cp_
noncomputable def qIJ (l:List q07) (i:Int):Nat→V:=q32 (q8i 2 l.length (gL (q00 1) l)) (match some i with|none=>0|some l=>0+l.toNat)
noncomputable def qEH (l:List q07) (i:Int) (v:List q07):Blk:=Blk.arr 2 (qAo l i v).length (gL (q00 1) (qAo l i v)) 100
def qPX (l:List q07) (i:Int) (cp_:Nat):Prop:=(0:Int)≤Option.getD (some i) (0:Int)∧Option.getD (some i) (0:Int)≤Option.getD none (q0O l)∧Option.getD none (q0O l)≤(↑cp_:Int)∧0+(Option.getD none (q0O l)).toNat≤cp_
def qOI (l:List q07) (i:Int) (v:List q07):Prop:=Option.getD none (↑ ((Option.getD (some i) (q0O l)).toNat-0+((q0O l)+(q1U v)-i).toNat):Int)≤(↑ ((Option.getD (some i) (q0O l)).toNat-0+((q0O l)+(q1U v)-i).toNat):Int)
def qQh (l:List q07) (i:Int) (v:List q07) (cp_:Nat):Prop:=(0:Int)≤Option.getD (some (i+(q1U v))) (0:Int)∧Option.getD (some (i+(q1U v))) (0:Int)≤Option.getD none (↑ ((Option.getD (some ((q0O l)+(q1U v))) (q0O l)).toNat-0):Int)∧qL9 l v cp_
noncomputable def qAL (v:List q07):Nat→V:=gL (q00 1) v
def qIp (l:List q07) (i:Int) (v:List q07):Prop:=VLe (V.osl 0 ((Option.getD (some ((q0O l)+(q1U v))) (q0O l)).toNat-0)) (V.osl 0 (qAo l i v).length)
theorem x6t (l:List q07) (i:Int) (v:List q07) (cp_:Nat) (hcp_:l.length≤cp_) (hpre:qYM l i v):qAG (x1T l i v) Tryz.f235 [(0,2)] [.oss 25600000 0 (l).length cp_ true,.int .i64 (i),.osl 25600064 (v).length] [(25600000,.arr 2 cp_ (q8i 2 l.length (gL (q00 1) l)) q0l),(25600064,.arr 2 v.length (gL (q00 1) v) q0l)] (fun rr bs=>VLe rr (qZW l i v)∧q1y bs (x2I l i v)):=by
 have key:qPX l i cp_∧(((q1U v)==(0:Int))=true→VLe (V.osl 0 l.length) (V.osl 0 (qAo l i v).length)∧BLe (Blk.arr 2 l.length (q8i 2 l.length (gL (q00 1) l)) 100) (qEH l i v)∧True)∧(((q1U v)==(0:Int))=false→((i==(q0O l))=true→l.length≤cp_∧l.length+v.length≤1073741824∧q13 2 v.length (qAL v)∧VLe (V.osl 0 (l.length+v.length)) (V.osl 0 (qAo l i v).length)∧BLe (Blk.arr 2 (l.length+v.length) (q3K l.length (q8i 2 l.length (gL (q00 1) l)) (qAL v)) 100) (qEH l i v)∧True)∧((i==(q0O l))=false→inK IntKind.i64 ((q0O l)+(q1U v))∧(decide ((q0O l)+(q1U v)>(↑cp_:Int))=true→((0:Int)≤Option.getD none (0:Int)∧Option.getD none (0:Int)≤Option.getD (some i) (q0O l)∧Option.getD (some i) (q0O l)≤(↑cp_:Int)∧0+(Option.getD (some i) (q0O l)).toNat≤cp_)∧inK IntKind.i64 ((q0O l)+(q1U v))∧inK IntKind.i64 ((q0O l)+(q1U v)-i)∧0≤(q0O l)+(q1U v)-i∧(Option.getD (some i) (q0O l)).toNat-0≤cp_∧cp_-(Option.getD none (0:Int)).toNat<(Option.getD (some i) (q0O l)).toNat-0+((q0O l)+(q1U v)-i).toNat∧(Option.getD (some i) (q0O l)).toNat-0+((q0O l)+(q1U v)-i).toNat≤1073741824∧(0≤i∧i≤Option.getD none (↑ ((Option.getD (some i) (q0O l)).toNat-0+((q0O l)+(q1U v)-i).toNat):Int)∧qOI l i v)∧q13 2 (min ((Option.getD none (↑ ((Option.getD (some i) (q0O l)).toNat-0+((q0O l)+(q1U v)-i).toNat):Int)).toNat-i.toNat) v.length) (qAL v)∧inK IntKind.i64 (i+(q1U v))∧(0≤i+(q1U v)∧i+(q1U v)≤Option.getD none (↑ ((Option.getD (some i) (q0O l)).toNat-0+((q0O l)+(q1U v)-i).toNat):Int)∧qOI l i v)∧qPX l i cp_∧q13 2 (min ((Option.getD none (↑ ((Option.getD (some i) (q0O l)).toNat-0+((q0O l)+(q1U v)-i).toNat):Int)).toNat-(i+(q1U v)).toNat) ((Option.getD none (q0O l)).toNat-(Option.getD (some i) (0:Int)).toNat)) (qIJ l i)∧VLe (V.osl 0 ((Option.getD (some i) (q0O l)).toNat-0+((q0O l)+(q1U v)-i).toNat)) (V.osl 0 (qAo l i v).length)∧BLe (Blk.arr 2 ((Option.getD (some i) (q0O l)).toNat-0+((q0O l)+(q1U v)-i).toNat) (q3x (q3x (q3K ((Option.getD (some i) (q0O l)).toNat-0) (q8i 2 l.length (gL (q00 1) l)) fun(x:Nat) ↦ V.agg [vi 0,vi 0]) i.toNat (min ((Option.getD none (↑ ((Option.getD (some i) (q0O l)).toNat-0+((q0O l)+(q1U v)-i).toNat):Int)).toNat-i.toNat) v.length) (qAL v)) (i+(q1U v)).toNat (min ((Option.getD none (↑ ((Option.getD (some i) (q0O l)).toNat-0+((q0O l)+(q1U v)-i).toNat):Int)).toNat-(i+(q1U v)).toNat) ((Option.getD none (q0O l)).toNat-(Option.getD (some i) (0:Int)).toNat)) (qIJ l i)) 100) (qEH l i v)∧True)∧(decide ((q0O l)+(q1U v)>(↑cp_:Int))=false→inK IntKind.i64 ((q0O l)+(q1U v))∧((0:Int)≤Option.getD none (0:Int)∧Option.getD none (0:Int)≤Option.getD (some ((q0O l)+(q1U v))) (q0O l)∧Option.getD (some ((q0O l)+(q1U v))) (q0O l)≤(↑cp_:Int)∧0+(Option.getD (some ((q0O l)+(q1U v))) (q0O l)).toNat≤cp_)∧inK IntKind.i64 (i+(q1U v))∧qQh l i v cp_∧2=2∧v.length=v.length∧cp_=cp_∧((!false)=true→inK IntKind.i64 (i+(q1U v))∧qQh l i v cp_∧qKl l i v cp_∧q13 2 (min ((Option.getD none (↑ ((Option.getD (some ((q0O l)+(q1U v))) (q0O l)).toNat-0):Int)).toNat-(Option.getD (some (i+(q1U v))) (0:Int)).toNat) ((Option.getD none (↑ ((Option.getD (some ((q0O l)+(q1U v))) (q0O l)).toNat-0):Int)).toNat-(Option.getD (some i) (0:Int)).toNat)) (qIJ l i)∧qKl l i v cp_∧q13 2 (min ((Option.getD none (↑ ((Option.getD (some ((q0O l)+(q1U v))) (q0O l)).toNat-0):Int)).toNat-(Option.getD (some i) (0:Int)).toNat) v.length) (qAL v)∧qIp l i v∧BLe (Blk.arr 2 ((Option.getD (some ((q0O l)+(q1U v))) (q0O l)).toNat-0) (q3x (q3x (q8i 2 l.length (gL (q00 1) l)) (match some (i+(q1U v))with|none=>0|some l=>0+l.toNat) (min ((Option.getD none (↑ ((Option.getD (some ((q0O l)+(q1U v))) (q0O l)).toNat-0):Int)).toNat-(Option.getD (some (i+(q1U v))) (0:Int)).toNat) ((Option.getD none (↑ ((Option.getD (some ((q0O l)+(q1U v))) (q0O l)).toNat-0):Int)).toNat-(Option.getD (some i) (0:Int)).toNat)) (qIJ l i)) (match some i with|none=>0|some l=>0+l.toNat) (min ((Option.getD none (↑ ((Option.getD (some ((q0O l)+(q1U v))) (q0O l)).toNat-0):Int)).toNat-(Option.getD (some i) (0:Int)).toNat) v.length) (qAL v)) 100) (qEH l i v)∧True)∧((!false)=false→((0:Int)≤Option.getD (some (q0O l)) (0:Int)∧Option.getD (some (q0O l)) (0:Int)≤Option.getD none (↑ ((Option.getD (some ((q0O l)+(q1U v))) (q0O l)).toNat-0):Int)∧qL9 l v cp_)∧q13 2 (min ((Option.getD none (↑ ((Option.getD (some ((q0O l)+(q1U v))) (q0O l)).toNat-0):Int)).toNat-(Option.getD (some (q0O l)) (0:Int)).toNat) v.length) (qAL v)∧qKl l i v cp_∧False∧qIp l i v∧BLe (Blk.arr 2 ((Option.getD (some ((q0O l)+(q1U v))) (q0O l)).toNat-0) (q3x (q8i 2 l.length (gL (q00 1) l)) (match some (q0O l)with|none=>0|some l=>0+l.toNat) (min ((Option.getD none (↑ ((Option.getD (some ((q0O l)+(q1U v))) (q0O l)).toNat-0):Int)).toNat-(Option.getD (some (q0O l)) (0:Int)).toNat) v.length) (qAL v)) 100) (qEH l i v)∧True)))):=by
  delta qIp;delta qAL;delta qQh;delta qOI;delta qPX;delta qEH;delta qIJ;delta qKl;delta qL9;delta q1U;delta q0O;delta vi;obtain⟨h1,h2,h3,h4⟩:=hpre;obtain⟨k,rfl⟩:=Int.eq_ofNat_of_zero_le h1;have hk:k≤l.length:=by omega
  have e0:qAo l (k:Int) v=l.take k++v++l.drop k:=rfl;have el:(qAo l (k:Int) v).length=l.length+v.length:=by rw[e0,qQs hk]
  have t1:((l.length:Int)+(v.length:Int)-(k:Int)).toNat=l.length+v.length-k:=by omega
  have t2:k+(l.length+v.length-k)=l.length+v.length:=by omega
  have t3:((k:Int)+(v.length:Int)).toNat=k+v.length:=by omega
  have t4:((l.length:Int)+(v.length:Int)).toNat=l.length+v.length:=by omega
  have t5:l.length+v.length-(k+v.length)=l.length-k:=by omega
  have t6:min (l.length+v.length-k) v.length=v.length:=by omega
  have t7:min (l.length-k) (l.length-k)=l.length-k:=by omega
  have t8:min (l.length-k) (l.length+v.length-k)=l.length-k:=by omega
  have enc1:∀x:q07,(q00 1 x).cells.length=2∧q87 (q00 1 x)=true:=fun x=>⟨rfl,rfl⟩;simp only[Option.getD_some,Option.getD_none,Int.toNat_natCast,Nat.sub_zero,Nat.zero_add,t1,t2,t3,t4,t5,t6,t7,t8,Int.toNat_zero,el];refine⟨⟨by omega,by omega,by omega,by omega⟩,fun h=>?_,fun _=>⟨fun h=>?_,fun h=>⟨q0X (by omega),fun h5=>?_,fun h5=>?_⟩⟩⟩
  ·have:=eq_of_beq h;omega
  ·have hkn:k=l.length:=by have:=eq_of_beq h;omega
   subst hkn;refine⟨by omega,by omega,q8x enc1,VLe.refl _,?_,trivial⟩;rw[←el];exact q7U rfl fun j hj=>by rw[el]at hj;exact xEK j hj
  ·have h6:=of_decide_eq_true h5;refine⟨⟨by omega,by omega,by omega,by omega⟩,q0X (by omega),q0X (by omega),by omega,by omega,by omega,by omega,⟨by omega,by omega,by omega⟩,q8x enc1,q0X (by omega),⟨by omega,by omega,by omega⟩,⟨by omega,by omega,by omega,by omega⟩,q7J enc1 (by omega),VLe.refl _,?_,trivial⟩;rw[←el];exact q7U rfl fun j hj=>by rw[el]at hj;exact xFA hk j hj
  ·have h6:=of_decide_eq_false h5;refine⟨q0X (by omega),⟨by omega,by omega,by omega,by omega⟩,q0X (by omega),⟨by omega,by omega,by omega,by omega⟩,trivial,trivial,trivial,fun _=>?_,fun h7=>absurd h7 (by decide)⟩;refine⟨q0X (by omega),⟨by omega,by omega,by omega,by omega⟩,⟨by omega,by omega,by omega,by omega⟩,q7J enc1 (by omega),⟨by omega,by omega,by omega,by omega⟩,q8x enc1,VLe.refl _,?_,trivial⟩;rw[←el];exact q7U rfl fun j hj=>by rw[el]at hj;exact xE7 hk j hj
 exact Eq.mp (by kernel_rfl) key
theorem x7s:q8g Tryz.prog 235 qVw:=by
 refine q47 q77 (tpl:=[(0,2)]) Tryz.func235 rfl (by kernel_rfl) fun args bin ob r bout hDe hob=>?_;unfold qVw at hDe;split at hDe
 ·rename_i i0 m0 a1 i2 m2 s0 n0 g0 t0 s2 n2 g2 t2;cases hDe;obtain⟨⟨rfl,rfl,rfl,rfl,hg0⟩,⟨rfl,rfl,rfl,rfl,hg2⟩,hpre⟩:=hob;exact⟨Nat.le_of_ble_eq_true (by kernel_rfl),x1T ((q0K q05) (.sl n0 g0 1)) a1 ((q0K q05) (.sl n2 g2 1)),Eq.mp (by kernel_rfl) htt,Eq.mp (by kernel_rfl) x89,Eq.mp (by kernel_rfl) (q2n (P:=Tryz.prog)),by kernel_rfl,true,n0,2,q0l,g0,gL (q00 1) ((q0K q05) (.sl n0 g0 1)),[.int .i64 a1,.osl 1 n2],[.int .i64 (a1),.osl 1 (((q0K q05) (.sl n2 g2 1))).length],[.arr 2 n2 g2 q0l],[.arr 2 (((q0K q05) (.sl n2 g2 1))).length (gL (q00 1) ((q0K q05) (.sl n2 g2 1))) q0l],rfl,rfl,args_of_vles (l':=[.int .i64 (a1),.osl 1 (((q0K q05) (.sl n2 g2 1))).length]) ⟨VLe.refl _,VLe.of_eq (by rw[q3y]),trivial⟩,rfl,q1P (fun i hi=>hg0 i hi) (Or.inl rfl),⟨q6m hg2,trivial⟩,rfl,(((q0K q05) (.sl n0 g0 1))).length,(q3y _ _ _ _).symm,.inl fun cp_ hcp_=>Eq.mp (by kernel_rfl) (x6t ((q0K q05) (.sl n0 g0 1)) a1 ((q0K q05) (.sl n2 g2 1)) cp_ hcp_ hpre)⟩
 ·cases hDe
def qWH (l:List q0A) (i:Int) (j:Int):Prop:=0≤i∧i<l.length∧j=i+1∧l.length≤1000
noncomputable def qBk (l:List q0A) (i:Int) (j:Int):List q0A:=l.take i.toNat++l.drop (i.toNat+1)
noncomputable def x0m (l:List q0A) (i:Int) (j:Int):List Blk:=[(.arr 5 (qBk l i j).length (gL (q01 1) (qBk l i j)) q0l)]
noncomputable def x1R (l:List q0A) (i:Int) (j:Int):V:=.osl 0 (qBk l i j).length
noncomputable def qWd:q0P:=fun args bin=>match args,bin with
 |[.osl i0 m0,.int .i64 a1,.int .i64 a2],[.arr s0 n0 g0 t0]=>some ((i0=0∧s0=5∧t0=q0l∧n0=m0∧∀i,i<n0→ELe (g0 i) (gL (q01 1) ((q0K q03) (.sl n0 g0 1)) i))∧qWH ((q0K q03) (.sl n0 g0 1)) a1 a2,x1R ((q0K q03) (.sl n0 g0 1)) a1 a2,x0m ((q0K q03) (.sl n0 g0 1)) a1 a2)
 |_,_=>none
noncomputable def xDg:=lkR []
theorem x5g:q0C Tryz.prog xDg:=q04
noncomputable def x40 (l:List q0A) (i:Int) (j:Int):=cxN xDg Tryz.f243 [0,1,2,6,7,16]
noncomputable def q0G (l:List q0A):Int:=(↑ l.length:Int)
noncomputable def qOP (l:List q0A) (j:Int):Nat→V:=q32 (q8i 5 l.length (gL (q01 1) l)) (match some j with|none=>0|some l=>0+l.toNat)
theorem x65 (l:List q0A) (i:Int) (j:Int) (cp_:Nat) (hcp_:l.length≤cp_) (hpre:qWH l i j):qAG (x40 l i j) Tryz.f243 [(0,5)] [.oss 25600000 0 (l).length cp_ false,.int .i64 (i),.int .i64 (j)] [(25600000,.arr 5 cp_ (q8i 5 l.length (gL (q01 1) l)) q0l)] (fun rr bs=>VLe rr (x1R l i j)∧q1y bs (x0m l i j)):=by
 have key:((0:Int)≤Option.getD (some i) (0:Int)∧Option.getD (some i) (0:Int)≤j∧j≤(q0G l)∧(q0G l)≤(↑cp_:Int))∧((i==j)=true→VLe (V.osl 0 l.length) (V.osl 0 (qBk l i j).length)∧BLe (Blk.arr 5 l.length (q8i 5 l.length (gL (q01 1) l)) 100) (Blk.arr 5 (qBk l i j).length (gL (q01 1) (qBk l i j)) 100)∧True)∧((i==j)=false→((0:Int)≤Option.getD none (0:Int)∧Option.getD none (0:Int)≤Option.getD (some i) (q0G l)∧Option.getD (some i) (q0G l)≤(↑cp_:Int)∧0+(Option.getD (some i) (q0G l)).toNat≤cp_)∧((0:Int)≤Option.getD (some j) (0:Int)∧Option.getD (some j) (0:Int)≤Option.getD none (q0G l)∧Option.getD none (q0G l)≤(↑cp_:Int)∧0+(Option.getD none (q0G l)).toNat≤cp_)∧(Option.getD (some i) (q0G l)).toNat-0+((Option.getD none (q0G l)).toNat-(Option.getD (some j) (0:Int)).toNat)≤cp_-(Option.getD none (0:Int)).toNat∧(Option.getD (some i) (q0G l)).toNat-0+((Option.getD none (q0G l)).toNat-(Option.getD (some j) (0:Int)).toNat)≤cp_∧q13 5 ((Option.getD none (q0G l)).toNat-(Option.getD (some j) (0:Int)).toNat) (qOP l j)∧((0:Int)≤Option.getD (some (↑ ((Option.getD (some i) (q0G l)).toNat-0+((Option.getD none (q0G l)).toNat-(Option.getD (some j) (0:Int)).toNat)):Int)) (0:Int)∧Option.getD (some (↑ ((Option.getD (some i) (q0G l)).toNat-0+((Option.getD none (q0G l)).toNat-(Option.getD (some j) (0:Int)).toNat)):Int)) (0:Int)≤Option.getD (some (q0G l)) (↑ ((Option.getD (some i) (q0G l)).toNat-0+((Option.getD none (q0G l)).toNat-(Option.getD (some j) (0:Int)).toNat)):Int)∧Option.getD (some (q0G l)) (↑ ((Option.getD (some i) (q0G l)).toNat-0+((Option.getD none (q0G l)).toNat-(Option.getD (some j) (0:Int)).toNat)):Int)≤(↑ (cp_-(Option.getD none (0:Int)).toNat):Int)∧0+(Option.getD (some (q0G l)) (↑ ((Option.getD (some i) (q0G l)).toNat-0+((Option.getD none (q0G l)).toNat-(Option.getD (some j) (0:Int)).toNat)):Int)).toNat≤cp_)∧VLe (V.osl 0 ((Option.getD (some i) (q0G l)).toNat-0+((Option.getD none (q0G l)).toNat-(Option.getD (some j) (0:Int)).toNat))) (V.osl 0 (qBk l i j).length)∧BLe (Blk.arr 5 ((Option.getD (some i) (q0G l)).toNat-0+((Option.getD none (q0G l)).toNat-(Option.getD (some j) (0:Int)).toNat)) (q3x (q3x (q8i 5 l.length (gL (q01 1) l)) ((Option.getD (some i) (q0G l)).toNat-0) ((Option.getD none (q0G l)).toNat-(Option.getD (some j) (0:Int)).toNat) (qOP l j)) (match some (↑ ((Option.getD (some i) (q0G l)).toNat-0+((Option.getD none (q0G l)).toNat-(Option.getD (some j) (0:Int)).toNat)):Int)with|none=>0|some l=>0+l.toNat) ((Option.getD (some (q0G l)) (↑ ((Option.getD (some i) (q0G l)).toNat-0+((Option.getD none (q0G l)).toNat-(Option.getD (some j) (0:Int)).toNat)):Int)).toNat-(Option.getD (some (↑ ((Option.getD (some i) (q0G l)).toNat-0+((Option.getD none (q0G l)).toNat-(Option.getD (some j) (0:Int)).toNat)):Int)) (0:Int)).toNat) fun(x:Nat) ↦ V.agg [V.str (ByteArray.mk #[]),vi 0,vi 0,vi 0,vi 0]) 100) (Blk.arr 5 (qBk l i j).length (gL (q01 1) (qBk l i j)) 100)∧True):=by
  delta qOP;delta q0G;delta vi;obtain⟨h1,h2,h3,h4⟩:=hpre;obtain⟨k,rfl⟩:=Int.eq_ofNat_of_zero_le h1;subst h3;have t1:((k:Int)+1).toNat=k+1:=by omega
  simp only[Option.getD_some,Option.getD_none,Int.toNat_natCast,Nat.sub_zero,Nat.zero_add,t1];have hk:k<l.length:=by omega
  have e0:qBk l (k:Int) ((k:Int)+1)=l.take k++l.drop (k+1):=rfl;have el:(qBk l (k:Int) ((k:Int)+1)).length=k+(l.length-(k+1)):=by
   rw[e0,List.length_append,List.length_take,List.length_drop];omega
  have enc1:∀x:q0A,(q01 1 x).cells.length=5∧q87 (q01 1 x)=true:=fun x=>⟨rfl,rfl⟩;simp only[Int.toNat_zero,Nat.sub_zero,el];refine⟨⟨by omega,by omega,by omega,by omega⟩,fun h=>?_,fun _=>⟨⟨by omega,by omega,by omega,by omega⟩,⟨by omega,by omega,by omega,by omega⟩,by omega,by omega,q7J enc1 (by omega),⟨by omega,by omega,by omega,by omega⟩,VLe.refl _,?_,trivial⟩⟩
  ·have:=eq_of_beq h;omega
  ·rw[←el];refine q7U rfl fun j hj=>?_;rw[el]at hj;rw[el];exact xGI hk j hj
 exact Eq.mp (by kernel_rfl) key
theorem xCZ:q8g Tryz.prog 243 qWd:=by
 refine q47 q77 (tpl:=[(0,5)]) Tryz.func243 rfl (by kernel_rfl) fun args bin ob r bout hDe hob=>?_;unfold qWd at hDe;split at hDe
 ·rename_i i0 m0 a1 a2 s0 n0 g0 t0;cases hDe;obtain⟨⟨rfl,rfl,rfl,rfl,hg0⟩,hpre⟩:=hob;exact⟨Nat.le_of_ble_eq_true (by kernel_rfl),x40 ((q0K q03) (.sl n0 g0 1)) a1 a2,Eq.mp (by kernel_rfl) htt,Eq.mp (by kernel_rfl) x5g,Eq.mp (by kernel_rfl) (q2n (P:=Tryz.prog)),by kernel_rfl,false,n0,5,q0l,g0,gL (q01 1) ((q0K q03) (.sl n0 g0 1)),[.int .i64 a1,.int .i64 a2],[.int .i64 (a1),.int .i64 (a2)],[],[],rfl,rfl,args_of_vles (l':=[.int .i64 (a1),.int .i64 (a2)]) ⟨VLe.refl _,VLe.refl _,trivial⟩,rfl,q1P (fun i hi=>hg0 i hi) (Or.inl rfl),trivial,rfl,(((q0K q03) (.sl n0 g0 1))).length,(q3y _ _ _ _).symm,.inl fun cp_ hcp_=>Eq.mp (by kernel_rfl) (x65 ((q0K q03) (.sl n0 g0 1)) a1 a2 cp_ hcp_ hpre)⟩
 ·cases hDe
theorem qQL {g h:Nat→V}:q3K 0 g h=h:=by funext i;simp[q3K]
theorem qG3 (l:List Int):q3O q2G (.ptr [q0D q42 1 l] 0 1)=l:=qOY (fun _=>rfl) 1 l
def qCY (xs:List q07):Prop:=xs.length≤1000
noncomputable def q2f (xs:List q07):List q07:=xs
noncomputable def qUg (xs:List q07):List Blk:=[(.arr 2 (q2f xs).length (gL (q00 1) (q2f xs)) q0l)]
noncomputable def qUM (xs:List q07):V:=.osl 0 (q2f xs).length
noncomputable def qCL:q0P:=fun args bin=>match args,bin with
 |[a0],[]=>some (VLe a0 (q0D (q00 1) 1 (((q0K q05) a0)))∧qCY ((q0K q05) a0),qUM ((q0K q05) a0),qUg ((q0K q05) a0))
 |_,_=>none
noncomputable def x3d:=lkR []
theorem x2K:q0C Tryz.prog x3d:=q04
noncomputable def x2T (xs:List q07):Cx:=⟨tt,x3d,Tryz.f163.ntmps,[0,2,4],[],[],fun _=>none,[1],noM,[]⟩
theorem qZr (xs:List q07) (hpre:qCY xs):q3h (x2T xs) Tryz.f163 [(0,2)] [q0D (q00 1) 1 (xs)] [] (fun rr bs=>VLe rr (qUM xs)∧q1y bs (qUg xs)):=by
 have key:(∀b:Bool,(b=true→xs.length=0)→(b=true→VLe (V.osl 0 0) (V.osl 0 (q2f xs).length)∧BLe (Blk.arr 2 0 (fun(x:Nat) ↦ V.undef) 100) (Blk.arr 2 (q2f xs).length (gL (q00 1) (q2f xs)) 100)∧True)∧(b=false→0=0∧0+xs.length≤1073741824∧q13 2 xs.length (gL (q00 1) xs)∧(∀i:Nat,i<xs.length→q86 (q00 1 (xs.getD i default))=true)∧VLe (V.osl 0 (0+xs.length)) (V.osl 0 (q2f xs).length)∧BLe (Blk.arr 2 (0+xs.length) (q3K 0 (q3C []) (gL (q00 1) xs)) 100) (Blk.arr 2 (q2f xs).length (gL (q00 1) (q2f xs)) 100)∧True)):=by
  have hl:xs.length≤1000:=hpre;unfold q2f;refine fun b hb=>⟨fun h=>?_,fun h=>⟨rfl,by omega,fun k hk=>⟨rfl,rfl⟩,fun k hk=>rfl,?_⟩⟩
  ·have:xs=[]:=List.length_eq_zero_iff.1 (hb h);subst this;exact⟨VLe.refl _,q3G _,trivial⟩
  ·rw[Nat.zero_add,qQL];exact⟨VLe.refl _,BLe.refl _,trivial⟩
 exact Eq.mp (by kernel_rfl) key
theorem qHj:q0R Tryz.prog 163 qCL:=by
 refine q0S q77 (tpl:=[(0,2)]) Tryz.func163 rfl (by kernel_rfl) fun args bin ob r bout hDe hob=>?_;unfold qCL at hDe;split at hDe
 ·rename_i a0;cases hDe;exact okQ (qZr ((q0K q05) a0) (hob.2)) x2K (args_of_vles ⟨hob.1,trivial⟩) trivial
 ·cases hDe
def qAD (xs:List q0A):Prop:=xs.length≤1000
noncomputable def q30 (xs:List q0A):List q0A:=xs
noncomputable def qUp (xs:List q0A):List Blk:=[(.arr 5 (q30 xs).length (gL (q01 1) (q30 xs)) q0l)]
noncomputable def qUk (xs:List q0A):V:=.osl 0 (q30 xs).length
noncomputable def qA0:q0P:=fun args bin=>match args,bin with
 |[a0],[]=>some (VLe a0 (q0D (q01 1) 1 (((q0K q03) a0)))∧qAD ((q0K q03) a0),qUk ((q0K q03) a0),qUp ((q0K q03) a0))
 |_,_=>none
noncomputable def qZx:=lkR []
theorem x2U:q0C Tryz.prog qZx:=q04
noncomputable def x2r (xs:List q0A):Cx:=⟨tt,qZx,Tryz.f162.ntmps,[0,2,4],[],[],fun _=>none,[1],noM,[]⟩
theorem x1z (xs:List q0A) (hpre:qAD xs):q3h (x2r xs) Tryz.f162 [(0,5)] [q0D (q01 1) 1 (xs)] [] (fun rr bs=>VLe rr (qUk xs)∧q1y bs (qUp xs)):=by
 have key:(∀b:Bool,(b=true→xs.length=0)→(b=true→VLe (V.osl 0 0) (V.osl 0 (q30 xs).length)∧BLe (Blk.arr 5 0 (fun(x:Nat) ↦ V.undef) 100) (Blk.arr 5 (q30 xs).length (gL (q01 1) (q30 xs)) 100)∧True)∧(b=false→0=0∧0+xs.length≤1073741824∧q13 5 xs.length (gL (q01 1) xs)∧(∀i:Nat,i<xs.length→q86 (q01 1 (xs.getD i default))=true)∧VLe (V.osl 0 (0+xs.length)) (V.osl 0 (q30 xs).length)∧BLe (Blk.arr 5 (0+xs.length) (q3K 0 (q3C []) (gL (q01 1) xs)) 100) (Blk.arr 5 (q30 xs).length (gL (q01 1) (q30 xs)) 100)∧True)):=by
  have hl:xs.length≤1000:=hpre;unfold q30;refine fun b hb=>⟨fun h=>?_,fun h=>⟨rfl,by omega,fun k hk=>⟨rfl,rfl⟩,fun k hk=>rfl,?_⟩⟩
  ·have:xs=[]:=List.length_eq_zero_iff.1 (hb h);subst this;exact⟨VLe.refl _,q3G _,trivial⟩
  ·rw[Nat.zero_add,qQL];exact⟨VLe.refl _,BLe.refl _,trivial⟩
 exact Eq.mp (by kernel_rfl) key
theorem qCq:q0R Tryz.prog 162 qA0:=by
 refine q0S q77 (tpl:=[(0,5)]) Tryz.func162 rfl (by kernel_rfl) fun args bin ob r bout hDe hob=>?_;unfold qA0 at hDe;split at hDe
 ·rename_i a0;cases hDe;exact okQ (x1z ((q0K q03) a0) (hob.2)) x2U (args_of_vles ⟨hob.1,trivial⟩) trivial
 ·cases hDe
def qF1 (xs:List q0U):Prop:=xs.length≤1000
noncomputable def q3M (xs:List q0U):List q0U:=xs
noncomputable def qUL (xs:List q0U):List Blk:=[(.arr 5 (q3M xs).length (gL (q09 1) (q3M xs)) q0l)]
noncomputable def qVF (xs:List q0U):V:=.osl 0 (q3M xs).length
noncomputable def qIR:q0P:=fun args bin=>match args,bin with
 |[a0],[]=>some (VLe a0 (q0D (q09 1) 1 (((q0K q0H) a0)))∧qF1 ((q0K q0H) a0),qVF ((q0K q0H) a0),qUL ((q0K q0H) a0))
 |_,_=>none
noncomputable def x2Z:=lkR []
theorem x3P:q0C Tryz.prog x2Z:=q04
noncomputable def x2h (xs:List q0U):Cx:=⟨tt,x2Z,Tryz.f161.ntmps,[0,2,4],[],[],fun _=>none,[1],noM,[]⟩
theorem x3D (xs:List q0U) (hpre:qF1 xs):q3h (x2h xs) Tryz.f161 [(0,5)] [q0D (q09 1) 1 (xs)] [] (fun rr bs=>VLe rr (qVF xs)∧q1y bs (qUL xs)):=by
 have key:(∀b:Bool,(b=true→xs.length=0)→(b=true→VLe (V.osl 0 0) (V.osl 0 (q3M xs).length)∧BLe (Blk.arr 5 0 (fun(x:Nat) ↦ V.undef) 100) (Blk.arr 5 (q3M xs).length (gL (q09 1) (q3M xs)) 100)∧True)∧(b=false→0=0∧0+xs.length≤1073741824∧q13 5 xs.length (gL (q09 1) xs)∧(∀i:Nat,i<xs.length→q86 (q09 1 (xs.getD i default))=true)∧VLe (V.osl 0 (0+xs.length)) (V.osl 0 (q3M xs).length)∧BLe (Blk.arr 5 (0+xs.length) (q3K 0 (q3C []) (gL (q09 1) xs)) 100) (Blk.arr 5 (q3M xs).length (gL (q09 1) (q3M xs)) 100)∧True)):=by
  have hl:xs.length≤1000:=hpre;unfold q3M;refine fun b hb=>⟨fun h=>?_,fun h=>⟨rfl,by omega,fun k hk=>⟨rfl,rfl⟩,fun k hk=>rfl,?_⟩⟩
  ·have:xs=[]:=List.length_eq_zero_iff.1 (hb h);subst this;exact⟨VLe.refl _,q3G _,trivial⟩
  ·rw[Nat.zero_add,qQL];exact⟨VLe.refl _,BLe.refl _,trivial⟩
 exact Eq.mp (by kernel_rfl) key
theorem qQB:q0R Tryz.prog 161 qIR:=by
 refine q0S q77 (tpl:=[(0,5)]) Tryz.func161 rfl (by kernel_rfl) fun args bin ob r bout hDe hob=>?_;unfold qIR at hDe;split at hDe
 ·rename_i a0;cases hDe;exact okQ (x3D ((q0K q0H) a0) (hob.2)) x3P (args_of_vles ⟨hob.1,trivial⟩) trivial
 ·cases hDe
def qCM (xs:List q0A) (ids:List Int):Prop:=xs.length≤maxLen∧(ids.length≤maxLen)
noncomputable def qHc (xs:List q0A) (ids:List Int):V:=.int .i64 (q5l (fun s=>q1D ids s) xs)
noncomputable def qCc:q0P:=fun args bin=>match args,bin with
 |[a0,.fn 226 [a1]],[]=>some (VLe a0 (q0D (q01 1) 1 (((q0K q03) a0)))∧VLe a1 (q8d q42 1 (((q3O q2G) a1)))∧qCM ((q0K q03) a0) ((q3O q2G) a1),qHc ((q0K q03) a0) ((q3O q2G) a1),[])
 |_,_=>none
noncomputable def qJj (xs:List q0A) (ids:List Int):q0M:=
 ⟨Nat,fun i=>⟨[(0,q0D (q01 1) 1 xs),(1,.fn 226 [q8d q42 1 (ids)]),(7,.int .i64 xs.length),(8,.int .i64 i)],[]⟩,
  fun i=>i≤xs.length∧∀j,j<i→(fun s=>q1D ids s) (xs.getD j default)=false,fun i=>xs.length-i⟩
noncomputable def qNv (xs:List q0A) (ids:List Int):Nat→Option q0M:=fun rg_=>match rg_ with
 |2=>some (qJj xs ids)
 |_=>none
noncomputable def qLN:=lkR [(226,qTi)]
theorem qQ1:q0C Tryz.prog qLN:=q02 x0P (q04)
noncomputable def qOl (xs:List q0A) (ids:List Int):=cxL qLN Tryz.f262 [0,1,4,5,7,8,9,16] [(2,⟨[(0,none),(1,none),(7,none),(8,none)],[]⟩)] (qNv xs ids) []
noncomputable def q34 (xs:List q0A) (x:Nat):V:=q01 1 (xs.getD (↑x:Int).toNat default)
noncomputable def q0u (xs:List q0A):Int:=(↑ xs.length:Int)
noncomputable def q3r (ids:List Int):Nat×V:=(1,V.fn (226:FuncId) [q8d q42 1 ids])
noncomputable def q1B (ids:List Int):V:=V.ptr [q0D q42 1 ids] 0 1
theorem qPY (xs:List q0A) (ids:List Int) (hpre:qCM xs ids):q0d (qOl xs ids) Tryz.f262 0 [q0D (q01 1) 1 (xs),.fn 226 [q8d q42 1 (ids)]] (fun rr=>VLe rr (qHc xs ids)):=by
 have key:((∃x:Nat,SLe (AS.mk [(0,q0D (q01 1) 1 xs),(q3r ids),(7,vi (q0u xs)),(8,vi 0)] []) (AS.mk [(0,q0D (q01 1) 1 xs),(q3r ids),(7,vi (q0u xs)),(8,vi (↑x:Int))] [])∧(x≤xs.length∧∀j:Nat,j<x→q1D ids (xs.getD j default)=false))∧∀x:Nat,(x≤xs.length∧∀j:Nat,j<x→q1D ids (xs.getD j default)=false)→(decide ((↑x:Int)<(q0u xs))=true→(0≤(↑x:Int)∧(↑x:Int)<(q0u xs))∧(VLe (q34 xs x) (q01 1 (q03 (q34 xs x)))∧VLe (q1B ids) (q8d q42 1 (q3O q2G (q1B ids)))∧qTn (q03 (q34 xs x)) (q3O q2G (q1B ids)))∧(q1D (q3O q2G (q1B ids)) (q03 (q34 xs x))=true→VLe (vi (↑x:Int)) (vi (q5l (fun(s:q0A) ↦ q1D ids s) xs)))∧(q1D (q3O q2G (q1B ids)) (q03 (q34 xs x))=false→(inK IntKind.i64 ((↑x:Int)+1)∧∃y:Nat,SLe (AS.mk [(0,q0D (q01 1) 1 xs),(q3r ids),(7,vi (q0u xs)),(8,vi ((↑x:Int)+1))] []) (AS.mk [(0,q0D (q01 1) 1 xs),(q3r ids),(7,vi (q0u xs)),(8,vi (↑y:Int))] [])∧(y≤xs.length∧∀j:Nat,j<y→q1D ids (xs.getD j default)=false)∧xs.length-y<xs.length-x)))∧(decide ((↑x:Int)<(q0u xs))=false→VLe (vi (-1)) (vi (q5l (fun(s:q0A) ↦ q1D ids s) xs)))):=by
  delta q1B;delta q3r;delta q0u;delta q34;delta vi;obtain⟨hlen,hp⟩:=hpre;unfold maxLen at hlen;refine⟨⟨0,SLe.refl _,by omega,fun j hj=>absurd hj (Nat.not_lt_zero j)⟩,?_⟩;rintro i ⟨hi,hj⟩;refine⟨fun h=>?_,fun h=>?_⟩
  ·have hlt:i<xs.length:=by simpa using h
   have hin:xs.getD i default∈xs:=by simp[hlt]
   simp only[Int.toNat_natCast,q1R,q6T,qG3];refine⟨⟨by omega,by omega⟩,⟨VLe.refl _,VLe.refl _,hp⟩,fun h2=>q0I (q3i hlt hj h2).symm,fun h2=>⟨q0X (by omega),i+1,SLe.refl _,⟨by omega,fun j h3=>?_⟩,by omega⟩⟩;rcases Nat.lt_or_ge j i with h4|h4
   ·exact hj j h4
   ·have:j=i:=by omega
    subst this;exact h2
  ·have hge:i=xs.length:=by simp at h;omega
   exact q0I (q4b fun j h3=>hj j (by omega)).symm
 exact Eq.mp (by kernel_rfl) key
theorem qQH:q0R Tryz.prog 262 qCc:=by
 refine sob 0 Tryz.func262 fun args bin ob r bout hDe hob=>?_;unfold qCc at hDe;split at hDe
 ·rename_i a0 a1;cases hDe;exact okB (qPY ((q0K q03) a0) ((q3O q2G) a1) (hob.2.2)) qQ1 (args_of_vles ⟨hob.1,qHm ⟨hob.2.1,trivial⟩,trivial⟩)
 ·cases hDe
def q9z (l:List q0A) (ids:List Int):Prop:=l.length≤1000∧ids.length≤1000
noncomputable def q2W (l:List q0A) (ids:List Int):List q0A:=l.filter fun s=> !q1D ids s
noncomputable def qIY (l:List q0A) (ids:List Int):List Blk:=[(.arr 5 (q2W l ids).length (gL (q01 1) (q2W l ids)) q0l)]
noncomputable def qH2 (l:List q0A) (ids:List Int):V:=.osl 0 (q2W l ids).length
noncomputable def qA9:q0P:=fun args bin=>match args,bin with
 |[.osl i0 m0,.fn 226 [a1]],[.arr s0 n0 g0 t0]=>some ((i0=0∧s0=5∧t0=q0l∧n0=m0∧∀i,i<n0→ELe (g0 i) (gL (q01 1) ((q0K q03) (.sl n0 g0 1)) i))∧VLe a1 (q8d q42 1 (((q3O q2G) a1)))∧q9z ((q0K q03) (.sl n0 g0 1)) ((q3O q2G) a1),qH2 ((q0K q03) (.sl n0 g0 1)) ((q3O q2G) a1),qIY ((q0K q03) (.sl n0 g0 1)) ((q3O q2G) a1))
 |_,_=>none
noncomputable def qIr (l:List q0A) (ids:List Int):q0M:=
 ⟨Nat×Nat×List q0A,fun p=>⟨[(0,.osl (q25 0) l.length),(1,.fn 226 [q8d q42 1 ids]),(5,.int .i64 p.1),(6,.int .i64 p.2.1)],[(q25 0,.arr 5 l.length (gL (q01 1) p.2.2) q0l)]⟩,fun p=>qIo (q1D ids) l p.1 p.2.1 p.2.2,fun p=>l.length-p.2.1⟩
noncomputable def qOJ (l:List q0A) (ids:List Int):Nat→Option q0M:=fun rg_=>match rg_ with
 |5=>some (qIr l ids)
 |_=>none
noncomputable def qL7:=lkR [(262,qCc),(226,qTi)]
theorem qOf:q0C Tryz.prog qL7:=q02 qQH (q02 x0P (q04))
noncomputable def qI1 (l:List q0A) (ids:List Int):=cxL qL7 Tryz.f225 [0,1,4,5,6,7,12,19,29] [(5,⟨[(0,some 5),(1,none),(5,none),(6,none)],[]⟩)] (qOJ l ids) []
noncomputable def q35 (x:Nat×Nat×List q0A):Int:=(↑x.2.1:Int)
noncomputable def q5Q (x:Nat×Nat×List q0A):V:=q01 1 (x.2.2.getD (q35 x).toNat default)
noncomputable def q08 (l:List q0A):List q0A:=q0K q03 (q0D (q01 1) 1 l)
noncomputable def q3v (l:List q0A):Nat:=l.length
noncomputable def q3t (l:List q0A):Int:=(↑ (q3v l):Int)
noncomputable def q6C (l:List q0A):Nat×V:=(0,V.osl 32000064 (q3v l))
noncomputable def qBI (l:List q0A) (ids:List Int) (y:Nat×Nat×List q0A):AS:=AS.mk [(q6C l),(q3r ids),(5,vi (↑y.1:Int)),(6,vi (↑y.2.1:Int))] [(32000064,Blk.arr 5 (q3v l) (gL (q01 1) y.2.2) 100)]
noncomputable def q1w (x:Nat×Nat×List q0A):Int:=(↑x.1:Int)
theorem qQf (l:List q0A) (ids:List Int) (hpre:q9z l ids):qAG (qI1 l ids) Tryz.f225 [(0,5)] [.osl 25600000 (l).length,.fn 226 [q8d q42 1 (ids)]] [(25600000,.arr 5 l.length (gL (q01 1) l) q0l)] (fun rr bs=>VLe rr (qH2 l ids)∧q1y bs (qIY l ids)):=by
 have key:(VLe (q0D (q01 1) 1 l) (q0D (q01 1) 1 (q08 l))∧VLe (q1B ids) (q8d q42 1 (q3O q2G (q1B ids)))∧qCM (q08 l) (q3O q2G (q1B ids)))∧((q5l (fun(s:q0A) ↦ q1D (q3O q2G (q1B ids)) s) (q08 l)==(-1))=true→VLe (V.osl 0 (q3v l)) (V.osl 0 (q2W l ids).length)∧BLe (Blk.arr 5 (q3v l) (gL (q01 1) l) 100) (Blk.arr 5 (q2W l ids).length (gL (q01 1) (q2W l ids)) 100)∧True)∧((q5l (fun(s:q0A) ↦ q1D (q3O q2G (q1B ids)) s) (q08 l)==(-1))=false→inK IntKind.i64 (q5l (fun(s:q0A) ↦ q1D (q3O q2G (q1B ids)) s) (q08 l)+(1:Int))∧((∃x:Nat×Nat×List q0A,SLe (AS.mk [(q6C l),(1,V.fn (226:FuncId) [V.ptr [q0D q42 1 ids] 0 1]),(5,vi (q5l (fun(s:q0A) ↦ q1D (q3O q2G (q1B ids)) s) (q08 l))),(6,vi (q5l (fun(s:q0A) ↦ q1D (q3O q2G (q1B ids)) s) (q08 l)+(1:Int)))] [(32000064,Blk.arr 5 (q3v l) (gL (q01 1) l) 100)]) (AS.mk [(q6C l),(q3r ids),(5,vi (q1w x)),(6,vi (q35 x))] [(32000064,Blk.arr 5 (q3v l) (gL (q01 1) x.2.2) 100)])∧qIo (q1D ids) l x.1 x.2.1 x.2.2)∧∀x:Nat×Nat×List q0A,qIo (q1D ids) l x.1 x.2.1 x.2.2→(decide ((q35 x)<(q3t l))=true→(0≤(q35 x)∧(q35 x)<(q3t l))∧(q35 x).toNat<l.length∧(VLe (q5Q x) (q01 1 (q03 (q5Q x)))∧VLe (q1B ids) (q8d q42 1 (q3O q2G (q1B ids)))∧qTn (q03 (q5Q x)) (q3O q2G (q1B ids)))∧((!q1D (q3O q2G (q1B ids)) (q03 (q5Q x)))=true→(0≤(q1w x)∧(q1w x)<(q3t l))∧(q1w x).toNat<l.length∧inK IntKind.i64 ((q1w x)+1)∧(inK IntKind.i64 ((q35 x)+1)∧∃y:Nat×Nat×List q0A,SLe (AS.mk [(q6C l),(q3r ids),(5,vi ((q1w x)+1)),(6,vi ((q35 x)+1))] [(32000064,Blk.arr 5 (q3v l) (q65 (gL (q01 1) x.2.2) (q1w x).toNat (q5Q x)) 100)]) (qBI l ids y)∧qIo (q1D ids) l y.1 y.2.1 y.2.2∧l.length-Prod.fst y.2<l.length-Prod.fst x.2))∧((!q1D (q3O q2G (q1B ids)) (q03 (q5Q x)))=false→(inK IntKind.i64 ((q35 x)+1)∧∃y:Nat×Nat×List q0A,SLe (AS.mk [(q6C l),(q3r ids),(5,vi (q1w x)),(6,vi ((q35 x)+1))] [(32000064,Blk.arr 5 (q3v l) (gL (q01 1) x.2.2) 100)]) (qBI l ids y)∧qIo (q1D ids) l y.1 y.2.1 y.2.2∧l.length-Prod.fst y.2<l.length-Prod.fst x.2)))∧(decide ((q35 x)<(q3t l))=false→(0≤(q1w x)∧(q1w x)≤Option.getD none (q3t l)∧Option.getD none (q3t l)≤(q3t l))∧(0≤(q1w x)∧(q1w x)≤(q3t l))∧VLe (V.osl 0 (q1w x).toNat) (V.osl 0 (q2W l ids).length)∧BLe (Blk.arr 5 (q1w x).toNat (q3x (gL (q01 1) x.2.2) (q1w x).toNat ((Option.getD none (q3t l)).toNat-(q1w x).toNat) fun(x:Nat) ↦ V.agg [V.str (ByteArray.mk #[]),vi 0,vi 0,vi 0,vi 0]) 100) (Blk.arr 5 (q2W l ids).length (gL (q01 1) (q2W l ids)) 100)∧True))):=by
  delta q1w;delta qBI;delta q3r;delta q6C;delta q3t;delta q3v;delta q08;delta q1B;delta q5Q;delta q35;delta vi;obtain⟨hl,hi⟩:=hpre;have hi':ids.length≤maxLen:=by unfold maxLen;omega
  simp only[q0o,q1R,qG3,Option.getD_none];refine⟨⟨VLe.refl _,VLe.refl _,by unfold maxLen;omega,hi'⟩,fun h=>?_,fun h=>?_⟩
  ·have e:q2W l ids=l:=qLF (q:=fun s=>q1D ids s) (eq_of_beq h);rw[e];exact⟨VLe.refl _,BLe.refl _,trivial⟩
  ·obtain⟨i0,hi0⟩:=qPC h;have hlt:=(q9u hi0).1;simp only[hi0];have v0:((i0:Nat):Int)+1=((i0+1:Nat):Int):=by omega
   refine⟨q0X (by omega),⟨(i0,i0+1,l),q1Q ⟨rfl,VLe.refl _,rfl,VLe.refl _,rfl,VLe.refl _,rfl,q0I v0,trivial⟩ ⟨rfl,BLe.refl _,trivial⟩,qI0 hi0⟩,?_⟩;rintro⟨i,j,ys⟩ hd;simp only at hd⊢;have hd1:=hd.1;have hd2:=hd.2.1;have hd3:=hd.2.2.1;have v1:((i:Nat):Int)+1=((i+1:Nat):Int):=by omega
   have v2:((j:Nat):Int)+1=((j+1:Nat):Int):=by omega
   simp only[Int.toNat_natCast];refine⟨fun h=>?_,fun h=>?_⟩
   ·have hj:j<l.length:=by have:=of_decide_eq_true h;omega
    have hy:ys.getD j default=l.getD j default:=hd.2.2.2.2 j (Nat.le_refl j) hj;rw[hy];refine⟨⟨by omega,by omega⟩,hj,⟨VLe.refl _,VLe.refl _,hi'⟩,fun h2=>?_,fun h2=>?_⟩
    ·have hq:q1D ids (l.getD j default)=false:=by
      cases hb:q1D ids (l.getD j default)with
      |false=>rfl
      |true=>rw[hb]at h2;cases h2
     have hi:i<ys.length:=by omega
     exact⟨⟨by omega,by omega⟩,by omega,q0X (by omega),q0X (by omega),(i+1,j+1,ys.set i (l.getD j default)),q1Q ⟨rfl,VLe.refl _,rfl,VLe.refl _,rfl,q0I v1,rfl,q0I v2,trivial⟩ ⟨rfl,qM5 hi rfl,trivial⟩,qL8 hd hj hq,by simp only;omega⟩
    ·have hq:q1D ids (l.getD j default)=true:=by
      cases hb:q1D ids (l.getD j default)with
      |true=>rfl
      |false=>rw[hb]at h2;cases h2
     exact⟨q0X (by omega),(i,j+1,ys),q1Q ⟨rfl,VLe.refl _,rfl,VLe.refl _,rfl,VLe.refl _,rfl,q0I v2,trivial⟩ ⟨rfl,BLe.refl _,trivial⟩,qKY hd hj hq,by simp only;omega⟩
   ·have hj:j=l.length:=by have:=of_decide_eq_false h;omega
    subst hj;have e:ys.take i=q2W l ids:=qQo hd;have el:i=(q2W l ids).length:=by rw[←e,List.length_take];omega
    refine⟨⟨by omega,by omega,by omega⟩,⟨by omega,by omega⟩,VLe.of_eq ?_,qON e (by omega),trivial⟩;rw[←el]
 exact Eq.mp (by kernel_rfl) key
theorem qHJ:q8g Tryz.prog 225 qA9:=by
 refine q47 q77 (tpl:=[(0,5)]) Tryz.func225 rfl (by kernel_rfl) fun args bin ob r bout hDe hob=>?_;unfold qA9 at hDe;split at hDe
 ·rename_i i0 m0 a1 s0 n0 g0 t0;cases hDe;obtain⟨⟨rfl,rfl,rfl,rfl,hg0⟩,hv1,hpre⟩:=hob;exact⟨Nat.le_of_ble_eq_true (by kernel_rfl),qI1 ((q0K q03) (.sl n0 g0 1)) ((q3O q2G) a1),Eq.mp (by kernel_rfl) htt,Eq.mp (by kernel_rfl) qOf,Eq.mp (by kernel_rfl) (q2n (P:=Tryz.prog)),by kernel_rfl,false,n0,5,q0l,g0,gL (q01 1) ((q0K q03) (.sl n0 g0 1)),[.fn 226 [a1]],[.fn 226 [q8d q42 1 (((q3O q2G) a1))]],[],[],rfl,rfl,args_of_vles (l':=[.fn 226 [q8d q42 1 (((q3O q2G) a1))]]) ⟨qHm ⟨hv1,trivial⟩,trivial⟩,rfl,q1P (fun i hi=>hg0 i hi) (Or.inl rfl),trivial,rfl,(((q0K q03) (.sl n0 g0 1))).length,(q3y _ _ _ _).symm,.inr (Eq.mp (by kernel_rfl) (qQf ((q0K q03) (.sl n0 g0 1)) ((q3O q2G) a1) hpre))⟩
 ·cases hDe
def qSl (l:List q0A) (i:Int) (v:List q0A):Prop:=0≤i∧i≤l.length∧0<v.length∧l.length+v.length≤1000
noncomputable def q8L (l:List q0A) (i:Int) (v:List q0A):List q0A:=l.take i.toNat++v++l.drop i.toNat
noncomputable def x1Y (l:List q0A) (i:Int) (v:List q0A):List Blk:=[(.arr 5 (q8L l i v).length (gL (q01 1) (q8L l i v)) q0l)]
noncomputable def x2O (l:List q0A) (i:Int) (v:List q0A):V:=.osl 0 (q8L l i v).length
noncomputable def qXB:q0P:=fun args bin=>match args,bin with
 |[.osl i0 m0,.int .i64 a1,.osl i2 m2],[.arr s0 n0 g0 t0,.arr s2 n2 g2 t2]=>some ((i0=0∧s0=5∧t0=q0l∧n0=m0∧∀i,i<n0→ELe (g0 i) (gL (q01 1) ((q0K q03) (.sl n0 g0 1)) i))∧(i2=1∧s2=5∧t2=q0l∧n2=m2∧∀i,i<n2→ELe (g2 i) (gL (q01 1) ((q0K q03) (.sl n2 g2 1)) i))∧qSl ((q0K q03) (.sl n0 g0 1)) a1 ((q0K q03) (.sl n2 g2 1)),x2O ((q0K q03) (.sl n0 g0 1)) a1 ((q0K q03) (.sl n2 g2 1)),x1Y ((q0K q03) (.sl n0 g0 1)) a1 ((q0K q03) (.sl n2 g2 1)))
 |_,_=>none
noncomputable def xDw:Nat→Option (Fl×q0P):=lk [(273,(.rw,xAl)),(274,(.ro,noD (.int .i64 0)))]
theorem x7u:q0C Tryz.prog xDw:=q02 xCf (q02 qKX (q04))
noncomputable def x2H (l:List q0A) (i:Int) (v:List q0A):=cxN xDw Tryz.f241 [0,1,2,6,7,8,9,16,22,31,68]
noncomputable def q1V (v:List q0A):Int:=(↑ v.length:Int)
def qLn (l:List q0A) (v:List q0A) (cp_:Nat):Prop:=Option.getD none (↑ ((Option.getD (some ((q0G l)+(q1V v))) (q0G l)).toNat-0):Int)≤(↑ (cp_-(Option.getD none (0:Int)).toNat):Int)∧0+(Option.getD none (↑ ((Option.getD (some ((q0G l)+(q1V v))) (q0G l)).toNat-0):Int)).toNat≤cp_
def qLK (l:List q0A) (i:Int) (v:List q0A) (cp_:Nat):Prop:=(0:Int)≤Option.getD (some i) (0:Int)∧Option.getD (some i) (0:Int)≤Option.getD none (↑ ((Option.getD (some ((q0G l)+(q1V v))) (q0G l)).toNat-0):Int)∧qLn l v cp_
noncomputable def qGv (l:List q0A) (i:Int):Nat→V:=q32 (q8i 5 l.length (gL (q01 1) l)) (match some i with|none=>0|some l=>0+l.toNat)
noncomputable def qE5 (l:List q0A) (i:Int) (v:List q0A):Blk:=Blk.arr 5 (q8L l i v).length (gL (q01 1) (q8L l i v)) 100
def qP8 (l:List q0A) (i:Int) (cp_:Nat):Prop:=(0:Int)≤Option.getD (some i) (0:Int)∧Option.getD (some i) (0:Int)≤Option.getD none (q0G l)∧Option.getD none (q0G l)≤(↑cp_:Int)∧0+(Option.getD none (q0G l)).toNat≤cp_
def qO7 (l:List q0A) (i:Int) (v:List q0A):Prop:=Option.getD none (↑ ((Option.getD (some i) (q0G l)).toNat-0+((q0G l)+(q1V v)-i).toNat):Int)≤(↑ ((Option.getD (some i) (q0G l)).toNat-0+((q0G l)+(q1V v)-i).toNat):Int)
def qOK (l:List q0A) (i:Int) (v:List q0A) (cp_:Nat):Prop:=(0:Int)≤Option.getD (some (i+(q1V v))) (0:Int)∧Option.getD (some (i+(q1V v))) (0:Int)≤Option.getD none (↑ ((Option.getD (some ((q0G l)+(q1V v))) (q0G l)).toNat-0):Int)∧qLn l v cp_
def qPx (l:List q0A) (i:Int) (v:List q0A):Prop:=VLe (V.osl 0 ((Option.getD (some ((q0G l)+(q1V v))) (q0G l)).toNat-0)) (V.osl 0 (q8L l i v).length)
noncomputable def q7g (v:List q0A):Nat→V:=gL (q01 1) v
theorem x54 (l:List q0A) (i:Int) (v:List q0A) (cp_:Nat) (hcp_:l.length≤cp_) (hpre:qSl l i v):qAG (x2H l i v) Tryz.f241 [(0,5)] [.oss 25600000 0 (l).length cp_ true,.int .i64 (i),.osl 25600064 (v).length] [(25600000,.arr 5 cp_ (q8i 5 l.length (gL (q01 1) l)) q0l),(25600064,.arr 5 v.length (gL (q01 1) v) q0l)] (fun rr bs=>VLe rr (x2O l i v)∧q1y bs (x1Y l i v)):=by
 have key:qP8 l i cp_∧(((q1V v)==(0:Int))=true→VLe (V.osl 0 l.length) (V.osl 0 (q8L l i v).length)∧BLe (Blk.arr 5 l.length (q8i 5 l.length (gL (q01 1) l)) 100) (qE5 l i v)∧True)∧(((q1V v)==(0:Int))=false→((i==(q0G l))=true→l.length≤cp_∧l.length+v.length≤1073741824∧q13 5 v.length (q7g v)∧VLe (V.osl 0 (l.length+v.length)) (V.osl 0 (q8L l i v).length)∧BLe (Blk.arr 5 (l.length+v.length) (q3K l.length (q8i 5 l.length (gL (q01 1) l)) (q7g v)) 100) (qE5 l i v)∧True)∧((i==(q0G l))=false→inK IntKind.i64 ((q0G l)+(q1V v))∧(decide ((q0G l)+(q1V v)>(↑cp_:Int))=true→((0:Int)≤Option.getD none (0:Int)∧Option.getD none (0:Int)≤Option.getD (some i) (q0G l)∧Option.getD (some i) (q0G l)≤(↑cp_:Int)∧0+(Option.getD (some i) (q0G l)).toNat≤cp_)∧inK IntKind.i64 ((q0G l)+(q1V v))∧inK IntKind.i64 ((q0G l)+(q1V v)-i)∧0≤(q0G l)+(q1V v)-i∧(Option.getD (some i) (q0G l)).toNat-0≤cp_∧cp_-(Option.getD none (0:Int)).toNat<(Option.getD (some i) (q0G l)).toNat-0+((q0G l)+(q1V v)-i).toNat∧(Option.getD (some i) (q0G l)).toNat-0+((q0G l)+(q1V v)-i).toNat≤1073741824∧(0≤i∧i≤Option.getD none (↑ ((Option.getD (some i) (q0G l)).toNat-0+((q0G l)+(q1V v)-i).toNat):Int)∧qO7 l i v)∧q13 5 (min ((Option.getD none (↑ ((Option.getD (some i) (q0G l)).toNat-0+((q0G l)+(q1V v)-i).toNat):Int)).toNat-i.toNat) v.length) (q7g v)∧inK IntKind.i64 (i+(q1V v))∧(0≤i+(q1V v)∧i+(q1V v)≤Option.getD none (↑ ((Option.getD (some i) (q0G l)).toNat-0+((q0G l)+(q1V v)-i).toNat):Int)∧qO7 l i v)∧qP8 l i cp_∧q13 5 (min ((Option.getD none (↑ ((Option.getD (some i) (q0G l)).toNat-0+((q0G l)+(q1V v)-i).toNat):Int)).toNat-(i+(q1V v)).toNat) ((Option.getD none (q0G l)).toNat-(Option.getD (some i) (0:Int)).toNat)) (qGv l i)∧VLe (V.osl 0 ((Option.getD (some i) (q0G l)).toNat-0+((q0G l)+(q1V v)-i).toNat)) (V.osl 0 (q8L l i v).length)∧BLe (Blk.arr 5 ((Option.getD (some i) (q0G l)).toNat-0+((q0G l)+(q1V v)-i).toNat) (q3x (q3x (q3K ((Option.getD (some i) (q0G l)).toNat-0) (q8i 5 l.length (gL (q01 1) l)) fun(x:Nat) ↦ V.agg [V.str (ByteArray.mk #[]),vi 0,vi 0,vi 0,vi 0]) i.toNat (min ((Option.getD none (↑ ((Option.getD (some i) (q0G l)).toNat-0+((q0G l)+(q1V v)-i).toNat):Int)).toNat-i.toNat) v.length) (q7g v)) (i+(q1V v)).toNat (min ((Option.getD none (↑ ((Option.getD (some i) (q0G l)).toNat-0+((q0G l)+(q1V v)-i).toNat):Int)).toNat-(i+(q1V v)).toNat) ((Option.getD none (q0G l)).toNat-(Option.getD (some i) (0:Int)).toNat)) (qGv l i)) 100) (qE5 l i v)∧True)∧(decide ((q0G l)+(q1V v)>(↑cp_:Int))=false→inK IntKind.i64 ((q0G l)+(q1V v))∧((0:Int)≤Option.getD none (0:Int)∧Option.getD none (0:Int)≤Option.getD (some ((q0G l)+(q1V v))) (q0G l)∧Option.getD (some ((q0G l)+(q1V v))) (q0G l)≤(↑cp_:Int)∧0+(Option.getD (some ((q0G l)+(q1V v))) (q0G l)).toNat≤cp_)∧inK IntKind.i64 (i+(q1V v))∧qOK l i v cp_∧5=5∧v.length=v.length∧cp_=cp_∧((!false)=true→inK IntKind.i64 (i+(q1V v))∧qOK l i v cp_∧qLK l i v cp_∧q13 5 (min ((Option.getD none (↑ ((Option.getD (some ((q0G l)+(q1V v))) (q0G l)).toNat-0):Int)).toNat-(Option.getD (some (i+(q1V v))) (0:Int)).toNat) ((Option.getD none (↑ ((Option.getD (some ((q0G l)+(q1V v))) (q0G l)).toNat-0):Int)).toNat-(Option.getD (some i) (0:Int)).toNat)) (qGv l i)∧qLK l i v cp_∧q13 5 (min ((Option.getD none (↑ ((Option.getD (some ((q0G l)+(q1V v))) (q0G l)).toNat-0):Int)).toNat-(Option.getD (some i) (0:Int)).toNat) v.length) (q7g v)∧qPx l i v∧BLe (Blk.arr 5 ((Option.getD (some ((q0G l)+(q1V v))) (q0G l)).toNat-0) (q3x (q3x (q8i 5 l.length (gL (q01 1) l)) (match some (i+(q1V v))with|none=>0|some l=>0+l.toNat) (min ((Option.getD none (↑ ((Option.getD (some ((q0G l)+(q1V v))) (q0G l)).toNat-0):Int)).toNat-(Option.getD (some (i+(q1V v))) (0:Int)).toNat) ((Option.getD none (↑ ((Option.getD (some ((q0G l)+(q1V v))) (q0G l)).toNat-0):Int)).toNat-(Option.getD (some i) (0:Int)).toNat)) (qGv l i)) (match some i with|none=>0|some l=>0+l.toNat) (min ((Option.getD none (↑ ((Option.getD (some ((q0G l)+(q1V v))) (q0G l)).toNat-0):Int)).toNat-(Option.getD (some i) (0:Int)).toNat) v.length) (q7g v)) 100) (qE5 l i v)∧True)∧((!false)=false→((0:Int)≤Option.getD (some (q0G l)) (0:Int)∧Option.getD (some (q0G l)) (0:Int)≤Option.getD none (↑ ((Option.getD (some ((q0G l)+(q1V v))) (q0G l)).toNat-0):Int)∧qLn l v cp_)∧q13 5 (min ((Option.getD none (↑ ((Option.getD (some ((q0G l)+(q1V v))) (q0G l)).toNat-0):Int)).toNat-(Option.getD (some (q0G l)) (0:Int)).toNat) v.length) (q7g v)∧qLK l i v cp_∧False∧qPx l i v∧BLe (Blk.arr 5 ((Option.getD (some ((q0G l)+(q1V v))) (q0G l)).toNat-0) (q3x (q8i 5 l.length (gL (q01 1) l)) (match some (q0G l)with|none=>0|some l=>0+l.toNat) (min ((Option.getD none (↑ ((Option.getD (some ((q0G l)+(q1V v))) (q0G l)).toNat-0):Int)).toNat-(Option.getD (some (q0G l)) (0:Int)).toNat) v.length) (q7g v)) 100) (qE5 l i v)∧True)))):=by
  delta q7g;delta qPx;delta qOK;delta qO7;delta qP8;delta qE5;delta qGv;delta qLK;delta qLn;delta q1V;delta q0G;delta vi;obtain⟨h1,h2,h3,h4⟩:=hpre;obtain⟨k,rfl⟩:=Int.eq_ofNat_of_zero_le h1;have hk:k≤l.length:=by omega
  have e0:q8L l (k:Int) v=l.take k++v++l.drop k:=rfl;have el:(q8L l (k:Int) v).length=l.length+v.length:=by rw[e0,qQs hk]
  have t1:((l.length:Int)+(v.length:Int)-(k:Int)).toNat=l.length+v.length-k:=by omega
  have t2:k+(l.length+v.length-k)=l.length+v.length:=by omega
  have t3:((k:Int)+(v.length:Int)).toNat=k+v.length:=by omega
  have t4:((l.length:Int)+(v.length:Int)).toNat=l.length+v.length:=by omega
  have t5:l.length+v.length-(k+v.length)=l.length-k:=by omega
  have t6:min (l.length+v.length-k) v.length=v.length:=by omega
  have t7:min (l.length-k) (l.length-k)=l.length-k:=by omega
  have t8:min (l.length-k) (l.length+v.length-k)=l.length-k:=by omega
  have enc1:∀x:q0A,(q01 1 x).cells.length=5∧q87 (q01 1 x)=true:=fun x=>⟨rfl,rfl⟩;simp only[Option.getD_some,Option.getD_none,Int.toNat_natCast,Nat.sub_zero,Nat.zero_add,t1,t2,t3,t4,t5,t6,t7,t8,Int.toNat_zero,el];refine⟨⟨by omega,by omega,by omega,by omega⟩,fun h=>?_,fun _=>⟨fun h=>?_,fun h=>⟨q0X (by omega),fun h5=>?_,fun h5=>?_⟩⟩⟩
  ·have:=eq_of_beq h;omega
  ·have hkn:k=l.length:=by have:=eq_of_beq h;omega
   subst hkn;refine⟨by omega,by omega,q8x enc1,VLe.refl _,?_,trivial⟩;rw[←el];exact q7U rfl fun j hj=>by rw[el]at hj;exact xEK j hj
  ·have h6:=of_decide_eq_true h5;refine⟨⟨by omega,by omega,by omega,by omega⟩,q0X (by omega),q0X (by omega),by omega,by omega,by omega,by omega,⟨by omega,by omega,by omega⟩,q8x enc1,q0X (by omega),⟨by omega,by omega,by omega⟩,⟨by omega,by omega,by omega,by omega⟩,q7J enc1 (by omega),VLe.refl _,?_,trivial⟩;rw[←el];exact q7U rfl fun j hj=>by rw[el]at hj;exact xFA hk j hj
  ·have h6:=of_decide_eq_false h5;refine⟨q0X (by omega),⟨by omega,by omega,by omega,by omega⟩,q0X (by omega),⟨by omega,by omega,by omega,by omega⟩,trivial,trivial,trivial,fun _=>?_,fun h7=>absurd h7 (by decide)⟩;refine⟨q0X (by omega),⟨by omega,by omega,by omega,by omega⟩,⟨by omega,by omega,by omega,by omega⟩,q7J enc1 (by omega),⟨by omega,by omega,by omega,by omega⟩,q8x enc1,VLe.refl _,?_,trivial⟩;rw[←el];exact q7U rfl fun j hj=>by rw[el]at hj;exact xE7 hk j hj
 exact Eq.mp (by kernel_rfl) key
theorem x5j:q8g Tryz.prog 241 qXB:=by
 refine q47 q77 (tpl:=[(0,5)]) Tryz.func241 rfl (by kernel_rfl) fun args bin ob r bout hDe hob=>?_;unfold qXB at hDe;split at hDe
 ·rename_i i0 m0 a1 i2 m2 s0 n0 g0 t0 s2 n2 g2 t2;cases hDe;obtain⟨⟨rfl,rfl,rfl,rfl,hg0⟩,⟨rfl,rfl,rfl,rfl,hg2⟩,hpre⟩:=hob;exact⟨Nat.le_of_ble_eq_true (by kernel_rfl),x2H ((q0K q03) (.sl n0 g0 1)) a1 ((q0K q03) (.sl n2 g2 1)),Eq.mp (by kernel_rfl) htt,Eq.mp (by kernel_rfl) x7u,Eq.mp (by kernel_rfl) (q2n (P:=Tryz.prog)),by kernel_rfl,true,n0,5,q0l,g0,gL (q01 1) ((q0K q03) (.sl n0 g0 1)),[.int .i64 a1,.osl 1 n2],[.int .i64 (a1),.osl 1 (((q0K q03) (.sl n2 g2 1))).length],[.arr 5 n2 g2 q0l],[.arr 5 (((q0K q03) (.sl n2 g2 1))).length (gL (q01 1) ((q0K q03) (.sl n2 g2 1))) q0l],rfl,rfl,args_of_vles (l':=[.int .i64 (a1),.osl 1 (((q0K q03) (.sl n2 g2 1))).length]) ⟨VLe.refl _,VLe.of_eq (by rw[q3y]),trivial⟩,rfl,q1P (fun i hi=>hg0 i hi) (Or.inl rfl),⟨q6m hg2,trivial⟩,rfl,(((q0K q03) (.sl n0 g0 1))).length,(q3y _ _ _ _).symm,.inl fun cp_ hcp_=>Eq.mp (by kernel_rfl) (x54 ((q0K q03) (.sl n0 g0 1)) a1 ((q0K q03) (.sl n2 g2 1)) cp_ hcp_ hpre)⟩
 ·cases hDe
theorem qZc {xs:List ByteArray} {k:Nat} (h:k<xs.tail.length):q32 (gL q4r xs) 1 k=q4r xs.tail[k]:=by
 have h2:1+k<xs.length:=by rw[List.length_tail]at h;omega
 have h3:k+1<xs.length:=by omega
 simp[q32,gL,h3,List.getElem_tail,Nat.add_comm]
def qJB (s:ByteArray):Prop:=True
noncomputable def x3h (s:ByteArray):V:=.int .i64 (q1I s)
noncomputable def qNN:q0P:=fun args bin=>match args,bin with
 |[.str a0],[]=>some (qJB a0,x3h a0,[])
 |_,_=>none
noncomputable def qWE (s:ByteArray):q0M:=
 ⟨Nat,fun i=>⟨[(28,q0D q4r 217 (q2O s).tail),(29,.int .i64 (q2O s).tail.length),(30,.int .i64 i)],[]⟩,
  fun i=>i≤(q2O s).tail.length∧∀j,j<i→q5j ((q2O s).tail.getD j default),fun i=>(q2O s).tail.length-i⟩
noncomputable def x5T (s:ByteArray):Nat→Option q0M:=fun rg_=>match rg_ with
 |9=>some (qWE s)
 |_=>none
noncomputable def xFK:=lkR [(232,qUE),(233,qYs),(234,qT9)]
theorem x6C:q0C Tryz.prog xFK:=q02 x3e (q02 xBZ (q02 qZT (q04)))
noncomputable def x7p (s:ByteArray):=cxL xFK Tryz.f175 [0,2,3,5,13,15,26,28,29,30,31,36] [(9,⟨[(28,none),(29,none),(30,none)],[]⟩)] (x5T s) []
noncomputable def qHu (s:ByteArray):Nat:=(q2O s).length
noncomputable def q2v (s:ByteArray):Int:=(↑ (qHu s):Int)
noncomputable def qCT (s:ByteArray):Nat:=(List.tail (q2O s)).length
def qNs (s:ByteArray) (x:Nat):Prop:=(x≤(List.tail (q2O s)).length∧∀j:Nat,j<x→q5j ((List.tail (q2O s)).getD j default))
theorem x6u (s:ByteArray) (hpre:qJB s):q0d (x7p s) Tryz.f175 0 [.str (s)] (fun rr=>VLe rr (x3h s)):=by
 have key:tq (!decide ((q0g s)>24))∧((!decide ((q0g s)>24))=true→qNS s (ByteArray.mk #[(47:UInt8)]))∧tq (!decide ((q0g s)>24))∧((true=true→decide ((q0g s)>24)=false→(!decide ((q0g s)>24))=true)∧∀b:Bool,(b=bif decide ((q0g s)>24)then true else decide ((↑ (cnt s):Int)>4))→(b=true→VLe (vi 2) (vi (q1I s)))∧(b=false→(q1t s (ByteArray.mk #[(47:UInt8)])=true→VLe (vi 0) (vi (q1I s)))∧(q1t s (ByteArray.mk #[(47:UInt8)])=false→qRU s (ByteArray.mk #[(47:UInt8)])∧tq (!decide ((q2v s)<2))∧((!decide ((q2v s)<2))=true→(0:Int)≤(0:Int)∧0<(q2v s))∧tq (!decide ((q2v s)<2))∧tq (!decide ((q2v s)<2))∧((true=true→decide ((q2v s)<2)=false→(!decide ((q2v s)<2))=true)∧∀b_1:Bool,(b_1=bif decide ((q2v s)<2)then true else !q1t ((q2O s).getD 0 default) (ByteArray.mk #[]))→(b_1=true→VLe (vi 5) (vi (q1I s)))∧(b_1=false→((0:Int)≤Option.getD (some (1:Int)) (0:Int)∧Option.getD (some (1:Int)) (0:Int)≤Option.getD none (q2v s)∧Option.getD none (q2v s)≤(q2v s))∧q13 1 (qHu s) (gL q4r (q2O s))∧((∃x:Nat,SLe (AS.mk [(28,V.sl ((Option.getD none (q2v s)).toNat-1) (match(motive:=Option Int→Nat→V) some (1:Int)with|none=>gL q4r (q2O s)|some val=>q32 (gL q4r (q2O s)) 1) 217),(29,vi (↑ ((Option.getD none (q2v s)).toNat-1):Int)),(30,vi 0)] []) (AS.mk [(28,q0D q4r 217 (List.tail (q2O s))),(29,vi (↑ (qCT s):Int)),(30,vi (↑x:Int))] [])∧qNs s x)∧∀x:Nat,qNs s x→(decide ((↑x:Int)<(↑ (qCT s):Int))=true→(0≤(↑x:Int)∧(↑x:Int)<(↑ (qCT s):Int))∧qGs ((List.tail (q2O s)).getD (↑x:Int).toNat default)∧((!decide (q5j ((List.tail (q2O s)).getD (↑x:Int).toNat default)))=true→VLe (vi 5) (vi (q1I s)))∧((!decide (q5j ((List.tail (q2O s)).getD (↑x:Int).toNat default)))=false→(inK IntKind.i64 ((↑x:Int)+1)∧∃y:Nat,SLe (AS.mk [(28,q0D q4r 217 (List.tail (q2O s))),(29,vi (↑ (qCT s):Int)),(30,vi ((↑x:Int)+1))] []) (AS.mk [(28,q0D q4r 217 (List.tail (q2O s))),(29,vi (↑ (qCT s):Int)),(30,vi (↑y:Int))] [])∧(y≤(List.tail (q2O s)).length∧∀j:Nat,j<y→q5j ((List.tail (q2O s)).getD j default))∧(List.tail (q2O s)).length-y<(List.tail (q2O s)).length-x)))∧(decide ((↑x:Int)<(↑ (qCT s):Int))=false→VLe (vi 0) (vi (q1I s))))))))):=by
  delta qNs;delta q0g;delta qCT;delta q2v;delta qHu;delta vi
  repeat (first|(refine And.intro (fun h _=>h) ?_)|(refine And.intro (fun _ h=>h) ?_)|(refine And.intro ?aa ?_;case aa=>(exact(fun h=>⟨rfl,by simp at h;omega⟩)))|(refine And.intro ?aa ?_;case aa=>(intros;simp_all [qNS,qRU,qGs];done))|(refine And.intro ?aa ?_;case aa=>(intros;exact q0X (by omega)))|(refine And.intro ?aa ?_;case aa=>(intros;simp only[decide_eq_true_eq]at *;omega))|(intro q hq))
  have e0:q=decide (24<s.size∨4<cnt s):=by
   subst_vars
   rw[Bool.eq_iff_iff,decide_eq_true_eq];by_cases a1:(s.size:Int)>24<;>by_cases a2:(cnt s:Int)>4<;>simp[a1,a2]<;>omega
  clear hq;simp only[q1W]at*;refine⟨fun h=>?_,fun h=>⟨fun h2=>?_,fun h2=>?_⟩⟩
  ·rw[e0]at h;exact q0I (by unfold q1I;rw[if_pos (of_decide_eq_true h)])
  ·rw[e0]at h;exact q0I (by unfold q1I;rw[if_neg (of_decide_eq_false h),if_pos (Or.inl (of_decide_eq_true h2))])
  rw[e0]at h;have h1:=of_decide_eq_false h;have e1:q1I s=if s=top∨q6p s then 0 else 5:=if_neg h1
  clear e0 h;have hne:=of_decide_eq_false h2;have hsz:s.size≤24:=by omega
  have hlen:(q2O s).length≤5:=by rw[qBz];omega
  refine⟨⟨rfl,by omega⟩,?_⟩
  repeat (first|(refine And.intro (fun h _=>h) ?_)|(refine And.intro (fun _ h=>h) ?_)|(refine And.intro ?aa ?_;case aa=>(exact(fun h=>⟨by omega,by simp at h;omega⟩)))|(refine And.intro ?aa ?_;case aa=>(intros;simp_all [qNS,qRU,qGs];done))|(refine And.intro ?aa ?_;case aa=>(intros;exact q0X (by omega)))|(refine And.intro ?aa ?_;case aa=>(intros;simp only[decide_eq_true_eq]at *;omega))|(intro q hq))
  have e2:q=decide (¬(2≤(q2O s).length∧(q2O s).getD 0 default=q1f)):=by
   subst_vars
   rw[Bool.eq_iff_iff,decide_eq_true_eq];by_cases a1:((q2O s).length:Int)<2
   ·simp only[a1,decide_true,cond_true,true_iff];omega
   ·by_cases a2:(q2O s).getD 0 default=q1f
    ·simp only[a1,a2,decide_false,cond_false,decide_true,Bool.not_true,Bool.false_eq_true,false_iff,and_true];omega
    ·simp only[a1,a2,decide_false,cond_false,Bool.not_false,and_false,not_false_eq_true]
  clear hq;refine⟨fun h3=>?_,fun h3=>?_⟩
  ·rw[e2]at h3;exact q0I (by rw[e1,if_neg fun g=>g.elim hne fun g=>of_decide_eq_true h3 ⟨g.1,g.2.1⟩])
  rw[e2]at h3;have h4:=Classical.not_not.1 (of_decide_eq_false h3);have hl:=h4.1;have ht:(q2O s).tail.length=(q2O s).length-1:=List.length_tail;refine⟨⟨by simp,by simp;omega,by simp⟩,fun i hi=>⟨rfl,rfl⟩,⟨0,?_,by omega,fun j hj=>by omega⟩,?_⟩
  ·exact q1Q ⟨rfl,q4i (by simp) (fun k hk=>qZc hk) (Or.inl rfl),rfl,q0I (by simp),rfl,VLe.refl _,trivial⟩ trivial
  rintro i ⟨hi,hj⟩;refine⟨fun h=>?_,fun h=>?_⟩
  ·have hlt:i<(q2O s).tail.length:=by simp only[decide_eq_true_eq]at h;omega
   have hin:(q2O s).tail.getD i default∈(q2O s).tail:=by
    rw[List.getD_eq_getElem?_getD,List.getElem?_eq_getElem hlt];exact List.getElem_mem hlt
   rw[Int.toNat_natCast];refine⟨⟨by omega,by omega⟩,?_,fun h5=>?_,fun h5=>⟨q0X (by omega),i+1,SLe.refl _,⟨by omega,fun j h6=>?_⟩,by omega⟩⟩
   ·have:=qNp (List.mem_of_mem_tail hin);show ByteArray.size _≤1000;omega
   ·refine q0I ?_;rw[e1,if_neg];rintro(g|g)
    ·exact hne g
    ·have:=g.2.2 _ hin;rw[decide_eq_true this]at h5;cases h5
   ·rcases Nat.lt_or_ge j i with h7|h7
    ·exact hj j h7
    ·have:j=i:=by omega
     subst this;exact Classical.byContradiction fun g=>by
      rw[decide_eq_false g]at h5;cases h5
  ·have hge:i=(q2O s).tail.length:=by simp only[decide_eq_false_iff_not]at h;omega
   refine q0I ?_;rw[e1,if_pos];refine Or.inr ⟨h4.1,h4.2,fun p hp=>?_⟩;obtain⟨j,hj2,rfl⟩:=List.getElem_of_mem hp;have:=hj j (by omega)
   rwa [List.getD_eq_getElem?_getD,List.getElem?_eq_getElem hj2]at this
 exact Eq.mp (by kernel_rfl) key
theorem qTr:q0R Tryz.prog 175 qNN:=by
 refine sob 0 Tryz.func175 fun args bin ob r bout hDe hob=>?_;unfold qNN at hDe;split at hDe
 ·rename_i a0;cases hDe;exact okB (x6u a0 (hob)) x6C (args_of_vles ⟨VLe.refl _,trivial⟩)
 ·cases hDe
def qS9 (s:ByteArray):Prop:=s.size≤24
noncomputable def x22 (s:ByteArray):V:=.tup [q0D q4r 2 (qEX s),.bool (decide (s=top∨q6p s))]
noncomputable def qXW:q0P:=fun args bin=>match args,bin with
 |[.str a0],[]=>some (qS9 a0,x22 a0,[])
 |_,_=>none
noncomputable def qYS (s:ByteArray):q0M:=
 ⟨Nat,fun i=>⟨[(0,.str s),(4,q0D q4r 210 (q2O s)),(5,.int .i64 (i+1))],[]⟩,
  fun i=>i+1≤(q2O s).length∧∀j,j<i→q5j ((q2O s).tail.getD j default),fun i=>(q2O s).tail.length-i⟩
noncomputable def x8o (s:ByteArray):Nat→Option q0M:=fun rg_=>match rg_ with
 |7=>some (qYS s)
 |_=>none
noncomputable def xDG:=lkR [(246,qTe),(251,qTq)]
theorem x7y:q0C Tryz.prog xDG:=q02 x2Q (q02 qZ3 (q04))
noncomputable def x9r (s:ByteArray):=cxL xDG Tryz.f247 [0,2,3,4,5,7,19,23,31] [(7,⟨[(0,none),(4,none),(5,none)],[]⟩)] (x8o s) []
noncomputable def qHZ (s:ByteArray):V:=V.tup [q0D q4r 2 (qEX s),V.bool (decide (s=top∨q6p s))]
def qPK (s:ByteArray) (x:Nat):Prop:=(x+1≤(q2O s).length∧∀j:Nat,j<x→q5j ((List.tail (q2O s)).getD j default))
theorem xBr (s:ByteArray) (hpre:qS9 s):q0d (x9r s) Tryz.f247 1 [.str (s)] (fun rr=>VLe rr (x22 s)):=by
 have key:(q1t s (ByteArray.mk #[(47:UInt8)])=true→VLe (V.tup [V.sl 0 (q3C []) 2,V.bool true]) (qHZ s))∧(q1t s (ByteArray.mk #[(47:UInt8)])=false→qNO s (47:Int)∧tq (!decide ((q2v s)<2))∧((!decide ((q2v s)<2))=true→(0:Int)≤(0:Int)∧0<(q2v s))∧tq (!decide ((q2v s)<2))∧tq (!decide ((q2v s)<2))∧((true=true→decide ((q2v s)<2)=false→(!decide ((q2v s)<2))=true)∧∀b:Bool,(b=bif decide ((q2v s)<2)then true else !q1t ((q2O s).getD 0 default) (ByteArray.mk #[]))→(b=true→VLe (V.tup [V.nil,V.bool false]) (qHZ s))∧(b=false→((∃x:Nat,SLe (AS.mk [(0,V.str s),(4,q0D q4r 210 (q2O s)),(5,vi 1)] []) (AS.mk [(0,V.str s),(4,q0D q4r 210 (q2O s)),(5,vi ((↑x:Int)+1))] [])∧qPK s x)∧∀x:Nat,qPK s x→(decide ((↑x:Int)+1<(q2v s))=true→(0≤(↑x:Int)+1∧(↑x:Int)+1<(q2v s))∧qMl ((q2O s).getD ((↑x:Int)+1).toNat default)∧((!decide (q5j ((q2O s).getD ((↑x:Int)+1).toNat default)))=true→VLe (V.tup [V.nil,V.bool false]) (qHZ s))∧((!decide (q5j ((q2O s).getD ((↑x:Int)+1).toNat default)))=false→(inK IntKind.i64 ((↑x:Int)+1+1)∧∃y:Nat,SLe (AS.mk [(0,V.str s),(4,q0D q4r 210 (q2O s)),(5,vi ((↑x:Int)+1+1))] []) (AS.mk [(0,V.str s),(4,q0D q4r 210 (q2O s)),(5,vi ((↑y:Int)+1))] [])∧(y+1≤(q2O s).length∧∀j:Nat,j<y→q5j ((List.tail (q2O s)).getD j default))∧(List.tail (q2O s)).length-y<(List.tail (q2O s)).length-x)))∧(decide ((↑x:Int)+1<(q2v s))=false→((0:Int)≤Option.getD (some (1:Int)) (0:Int)∧Option.getD (some (1:Int)) (0:Int)≤Option.getD none (q2v s)∧Option.getD none (q2v s)≤(q2v s))∧q13 1 (qHu s) (gL q4r (q2O s))∧VLe (V.tup [V.sl ((Option.getD none (q2v s)).toNat-1) (match(motive:=Option Int→Nat→V) some (1:Int)with|none=>gL q4r (q2O s)|some val=>q32 (gL q4r (q2O s)) 1) 2,V.bool true]) (qHZ s)))))):=by
  delta qPK;delta q2v;delta qHZ;delta qHu;delta vi;have hs:s.size≤24:=hpre;simp only[q1W];have dn:∀{a b:Bool},a=b→VLe (.bool a) (.bool b):=q0Z;refine⟨fun h=>?_,fun h=>?_⟩
  ·have h1:=of_decide_eq_true h;have e1:qEX s=[]:=if_pos (Or.inl h1);rw[e1];exact q5u ⟨q4i rfl (fun k hk=>absurd hk (Nat.not_lt_zero k)) (Or.inl rfl),q0Z (decide_eq_true (Or.inl h1)).symm,trivial⟩
  have hne:=of_decide_eq_false h;have bad:¬q6p s→VLe (.tup [.nil,.bool false]) (.tup [q0D q4r 2 (qEX s),.bool (decide (s=top∨q6p s))]):=fun g=>by
   have e1:qEX s=[]:=if_pos (Or.inr g);rw[e1];exact q5u ⟨qSA _ _,q0Z (decide_eq_false fun k=>k.elim hne g).symm,trivial⟩
  refine⟨⟨rfl,by omega⟩,?_⟩;have hlen:(q2O s).length≤25:=by
   rw[qBz];have:cnt s≤s.size:=by unfold cnt;rw[q2o];exact List.count_le_length
   omega
  repeat (first|(refine And.intro (fun h _=>h) ?_)|(refine And.intro (fun _ h=>h) ?_)|(refine And.intro ?aa ?_;case aa=>(exact(fun h=>⟨by omega,by simp at h;omega⟩)))|(refine And.intro ?aa ?_;case aa=>(intros;simp_all [qNO,qMl];done))|(refine And.intro ?aa ?_;case aa=>(intros;exact q0X (by omega)))|(refine And.intro ?aa ?_;case aa=>(intros;simp only[decide_eq_true_eq]at *;omega))|(intro q hq))
  have e2:q=decide (¬(2≤(q2O s).length∧(q2O s).getD 0 default=q1f)):=by
   subst_vars
   rw[Bool.eq_iff_iff,decide_eq_true_eq];by_cases a1:((q2O s).length:Int)<2
   ·simp only[a1,decide_true,cond_true,true_iff];omega
   ·by_cases a2:(q2O s).getD 0 default=q1f
    ·simp only[a1,a2,decide_false,cond_false,decide_true,Bool.not_true,Bool.false_eq_true,false_iff,and_true];omega
    ·simp only[a1,a2,decide_false,cond_false,Bool.not_false,and_false,not_false_eq_true]
  clear hq;refine⟨fun h3=>?_,fun h3=>?_⟩
  ·rw[e2]at h3;exact bad fun g=>of_decide_eq_true h3 ⟨g.1,g.2.1⟩
  rw[e2]at h3;have h4:=Classical.not_not.1 (of_decide_eq_false h3);have hl:=h4.1;have ht:(q2O s).tail.length=(q2O s).length-1:=List.length_tail;refine⟨⟨0,q1Q ⟨rfl,VLe.refl _,rfl,VLe.refl _,rfl,q0I (by simp),trivial⟩ trivial,by omega,fun j hj=>by omega⟩,?_⟩;rintro i ⟨hi,hj⟩;have et:(q2O s).getD (i+1) default=(q2O s).tail.getD i default:=by
   rw[List.getD_eq_getElem?_getD,List.getD_eq_getElem?_getD,List.getElem?_tail]
  refine⟨fun h5=>?_,fun h5=>?_⟩
  ·have hlt:i<(q2O s).tail.length:=by simp only[decide_eq_true_eq]at h5;omega
   have hin:(q2O s).tail.getD i default∈(q2O s).tail:=by
    rw[List.getD_eq_getElem?_getD,List.getElem?_eq_getElem hlt];exact List.getElem_mem hlt
   have n1:((i:Int)+1).toNat=i+1:=by omega
   rw[n1,et];refine⟨⟨by omega,by omega⟩,?_,fun h5=>?_,fun h5=>⟨q0X (by omega),i+1,q1Q ⟨rfl,VLe.refl _,rfl,VLe.refl _,rfl,q0I (by omega),trivial⟩ trivial,⟨by omega,fun j h6=>?_⟩,by omega⟩⟩
   ·have:=qNp (List.mem_of_mem_tail hin);show ByteArray.size _≤1000;omega
   ·refine bad fun g=>?_;have:=g.2.2 _ hin;rw[decide_eq_true this]at h5;cases h5
   ·rcases Nat.lt_or_ge j i with h7|h7
    ·exact hj j h7
    ·have:j=i:=by omega
     subst this;exact Classical.byContradiction fun g=>by
      rw[decide_eq_false g]at h5;cases h5
  ·have hge:i=(q2O s).tail.length:=by simp only[decide_eq_false_iff_not]at h5;omega
   have hok:q6p s:=by
    refine⟨h4.1,h4.2,fun p hp=>?_⟩;obtain⟨j,hj2,rfl⟩:=List.getElem_of_mem hp;have:=hj j (by omega)
    rwa [List.getD_eq_getElem?_getD,List.getElem?_eq_getElem hj2]at this
   have e1:qEX s=(q2O s).tail:=if_neg fun g=>g.elim hne fun g=>g hok;rw[e1];refine⟨⟨by simp,by simp;omega,by simp⟩,fun i hi=>⟨rfl,rfl⟩,q5u ⟨q4i (by simp) (fun k hk=>qZc hk) (Or.inl rfl),q0Z (decide_eq_true (Or.inr hok)).symm,trivial⟩⟩
 exact Eq.mp (by kernel_rfl) key
theorem x7Q:q0R Tryz.prog 247 qXW:=by
 refine sob 1 Tryz.func247 fun args bin ob r bout hDe hob=>?_;unfold qXW at hDe;split at hDe
 ·rename_i a0;cases hDe;exact okB (xBr a0 (hob)) x7y (args_of_vles ⟨VLe.refl _,trivial⟩)
 ·cases hDe
def qJC (s:ByteArray):Prop:=True
noncomputable def x2B (s:ByteArray):V:=.int .i64 (q1I s)
noncomputable def qRR:q0P:=fun args bin=>match args,bin with
 |[.str a0],[]=>some (qJC a0,x2B a0,[])
 |_,_=>none
noncomputable def xEa:=lkR [(246,qTe),(247,qXW)]
theorem xB7:q0C Tryz.prog xEa:=q02 x2Q (q02 x7Q (q04))
noncomputable def xBO (s:ByteArray):=cxN xEa Tryz.f191 [0,2,4,17,24]
def qO1 (s:ByteArray):Prop:=(!decide ((q0g s)>24)&& !q1t s (ByteArray.mk #[(47:UInt8)]))=true
def qKS (s:ByteArray):Prop:=(!decide ((q0g s)>24))=true
theorem xBf (s:ByteArray) (hpre:qJC s):q0d (xBO s) Tryz.f191 0 [.str (s)] (fun rr=>VLe rr (x2B s)):=by
 have key:tq (!decide ((q0g s)>24))∧tq (!decide ((q0g s)>24))∧tq (!decide ((q0g s)>24)&& !q1t s (ByteArray.mk #[(47:UInt8)]))∧(qO1 s→qNO s (47:Int))∧tq (!decide ((q0g s)>24)&& !q1t s (ByteArray.mk #[(47:UInt8)]))∧tq (!decide ((q0g s)>24)&& !q1t s (ByteArray.mk #[(47:UInt8)]))∧tq (!decide ((q0g s)>24))∧((qKS s→qKS s→(!q1t s (ByteArray.mk #[(47:UInt8)]))=true→qO1 s)∧∀b:Bool,(b=bif !q1t s (ByteArray.mk #[(47:UInt8)])then decide ((↑ (q2O s).length:Int)>5)else false)→((true=true→decide ((q0g s)>24)=false→qKS s)∧∀b_1:Bool,(b_1=bif decide ((q0g s)>24)then true else b)→(b_1=true→VLe (vi 2) (vi (q1I s)))∧(b_1=false→qS9 s∧((!decide (s=top∨q6p s))=true→VLe (vi 5) (vi (q1I s)))∧((!decide (s=top∨q6p s))=false→VLe (vi 0) (vi (q1I s)))))):=by
  delta qKS;delta qO1;delta q0g;delta vi
  repeat (first|(refine And.intro (fun h _=>h) ?_)|(refine And.intro (fun _ h=>h) ?_)|(refine And.intro ?aa ?_;case aa=>(exact(fun h=>⟨rfl,by simp at h;omega⟩)))|(refine And.intro ?aa ?_;case aa=>(intros;simp_all [qNO,qS9];done))|(refine And.intro ?aa ?_;case aa=>(intros;exact q0X (by omega)))|(refine And.intro ?aa ?_;case aa=>(intros;simp only[decide_eq_true_eq]at *;omega))|(intro q hq))
  have hc:=qBz s;have e0:q=decide (24<s.size∨s≠top∧4<cnt s):=by
   subst_vars
   simp only[q1W];rw[Bool.eq_iff_iff,decide_eq_true_eq];by_cases a1:(s.size:Int)>24
   ·simp[a1];omega
   ·by_cases a2:s=top
    ·simp[a1,a2];omega
    ·by_cases a3:((q2O s).length:Int)>5<;>simp[a1,a2,a3]<;>omega
  clear hq;have htop:s=top→cnt s=1:=fun e=>by rw[e];rfl
  have e3:q=decide (24<s.size∨4<cnt s):=by
   rw[e0,decide_eq_decide];by_cases a2:s=top
   ·have:=htop a2;simp[a2,this];rw[a2]at this;omega
   ·simp[a2]
  refine⟨fun h=>?_,fun h=>?_⟩
  ·rw[e3]at h;exact q0I (by unfold q1I;rw[if_pos (of_decide_eq_true h)])
  rw[e3]at h;have h1:=of_decide_eq_false h;have e1:q1I s=if s=top∨q6p s then 0 else 5:=if_neg h1
  refine⟨by show s.size≤24;omega,fun h2=>?_,fun h2=>?_⟩
  ·have h3:¬(s=top∨q6p s):=by simpa using h2
   exact q0I (by rw[e1,if_neg h3])
  ·have h3:s=top∨q6p s:=Classical.byContradiction fun g=>by
    rw[decide_eq_false g]at h2;cases h2
   exact q0I (by rw[e1,if_pos h3])
 exact Eq.mp (by kernel_rfl) key
theorem qYW:q0R Tryz.prog 191 qRR:=by
 refine sob 0 Tryz.func191 fun args bin ob r bout hDe hob=>?_;unfold qRR at hDe;split at hDe
 ·rename_i a0;cases hDe;exact okB (xBf a0 (hob)) xB7 (args_of_vles ⟨VLe.refl _,trivial⟩)
 ·cases hDe
def qWI (s:ByteArray) (c:Int):Prop:=c=47∧s.size≤1000∧q6d s
noncomputable def x0O (s:ByteArray) (c:Int):V:=.int .i64 (q2B s)
noncomputable def qWN:q0P:=fun args bin=>match args,bin with
 |[.str a0,.int .u8 a1],[]=>some (qWI a0 a1,x0O a0 a1,[])
 |_,_=>none
noncomputable def qXy (s:ByteArray) (c:Int):q0M:=
 ⟨Nat,fun k=>⟨[(0,.str s),(1,.int .u8 47),(5,.int .i64 ((k:Int)-1))],[]⟩,
  fun k=>1≤k∧k≤s.size∧q3V s k=q2B s,fun k=>k⟩
noncomputable def x5S (s:ByteArray) (c:Int):Nat→Option q0M:=fun rg_=>match rg_ with
 |2=>some (qXy s c)
 |_=>none
noncomputable def xEn:=lkR []
theorem xAH:q0C Tryz.prog xEn:=q04
noncomputable def x6W (s:ByteArray) (c:Int):=cxL xEn Tryz.f277 [0,1,4,5,10,17] [(2,⟨[(0,none),(1,none),(5,none)],[]⟩)] (x5S s c) []
theorem x8V (s:ByteArray) (c:Int) (hpre:qWI s c):q0d (x6W s c) Tryz.f277 0 [.str (s),.int .u8 (c)] (fun rr=>VLe rr (x0O s c)):=by
 have key:inK IntKind.i64 ((↑ s.size:Int)-1)∧((∃x:Nat,SLe (AS.mk [(0,V.str s),(1,V.int IntKind.u8 c),(5,vi ((↑ s.size:Int)-1))] []) (AS.mk [(0,V.str s),(1,V.int IntKind.u8 (47:Int)),(5,vi ((↑x:Int)-1))] [])∧1≤x∧x≤s.size∧q3V s x=q2B s)∧∀x:Nat,1≤x∧x≤s.size∧q3V s x=q2B s→(decide ((↑x:Int)-1≥0)=true→(0≤(↑x:Int)-1∧(↑x:Int)-1<(↑ s.size:Int))∧((q0i s ((↑x:Int)-1)==47)=true→VLe (vi ((↑x:Int)-1)) (vi (↑ (q2B s):Int)))∧((q0i s ((↑x:Int)-1)==47)=false→(inK IntKind.i64 ((↑x:Int)-1-1)∧∃y:Nat,SLe (AS.mk [(0,V.str s),(1,V.int IntKind.u8 (47:Int)),(5,vi ((↑x:Int)-1-1))] []) (AS.mk [(0,V.str s),(1,V.int IntKind.u8 (47:Int)),(5,vi ((↑y:Int)-1))] [])∧(1≤y∧y≤s.size∧q3V s y=q2B s)∧y<x)))∧(decide ((↑x:Int)-1≥0)=false→VLe (vi (-1)) (vi (↑ (q2B s):Int)))):=by
  delta vi;obtain⟨rfl,hs,hh⟩:=hpre;obtain⟨h0,hb⟩:=q5N hh;refine⟨q0X (by omega),⟨s.size,SLe.refl _,by omega,Nat.le_refl _,rfl⟩,?_⟩;rintro k ⟨h1,h2,h3⟩;obtain⟨k,rfl⟩:∃j,k=j+1:=⟨k-1,by omega⟩;have n1:((k+1:Nat):Int)-1=k:=by omega
  simp only[n1];have e:q3V s (k+1)=if q0i s k=47 then k else q3V s k:=rfl
  refine⟨fun _=>⟨⟨by omega,by omega⟩,fun h=>?_,fun h=>?_⟩,fun h=>?_⟩
  ·have:=eq_of_beq h;rw[if_pos this]at e;exact q0I (by rw[←h3,e])
  ·have hne:¬q0i s k=47:=by simpa using h
   rw[if_neg hne]at e;have hk:k≠0:=fun g=>by subst g;exact hne hb
   exact⟨q0X (by omega),k,SLe.refl _,⟨by omega,by omega,by rw[←e,h3]⟩,by omega⟩
  ·have:=of_decide_eq_false h;omega
 exact Eq.mp (by kernel_rfl) key
theorem x4e:q0R Tryz.prog 277 qWN:=by
 refine sob 0 Tryz.func277 fun args bin ob r bout hDe hob=>?_;unfold qWN at hDe;split at hDe
 ·rename_i a0 a1;cases hDe;exact okB (x8V a0 a1 (hob)) xAH (args_of_vles ⟨VLe.refl _,VLe.refl _,trivial⟩)
 ·cases hDe
def qYj (s:ByteArray) (sub:ByteArray):Prop:=sub=top∧s.size≤1000∧q6d s
noncomputable def x1Z (s:ByteArray) (sub:ByteArray):V:=.int .i64 (q2B s)
noncomputable def qWZ:q0P:=fun args bin=>match args,bin with
 |[.str a0,.str a1],[]=>some (qYj a0 a1,x1Z a0 a1,[])
 |_,_=>none
noncomputable def xFT:=lkR [(277,qWN)]
theorem xA3:q0C Tryz.prog xFT:=q02 x4e (q04)
noncomputable def xCb (s:ByteArray) (sub:ByteArray):Cx:=⟨tt,xFT,Tryz.f256.ntmps,[0,1,4,5,8,13,20,27,28],[],[3,6],fun _=>none,[],noM,[]⟩
theorem x7g (s:ByteArray) (sub:ByteArray) (hpre:qYj s sub):q0d (xCb s sub) Tryz.f256 0 [.str (s),.str (sub)] (fun rr=>VLe rr (x1Z s sub)):=by
 have key:(((q2z sub)==(0:Int))=true→False)∧(((q2z sub)==(0:Int))=false→(((q2z sub)==(1:Int))=true→((0:Int)≤(0:Int)∧0<(q2z sub))∧qWI s (q0i sub (0:Int))∧VLe (vi (↑ (q2B s):Int)) (vi (↑ (q2B s):Int)))∧(((q2z sub)==(1:Int))=false→False)):=by
  delta q2z;delta vi;obtain⟨rfl,hs,hh⟩:=hpre;simp only[qFF,qOs];exact⟨fun h=>by simp at h,fun h=>⟨fun h=>⟨by simp,⟨rfl,hs,hh⟩,VLe.refl _⟩,fun h=>by simp at h⟩⟩
 exact Eq.mp (by kernel_rfl) key
theorem x6w:q0R Tryz.prog 256 qWZ:=by
 refine sob 0 Tryz.func256 fun args bin ob r bout hDe hob=>?_;unfold qWZ at hDe;split at hDe
 ·rename_i a0 a1;cases hDe;exact okB (x7g a0 a1 (hob)) xA3 (args_of_vles ⟨VLe.refl _,VLe.refl _,trivial⟩)
 ·cases hDe
def qJI (s:ByteArray):Prop:=s.size≤1000∧q6d s
noncomputable def x2N (s:ByteArray):V:=.tup [.str (upF s),.str (q4R s)]
noncomputable def qPU:q0P:=fun args bin=>match args,bin with
 |[.str a0],[]=>some (qJI a0,x2N a0,[])
 |_,_=>none
noncomputable def xF3:=lkR [(256,qWZ)]
theorem x80:q0C Tryz.prog xF3:=q02 x6w (q04)
noncomputable def xCm (s:ByteArray):=cxN xF3 Tryz.f204 [0,2,3,4]
noncomputable def q8c (s:ByteArray):Int:=(↑ (q2B s):Int)
theorem x4h (s:ByteArray) (hpre:qJI s):q0d (xCm s) Tryz.f204 0 [.str (s)] (fun rr=>VLe rr (x2N s)):=by
 have key:qYj s (ByteArray.mk #[(47:UInt8)])∧((0:Int)≤Option.getD none (0:Int)∧Option.getD none (0:Int)≤Option.getD (some (if(1:Int)>(q8c s)then(1:Int)else(q8c s))) (q0g s)∧Option.getD (some (if(1:Int)>(q8c s)then(1:Int)else(q8c s))) (q0g s)≤(q0g s))∧inK IntKind.i64 ((q8c s)+1)∧((0:Int)≤Option.getD (some ((q8c s)+1)) (0:Int)∧Option.getD (some ((q8c s)+1)) (0:Int)≤Option.getD none (q0g s)∧Option.getD none (q0g s)≤(q0g s))∧VLe (V.tup [V.str (ByteArray.extract s 0 (Option.getD (some (if(1:Int)>(q8c s)then(1:Int)else(q8c s))) (q0g s)).toNat),V.str (ByteArray.extract s (Option.getD (some ((q8c s)+1)) (0:Int)).toNat (Option.getD none (q0g s)).toNat)]) (V.tup [V.str (upF s),V.str (q4R s)]):=by
  delta q8c;delta q0g;obtain⟨hs,hh⟩:=hpre;obtain⟨h0,hb⟩:=q5N hh;have hl:q2B s<s.size:=q8G _ h0;have n1:(if(1:Int)>(q2B s:Int)then 1 else(q2B s:Int))=((max (q2B s) 1:Nat):Int):=by
   split<;>omega
  have n2:((q2B s:Int)+1).toNat=q2B s+1:=by omega
  simp only[n1,n2,Option.getD_some,Option.getD_none,Int.toNat_natCast];refine⟨⟨rfl,hs,hh⟩,⟨by omega,by omega,by omega⟩,q0X (by omega),⟨by omega,by omega,by omega⟩,q5u ⟨q7i (x2D hh),VLe.refl _,trivial⟩⟩
 exact Eq.mp (by kernel_rfl) key
theorem qVc:q0R Tryz.prog 204 qPU:=by
 refine sob 0 Tryz.func204 fun args bin ob r bout hDe hob=>?_;unfold qPU at hDe;split at hDe
 ·rename_i a0;cases hDe;exact okB (x4h a0 (hob)) x80 (args_of_vles ⟨VLe.refl _,trivial⟩)
 ·cases hDe
def qQZ (s:ByteArray):Prop:=s.size≤1000
noncomputable def x1w (s:ByteArray):V:=.int .i64 (q2B s)
noncomputable def qPI:q0P:=fun args bin=>match args,bin with
 |[.str a0],[]=>some (qQZ a0,x1w a0,[])
 |_,_=>none
noncomputable def qXX (s:ByteArray):q0M:=
 ⟨Nat,fun i=>⟨[(0,.str s),(3,.int .i64 (q3V s i)),(4,.int .i64 i)],[]⟩,
  fun i=>i≤s.size,fun i=>s.size-i⟩
noncomputable def x9F (s:ByteArray):Nat→Option q0M:=fun rg_=>match rg_ with
 |3=>some (qXX s)
 |_=>none
noncomputable def xEz:=lkR []
theorem xCo:q0C Tryz.prog xEz:=q04
noncomputable def xB1 (s:ByteArray):=cxL xEz Tryz.f250 [0,2,3,4,8,14] [(3,⟨[(0,none),(3,none),(4,none)],[]⟩)] (x9F s) []
theorem xAI (s:ByteArray) (hpre:qQZ s):q0d (xB1 s) Tryz.f250 0 [.str (s)] (fun rr=>VLe rr (x1w s)):=by
 have key:((∃x:Nat,SLe (AS.mk [(0,V.str s),(3,vi 0),(4,vi 0)] []) (AS.mk [(0,V.str s),(3,vi (↑ (q3V s x):Int)),(4,vi (↑x:Int))] [])∧x≤s.size)∧∀x:Nat,x≤s.size→(decide ((↑x:Int)<(↑ s.size:Int))=true→(0≤(↑x:Int)∧(↑x:Int)<(↑ s.size:Int))∧((q0i s (↑x:Int)==(47:Int))=true→(inK IntKind.i64 ((↑x:Int)+1)∧∃y:Nat,SLe (AS.mk [(0,V.str s),(3,vi (↑x:Int)),(4,vi ((↑x:Int)+1))] []) (AS.mk [(0,V.str s),(3,vi (↑ (q3V s y):Int)),(4,vi (↑y:Int))] [])∧y≤s.size∧s.size-y<s.size-x))∧((q0i s (↑x:Int)==(47:Int))=false→(inK IntKind.i64 ((↑x:Int)+1)∧∃y:Nat,SLe (AS.mk [(0,V.str s),(3,vi (↑ (q3V s x):Int)),(4,vi ((↑x:Int)+1))] []) (AS.mk [(0,V.str s),(3,vi (↑ (q3V s y):Int)),(4,vi (↑y:Int))] [])∧y≤s.size∧s.size-y<s.size-x)))∧(decide ((↑x:Int)<(↑ s.size:Int))=false→VLe (vi (↑ (q3V s x):Int)) (vi (↑ (q2B s):Int)))):=by
  delta vi;have hs:s.size≤1000:=hpre;refine⟨⟨0,SLe.refl _,by omega⟩,?_⟩;intro i hi;have e:q3V s (i+1)=if q0i s i=47 then i else q3V s i:=rfl
  refine⟨fun h=>?_,fun h=>?_⟩
  ·have hlt:i<s.size:=by simpa using h
   refine⟨⟨by omega,by omega⟩,fun h=>⟨q0X (by omega),i+1,?_,by omega,by omega⟩,fun h=>⟨q0X (by omega),i+1,?_,by omega,by omega⟩⟩
   ·rw[e,if_pos (eq_of_beq h)];exact SLe.refl _
   ·rw[e,if_neg (by simpa using h)];exact SLe.refl _
  ·have:i=s.size:=by simp at h;omega
   subst this;exact VLe.refl _
 exact Eq.mp (by kernel_rfl) key
theorem qY5:q0R Tryz.prog 250 qPI:=by
 refine sob 0 Tryz.func250 fun args bin ob r bout hDe hob=>?_;unfold qPI at hDe;split at hDe
 ·rename_i a0;cases hDe;exact okB (xAI a0 (hob)) xCo (args_of_vles ⟨VLe.refl _,trivial⟩)
 ·cases hDe
def qG6 (s:ByteArray):Prop:=s.size≤1000
noncomputable def qZM (s:ByteArray):V:=.str (upF s)
noncomputable def qPZ:q0P:=fun args bin=>match args,bin with
 |[.str a0],[]=>some (qG6 a0,qZM a0,[])
 |_,_=>none
noncomputable def xDP:=lkR [(250,qPI)]
theorem xBo:q0C Tryz.prog xDP:=q02 qY5 (q04)
noncomputable def x7e (s:ByteArray):=cxN xDP Tryz.f221 [0,2,3,7]
theorem xAS (s:ByteArray) (hpre:qG6 s):q0d (x7e s) Tryz.f221 0 [.str (s)] (fun rr=>VLe rr (qZM s)):=by
 have key:qQZ s∧(((↑ (q2B s):Int)==(0:Int))=true→VLe (V.str (ByteArray.mk #[(47:UInt8)])) (V.str (upF s)))∧(((↑ (q2B s):Int)==(0:Int))=false→((0:Int)≤Option.getD none (0:Int)∧Option.getD none (0:Int)≤Option.getD (some (↑ (q2B s):Int)) (↑ s.size:Int)∧Option.getD (some (↑ (q2B s):Int)) (↑ s.size:Int)≤(↑ s.size:Int))∧VLe (V.str (ByteArray.extract s 0 (Option.getD (some (↑ (q2B s):Int)) (↑ s.size:Int)).toNat)) (V.str (upF s))):=by
  have hs:s.size≤1000:=hpre;have hl:q2B s≤s.size:=q9s _ _;refine⟨hs,fun h=>?_,fun h=>?_⟩
  ·have:q2B s=0:=by simpa using h
   exact q7i (by unfold upF;rw[if_pos this])
  ·have:¬q2B s=0:=by simpa using h
   simp only[Option.getD_some,Option.getD_none,Int.toNat_natCast];exact⟨⟨by omega,by omega,by omega⟩,q7i (by unfold upF;rw[if_neg this])⟩
 exact Eq.mp (by kernel_rfl) key
theorem qYH:q0R Tryz.prog 221 qPZ:=by
 refine sob 0 Tryz.func221 fun args bin ob r bout hDe hob=>?_;unfold qPZ at hDe;split at hDe
 ·rename_i a0;cases hDe;exact okB (xAS a0 (hob)) xBo (args_of_vles ⟨VLe.refl _,trivial⟩)
 ·cases hDe
theorem tqI (x:Bool):tq x:=fun h _=>h
theorem qZg {n:Int} (h:0≤n∧n≤18446744073709551615):inK .u64 n:=Go.IntWalk.u64_in _ h
theorem xF8 (i j:Nat):((i:Int)+(j:Int)).fdiv (2^(Int.toNat 1))=(((i+j)/2:Nat):Int):=by
 rw[Int.fdiv_eq_ediv_of_nonneg _ (by decide)];show((i:Int)+j)/2=_;omega
def qYG (a:ByteArray) (b:ByteArray):Prop:=True
noncomputable def x23 (a:ByteArray) (b:ByteArray):V:=.int .i64 (qMg a b)
noncomputable def qWw:q0P:=fun args bin=>match args,bin with
 |[.str a0,.str a1],[]=>some (qYG a0 a1,x23 a0 a1,[])
 |_,_=>none
noncomputable def xER:=lkR [(296,x0g)]
theorem xC5:q0C Tryz.prog xER:=q02 x4b (q04)
noncomputable def x55 (a:ByteArray) (b:ByteArray):=cxN xER Tryz.f289 [0,1,4]
theorem x7J (a:ByteArray) (b:ByteArray) (hpre:qYG a b):q0d (x55 a b) Tryz.f289 0 [.str (a),.str (b)] (fun rr=>VLe rr (x23 a b)):=by
 have key:True∧VLe (vi (Lib.compareBytes (Array.toList (ByteArray.data a)) (Array.toList (ByteArray.data b)))) (vi (qMg a b)):=by
  delta vi;exact⟨trivial,VLe.refl _⟩
 exact Eq.mp (by kernel_rfl) key
theorem xCg:q0R Tryz.prog 289 qWw:=by
 refine sob 0 Tryz.func289 fun args bin ob r bout hDe hob=>?_;unfold qWw at hDe;split at hDe
 ·rename_i a0 a1;cases hDe;exact okB (x7J a0 a1 (hob)) xC5 (args_of_vles ⟨VLe.refl _,VLe.refl _,trivial⟩)
 ·cases hDe
def qW2 (a:ByteArray) (b:ByteArray):Prop:=True
noncomputable def qZn (a:ByteArray) (b:ByteArray):V:=.int .i64 (qMg a b)
noncomputable def qXA:q0P:=fun args bin=>match args,bin with
 |[.str a0,.str a1],[]=>some (qW2 a0 a1,qZn a0 a1,[])
 |_,_=>none
noncomputable def xFE:=lkR [(289,qWw)]
theorem xC1:q0C Tryz.prog xFE:=q02 xCg (q04)
noncomputable def x6l (a:ByteArray) (b:ByteArray):=cxN xFE Tryz.f275 [0,1,4]
theorem x8E (a:ByteArray) (b:ByteArray) (hpre:qW2 a b):q0d (x6l a b) Tryz.f275 0 [.str (a),.str (b)] (fun rr=>VLe rr (qZn a b)):=by
 have key:qYG a b∧VLe (vi (qMg a b)) (vi (qMg a b)):=by
  delta vi;exact⟨trivial,VLe.refl _⟩
 exact Eq.mp (by kernel_rfl) key
theorem x8D:q0R Tryz.prog 275 qXA:=by
 refine sob 0 Tryz.func275 fun args bin ob r bout hDe hob=>?_;unfold qXA at hDe;split at hDe
 ·rename_i a0 a1;cases hDe;exact okB (x8E a0 a1 (hob)) xC1 (args_of_vles ⟨VLe.refl _,VLe.refl _,trivial⟩)
 ·cases hDe
def qRa (z:q0A) (t:ByteArray):Prop:=True
noncomputable def x1y (z:q0A) (t:ByteArray):V:=.int .i64 (qMg z.path t)
noncomputable def qYu:q0P:=fun args bin=>match args,bin with
 |[a0,.str a1],[]=>some (VLe a0 (q01 1 ((q03 a0)))∧qRa (q03 a0) a1,x1y (q03 a0) a1,[])
 |_,_=>none
noncomputable def xCz:=lkR [(275,qXA)]
theorem x8B:q0C Tryz.prog xCz:=q02 x8D (q04)
noncomputable def x9y (z:q0A) (t:ByteArray):=cxN xCz Tryz.f245 [0,1,2,4]
theorem x5m (z:q0A) (t:ByteArray) (hpre:qRa z t):q0d (x9y z t) Tryz.f245 0 [q01 1 (z),.str (t)] (fun rr=>VLe rr (x1y z t)):=by
 have key:qW2 z.path t∧VLe (vi (qMg z.path t)) (vi (qMg z.path t)):=by
  delta vi;exact⟨trivial,VLe.refl _⟩
 exact Eq.mp (by kernel_rfl) key
theorem xAK:q0R Tryz.prog 245 qYu:=by
 refine sob 0 Tryz.func245 fun args bin ob r bout hDe hob=>?_;unfold qYu at hDe;split at hDe
 ·rename_i a0 a1;cases hDe;exact okB (x5m (q03 a0) a1 (hob.2)) x8B (args_of_vles ⟨hob.1,VLe.refl _,trivial⟩)
 ·cases hDe
def qCd (l:List q0A) (t:ByteArray):Prop:=rising l∧l.length≤1000
noncomputable def qGn (l:List q0A) (t:ByteArray):V:=.tup [.int .i64 (q2U l t),.bool (isZ l t)]
noncomputable def qD4:q0P:=fun args bin=>match args,bin with
 |[a0,.str a1,.fn 245 []],[]=>some (VLe a0 (q0D (q01 1) 1 (((q0K q03) a0)))∧qCd ((q0K q03) a0) a1,qGn ((q0K q03) a0) a1,[])
 |_,_=>none
noncomputable def qK5 (l:List q0A) (t:ByteArray):q0M:=
 ⟨Nat×Nat,fun p=>⟨[(0,q0D (q01 1) 1 l),(1,.str t),(2,.fn 245 []),(8,.int .i64 l.length),(9,.int .i64 p.1),(10,.int .i64 p.2)],[]⟩,
  fun p=>p.1≤p.2∧p.2≤l.length∧(∀k,k<p.1→lt (atZ l k).path t)∧(p.2<l.length→¬lt (atZ l p.2).path t),fun p=>p.2-p.1⟩
noncomputable def qPo (l:List q0A) (t:ByteArray):Nat→Option q0M:=fun rg_=>match rg_ with
 |3=>some (qK5 l t)
 |_=>none
noncomputable def qLA:=lkR [(245,qYu)]
theorem qRJ:q0C Tryz.prog qLA:=q02 xAK (q04)
noncomputable def qRT (l:List q0A) (t:ByteArray):=cxL qLA Tryz.f244 [0,1,2,6,7,8,9,10,11,17,31] [(3,⟨[(0,none),(1,none),(2,none),(8,none),(9,none),(10,none)],[]⟩)] (qPo l t) []
noncomputable def q0c (x:Nat×Nat):Int:=(↑x.1:Int)
noncomputable def q0w (x:Nat×Nat):Int:=(↑x.2:Int)
noncomputable def q6D (l:List q0A) (x:Nat×Nat):V:=q01 1 (l.getD (Int.fdiv ((q0c x)+(q0w x)) ((2:Int)^Int.toNat (1:Int))).toNat default)
def qAY (l:List q0A) (t:ByteArray) (x:Nat×Nat) (y:Nat×Nat):Prop:=(Prod.fst y≤Prod.snd y∧Prod.snd y≤l.length∧(∀k:Nat,k<Prod.fst y→lt (atZ l k).path t)∧(Prod.snd y<l.length→(¬lt (atZ l y.2).path t)))∧Prod.snd y-Prod.fst y<Prod.snd x-Prod.fst x
noncomputable def q4s (l:List q0A) (x:Nat×Nat):Bool:=decide ((q0c x)<(q0G l))
def qAW (l:List q0A) (t:ByteArray) (x:Nat×Nat):Prop:=Prod.fst x≤Prod.snd x∧Prod.snd x≤l.length∧(∀k:Nat,k<Prod.fst x→lt (atZ l k).path t)∧(Prod.snd x<l.length→(¬lt (atZ l x.2).path t))
noncomputable def q7L (l:List q0A) (x:Nat×Nat):V:=q01 1 (l.getD (q0c x).toNat default)
noncomputable def q6H:Nat×V:=(2,V.fn (245:FuncId) [])
def q7F (l:List q0A) (x:Nat×Nat):Prop:=decide ((q0c x)<(q0G l))=true
noncomputable def qBJ (l:List q0A) (t:ByteArray) (y:Nat×Nat):AS:=AS.mk [(0,q0D (q01 1) 1 l),(1,V.str t),q6H,(8,vi (q0G l)),(9,vi (↑y.1:Int)),(10,vi (↑y.2:Int))] []
theorem qQK (l:List q0A) (t:ByteArray) (hpre:qCd l t):q0d (qRT l t) Tryz.f244 0 [q0D (q01 1) 1 (l),.str (t),.fn 245 []] (fun rr=>VLe rr (qGn l t)):=by
 have key:((∃x:Nat×Nat,SLe (AS.mk [(0,q0D (q01 1) 1 l),(1,V.str t),q6H,(8,vi (q0G l)),(9,vi 0),(10,vi (q0G l))] []) (AS.mk [(0,q0D (q01 1) 1 l),(1,V.str t),q6H,(8,vi (q0G l)),(9,vi (q0c x)),(10,vi (q0w x))] [])∧qAW l t x)∧∀x:Nat×Nat,qAW l t x→(decide ((q0c x)<(q0w x))=true→inK IntKind.i64 ((q0c x)+(q0w x))∧inK IntKind.u64 ((q0c x)+(q0w x))∧((0:Int)≤(1:Int)∧(1:Int).toNat≤IntKind.bits IntKind.u64)∧inK IntKind.i64 (Int.fdiv ((q0c x)+(q0w x)) ((2:Int)^Int.toNat (1:Int)))∧((0:Int)≤Int.fdiv ((q0c x)+(q0w x)) ((2:Int)^Int.toNat (1:Int))∧Int.fdiv ((q0c x)+(q0w x)) ((2:Int)^Int.toNat (1:Int))<(q0G l))∧(VLe (q6D l x) (q01 1 (q03 (q6D l x)))∧qRa (q03 (q6D l x)) t)∧(decide (qMg (q03 (q6D l x)).path t<(0:Int))=true→(inK IntKind.i64 (Int.fdiv ((q0c x)+(q0w x)) ((2:Int)^Int.toNat (1:Int))+(1:Int))∧∃y:Nat×Nat,SLe (AS.mk [(0,q0D (q01 1) 1 l),(1,V.str t),q6H,(8,vi (q0G l)),(9,vi (Int.fdiv ((q0c x)+(q0w x)) ((2:Int)^Int.toNat (1:Int))+(1:Int))),(10,vi (q0w x))] []) (qBJ l t y)∧qAY l t x y))∧(decide (qMg (q03 (q6D l x)).path t<(0:Int))=false→∃y:Nat×Nat,SLe (AS.mk [(0,q0D (q01 1) 1 l),(1,V.str t),q6H,(8,vi (q0G l)),(9,vi (q0c x)),(10,vi (Int.fdiv ((q0c x)+(q0w x)) ((2:Int)^Int.toNat (1:Int))))] []) (qBJ l t y)∧qAY l t x y))∧(decide ((q0c x)<(q0w x))=false→tq (q4s l x)∧tq (q4s l x)∧(q7F l x→0≤(q0c x)∧(q0c x)<(q0G l))∧tq (q4s l x)∧tq (q4s l x)∧tq (q4s l x)∧tq (q4s l x)∧(q7F l x→VLe (q7L l x) (q01 1 (q03 (q7L l x)))∧qRa (q03 (q7L l x)) t)∧tq (q4s l x)∧((true=true→q7F l x→q7F l x)∧∀b:Bool,(b=bif decide ((q0c x)<(q0G l))then qMg (q03 (q7L l x)).path t==0 else false)→VLe (V.tup [vi (q0c x),V.bool b]) (V.tup [vi (↑ (q2U l t):Int),V.bool (isZ l t)])))):=by
  delta qBJ;delta q7F;delta q6H;delta q7L;delta qAW;delta q4s;delta qAY;delta q0G;delta q6D;delta q0w;delta q0c;delta vi;obtain⟨hr,hl⟩:=hpre;simp only[q1R,xF8];refine⟨⟨(0,l.length),SLe.refl _,by simp,by simp,fun k hk=>absurd hk (Nat.not_lt_zero k),fun h=>absurd h (Nat.lt_irrefl _)⟩,?_⟩;rintro⟨i,j⟩ ⟨h1,h2,h3,h4⟩;simp only at h1 h2 h3 h4⊢;refine⟨fun h=>?_,fun h=>?_⟩
  ·have hlt:i<j:=by have:=of_decide_eq_true h;omega
   have m1:i≤(i+j)/2∧(i+j)/2<j:=by omega
   have m2:i+j≤2000:=by omega
   generalize (i+j)/2=m at*;simp only[Int.toNat_natCast];refine⟨q0X (by omega),qZg (by omega),by decide,q0X (by omega),⟨by omega,by omega⟩,⟨VLe.refl _,trivial⟩,fun h5=>?_,fun h5=>?_⟩
   ·have h6:lt (atZ l m).path t:=(qPQ _ _).1 (of_decide_eq_true h5);refine⟨q0X (by omega),(m+1,j),SLe.refl _,⟨by simp only;omega,h2,fun k hk=>?_,h4⟩,by simp only;omega⟩;by_cases e:k=m
    ·subst e;exact h6
    ·exact lt_trans (hr k m (by simp only at hk;omega) (by omega)) h6
   ·have h6:¬lt (atZ l m).path t:=fun g=>of_decide_eq_false h5 ((qPQ _ _).2 g);exact⟨(i,m),SLe.refl _,⟨by simp only;omega,by simp only;omega,h3,fun _=>h6⟩,by simp only;omega⟩
  ·have hij:i=j:=by have:=of_decide_eq_false h;omega
   subst hij;have hp:q2U l t=i:=qDO h2 h3 h4
   repeat (first|(refine And.intro (fun h _=>h) ?_)|(refine And.intro (fun _ h=>h) ?_)|(refine And.intro ?aa ?_;case aa=>(exact(tqI _)))|(refine And.intro ?aa ?_;case aa=>(exact(fun h=>⟨by omega,by have:=of_decide_eq_true h;omega⟩)))|(refine And.intro ?aa ?_;case aa=>(exact fun _=>⟨VLe.refl _,trivial⟩))|(refine And.intro ?aa ?_;case aa=>(intros;simp_all [qRa];done))|(refine And.intro ?aa ?_;case aa=>(intros;exact q0X (by omega)))|(refine And.intro ?aa ?_;case aa=>(intros;simp only[decide_eq_true_eq]at *;omega))|(intro q hq))
   refine q5u ⟨q0I (by rw[hp]),q0Z ?_,trivial⟩;rw[hq];unfold isZ;rw[hp,Bool.eq_iff_iff,decide_eq_true_eq];by_cases a1:i<l.length
   ·have a2:decide ((i:Int)<(l.length:Int))=true:=decide_eq_true (by omega);rw[a2];simp only[cond_true,beq_iff_eq,qVy,Int.toNat_natCast,a1,true_and]
   ·have a2:decide ((i:Int)<(l.length:Int))=false:=decide_eq_false (by omega);rw[a2];simp[a1]
 exact Eq.mp (by kernel_rfl) key
theorem qP9:q0R Tryz.prog 244 qD4:=by
 refine sob 0 Tryz.func244 fun args bin ob r bout hDe hob=>?_;unfold qD4 at hDe;split at hDe
 ·rename_i a0 a1;cases hDe;exact okB (qQK ((q0K q03) a0) a1 (hob.2)) qRJ (args_of_vles ⟨hob.1,VLe.refl _,VLe.refl _,trivial⟩)
 ·cases hDe
def q9j (l:List q0A) (t:ByteArray):Prop:=rising l∧l.length≤1000
noncomputable def x2o (l:List q0A) (t:ByteArray):V:=.tup [.int .i64 (q2U l t),.bool (isZ l t)]
noncomputable def qGP:q0P:=fun args bin=>match args,bin with
 |[a0,.str a1],[]=>some (VLe a0 (q0D (q01 1) 1 (((q0K q03) a0)))∧q9j ((q0K q03) a0) a1,x2o ((q0K q03) a0) a1,[])
 |_,_=>none
noncomputable def xE4:=lkR [(244,qD4)]
theorem xCh:q0C Tryz.prog xE4:=q02 qP9 (q04)
noncomputable def x8Y (l:List q0A) (t:ByteArray):=cxN xE4 Tryz.f184 [0,1,4,5]
theorem x7O (l:List q0A) (t:ByteArray) (hpre:q9j l t):q0d (x8Y l t) Tryz.f184 0 [q0D (q01 1) 1 (l),.str (t)] (fun rr=>VLe rr (x2o l t)):=by
 have key:(VLe (q0D (q01 1) 1 l) (q0D (q01 1) 1 (q08 l))∧qCd (q08 l) t)∧VLe (V.tup [vi (↑ (q2U (q08 l) t):Int),V.bool (isZ (q08 l) t)]) (V.tup [vi (↑ (q2U l t):Int),V.bool (isZ l t)]):=by
  delta q08;delta vi;simp only[q0o];exact⟨⟨VLe.refl _,hpre⟩,VLe.refl _⟩
 exact Eq.mp (by kernel_rfl) key
theorem qJp:q0R Tryz.prog 184 qGP:=by
 refine sob 0 Tryz.func184 fun args bin ob r bout hDe hob=>?_;unfold qGP at hDe;split at hDe
 ·rename_i a0 a1;cases hDe;exact okB (x7O ((q0K q03) a0) a1 (hob.2)) xCh (args_of_vles ⟨hob.1,VLe.refl _,trivial⟩)
 ·cases hDe
def qJK (n:Int):Prop:=True
noncomputable def x3B (n:Int):V:=.bool (decide (inR n 0 9999))
noncomputable def qMH:q0P:=fun args bin=>match args,bin with
 |[.int .i64 a0],[]=>some (qJK a0,x3B a0,[])
 |_,_=>none
noncomputable def xEZ:=lkR [(120,q9i)]
theorem x7q:q0C Tryz.prog xEZ:=q02 qBu (q04)
noncomputable def x76 (n:Int):=cxN xEZ Tryz.f176 [0,2]
theorem x9H (n:Int) (hpre:qJK n):q0d (x76 n) Tryz.f176 0 [.int .i64 (n)] (fun rr=>VLe rr (x3B n)):=by
 have key:q64 n (0:Int) (9999:Int)∧VLe (V.bool (decide (inR n 0 9999))) (V.bool (decide (inR n 0 9999))):=by
  exact⟨trivial,VLe.refl _⟩
 exact Eq.mp (by kernel_rfl) key
theorem qSB:q0R Tryz.prog 176 qMH:=by
 refine sob 0 Tryz.func176 fun args bin ob r bout hDe hob=>?_;unfold qMH at hDe;split at hDe
 ·rename_i a0;cases hDe;exact okB (x9H a0 (hob)) x7q (args_of_vles ⟨VLe.refl _,trivial⟩)
 ·cases hDe
def qRA (n:Int):Prop:=True
noncomputable def x3v (n:Int):V:=.bool (decide (inR n 0 9))
noncomputable def qSg:q0P:=fun args bin=>match args,bin with
 |[.int .i64 a0],[]=>some (qRA a0,x3v a0,[])
 |_,_=>none
noncomputable def xFD:=lkR [(120,q9i)]
theorem x5z:q0C Tryz.prog xFD:=q02 qBu (q04)
noncomputable def x5Z (n:Int):=cxN xFD Tryz.f238 [0,2]
theorem x9M (n:Int) (hpre:qRA n):q0d (x5Z n) Tryz.f238 0 [.int .i64 (n)] (fun rr=>VLe rr (x3v n)):=by
 have key:q64 n (0:Int) (9:Int)∧VLe (V.bool (decide (inR n 0 9))) (V.bool (decide (inR n 0 9))):=by
  exact⟨trivial,VLe.refl _⟩
 exact Eq.mp (by kernel_rfl) key
theorem x0z:q0R Tryz.prog 238 qSg:=by
 refine sob 0 Tryz.func238 fun args bin ob r bout hDe hob=>?_;unfold qSg at hDe;split at hDe
 ·rename_i a0;cases hDe;exact okB (x9M a0 (hob)) x5z (args_of_vles ⟨VLe.refl _,trivial⟩)
 ·cases hDe
def qI7 (n:Int):Prop:=True
noncomputable def qZS (n:Int):V:=.bool (decide (inR n 0 9999))
noncomputable def qMv:q0P:=fun args bin=>match args,bin with
 |[.int .i64 a0],[]=>some (qI7 a0,qZS a0,[])
 |_,_=>none
noncomputable def xEx:=lkR [(151,qA8)]
theorem x5Y:q0C Tryz.prog xEx:=q02 qBp (q04)
noncomputable def xAe (n:Int):=cxN xEx Tryz.f192 [0,2]
theorem x5y (n:Int) (hpre:qI7 n):q0d (xAe n) Tryz.f192 0 [.int .i64 (n)] (fun rr=>VLe rr (qZS n)):=by
 have key:q62 n (0:Int) (9999:Int)∧VLe (V.bool (decide (inR n 0 9999))) (V.bool (decide (inR n 0 9999))):=by
  exact⟨trivial,VLe.refl _⟩
 exact Eq.mp (by kernel_rfl) key
theorem qTv:q0R Tryz.prog 192 qMv:=by
 refine sob 0 Tryz.func192 fun args bin ob r bout hDe hob=>?_;unfold qMv at hDe;split at hDe
 ·rename_i a0;cases hDe;exact okB (x5y a0 (hob)) x5Y (args_of_vles ⟨VLe.refl _,trivial⟩)
 ·cases hDe
def qMP (n:Int):Prop:=True
noncomputable def x0d (n:Int):V:=.bool (decide (inR n 0 9))
noncomputable def qTZ:q0P:=fun args bin=>match args,bin with
 |[.int .i64 a0],[]=>some (qMP a0,x0d a0,[])
 |_,_=>none
noncomputable def xD1:=lkR [(151,qA8)]
theorem x7V:q0C Tryz.prog xD1:=q02 qBp (q04)
noncomputable def x94 (n:Int):=cxN xD1 Tryz.f220 [0,2]
theorem x6B (n:Int) (hpre:qMP n):q0d (x94 n) Tryz.f220 0 [.int .i64 (n)] (fun rr=>VLe rr (x0d n)):=by
 have key:q62 n (0:Int) (9:Int)∧VLe (V.bool (decide (inR n 0 9))) (V.bool (decide (inR n 0 9))):=by
  exact⟨trivial,VLe.refl _⟩
 exact Eq.mp (by kernel_rfl) key
theorem qZh:q0R Tryz.prog 220 qTZ:=by
 refine sob 0 Tryz.func220 fun args bin ob r bout hDe hob=>?_;unfold qTZ at hDe;split at hDe
 ·rename_i a0;cases hDe;exact okB (x6B a0 (hob)) x7V (args_of_vles ⟨VLe.refl _,trivial⟩)
 ·cases hDe
def qQ9 (z:q0A):Prop:=True
noncomputable def x0W (z:q0A):V:=.int .i64 (q4y z)
noncomputable def qWm:q0P:=fun args bin=>match args,bin with
 |[a0],[]=>some (VLe a0 (q01 1 ((q03 a0)))∧qQ9 (q03 a0),x0W (q03 a0),[])
 |_,_=>none
noncomputable def xEt:=lkR [(175,qNN),(176,qMH),(120,q9i),(238,qSg)]
theorem x9b:q0C Tryz.prog xEt:=q02 qTr (q02 qSB (q02 qBu (q02 x0z (q04))))
noncomputable def x4s (z:q0A):=cxN xEt Tryz.f203 [0,1,2,3,8,31]
theorem xBD (z:q0A) (hpre:qQ9 z):q0d (x4s z) Tryz.f203 0 [q01 1 (z)] (fun rr=>VLe rr (x0W z)):=by
 have key:qJB z.path∧((q1I z.path !=0)=true→VLe (vi (q1I z.path)) (vi (q4y z)))∧((q1I z.path !=0)=false→qJK z.data∧tq (!!decide (inR z.data 0 9999))∧tq (!!decide (inR z.data 0 9999))∧((!!decide (inR z.data 0 9999))=true→q64 z.version (0:Int) (999:Int))∧tq (!!decide (inR z.data 0 9999))∧((true=true→(!decide (inR z.data 0 9999))=false→(!!decide (inR z.data 0 9999))=true)∧∀b:Bool,(b=bif !decide (inR z.data 0 9999)then true else !decide (inR z.version 0 999))→tq (!b)∧tq (!b)∧((!b)=true→qRA z.owner)∧tq (!b)∧((true=true→b=false→(!b)=true)∧∀b_1:Bool,(b_1=bif b then true else !decide (inR z.owner 0 9))→tq (!b_1)∧tq (!b_1)∧((!b_1)=true→q64 z.next (0:Int) (100:Int))∧tq (!b_1)∧((true=true→b_1=false→(!b_1)=true)∧∀b_2:Bool,(b_2=bif b_1 then true else !decide (inR z.next 0 100))→(b_2=true→VLe (vi 3) (vi (q4y z)))∧(b_2=false→VLe (vi 0) (vi (q4y z))))))):=by
  delta vi;refine⟨trivial,fun h=>q0I ?_,fun h=>?_⟩
  ·have h1:q1I z.path≠0:=by simpa using h
   unfold q4y;rw[if_pos h1]
  have h1:¬q1I z.path≠0:=by simpa using h
  refine⟨trivial,?_⟩
  repeat (first|(refine And.intro (fun h _=>h) ?_)|(refine And.intro (fun _ h=>h) ?_)|(refine And.intro ?aa ?_;case aa=>(exact(tqI _)))|(refine And.intro ?aa ?_;case aa=>(exact trivial))|(refine And.intro ?aa ?_;case aa=>(exact fun _=>trivial))|(refine And.intro ?aa ?_;case aa=>(intros;simp_all [qJB,qJK,q64,qRA];done))|(refine And.intro ?aa ?_;case aa=>(intros;exact q0X (by omega)))|(refine And.intro ?aa ?_;case aa=>(intros;simp only[decide_eq_true_eq]at *;omega))|(intro q hq))
  have e0:q=decide (¬(inR z.data 0 9999∧inR z.version 0 999∧inR z.owner 0 9∧inR z.next 0 100)):=by
   subst_vars
   rw[Bool.eq_iff_iff,decide_eq_true_eq];by_cases a1:inR z.data 0 9999<;>by_cases a2:inR z.version 0 999<;>by_cases a3:inR z.owner 0 9<;>by_cases a4:inR z.next 0 100<;>simp[a1,a2,a3,a4]
  clear hq;rw[e0];refine⟨fun h2=>q0I ?_,fun h2=>q0I ?_⟩
  ·unfold q4y;rw[if_neg h1,if_pos (of_decide_eq_true h2)]
  ·unfold q4y;rw[if_neg h1,if_neg (of_decide_eq_false h2)]
 exact Eq.mp (by kernel_rfl) key
theorem x4q:q0R Tryz.prog 203 qWm:=by
 refine sob 0 Tryz.func203 fun args bin ob r bout hDe hob=>?_;unfold qWm at hDe;split at hDe
 ·rename_i a0;cases hDe;exact okB (xBD (q03 a0) (hob.2)) x9b (args_of_vles ⟨hob.1,trivial⟩)
 ·cases hDe
def q9o (l:List q0A) (t:ByteArray):Prop:=l.length≤maxLen
noncomputable def x3K (l:List q0A) (t:ByteArray):V:=.int .i64 (atN l t)
noncomputable def qH4:q0P:=fun args bin=>match args,bin with
 |[a0,.str a1],[]=>some (VLe a0 (q0D (q01 1) 1 (((q0K q03) a0)))∧q9o ((q0K q03) a0) a1,x3K ((q0K q03) a0) a1,[])
 |_,_=>none
noncomputable def qVr (l:List q0A) (t:ByteArray):q0M:=
 ⟨Nat,fun i=>⟨[(0,q0D (q01 1) 1 l),(1,.str t),(5,.int .i64 i)],[]⟩,
  fun i=>i≤l.length∧∀j,j<i→q7r t (l.getD j default)=false,fun i=>l.length-i⟩
noncomputable def xAN (l:List q0A) (t:ByteArray):Nat→Option q0M:=fun rg_=>match rg_ with
 |2=>some (qVr l t)
 |_=>none
noncomputable def xD7:=lkR []
theorem x6X:q0C Tryz.prog xD7:=q04
noncomputable def x9D (l:List q0A) (t:ByteArray):=cxL xD7 Tryz.f199 [0,1,4,5,9,18] [(2,⟨[(0,none),(1,none),(5,none)],[]⟩)] (xAN l t) []
theorem x8y (l:List q0A) (t:ByteArray) (hpre:q9o l t):q0d (x9D l t) Tryz.f199 0 [q0D (q01 1) 1 (l),.str (t)] (fun rr=>VLe rr (x3K l t)):=by
 have key:((∃x:Nat,SLe (AS.mk [(0,q0D (q01 1) 1 l),(1,V.str t),(5,vi 0)] []) (AS.mk [(0,q0D (q01 1) 1 l),(1,V.str t),(5,vi (↑x:Int))] [])∧(x≤l.length∧∀j:Nat,j<x→q7r t (l.getD j default)=false))∧∀x:Nat,(x≤l.length∧∀j:Nat,j<x→q7r t (l.getD j default)=false)→(decide ((↑x:Int)<(↑ l.length:Int))=true→(0≤(↑x:Int)∧(↑x:Int)<(↑ l.length:Int))∧(q1t (l.getD (↑x:Int).toNat default).path t=true→VLe (vi (↑x:Int)) (vi (atN l t)))∧(q1t (l.getD (↑x:Int).toNat default).path t=false→(inK IntKind.i64 ((↑x:Int)+1)∧∃y:Nat,SLe (AS.mk [(0,q0D (q01 1) 1 l),(1,V.str t),(5,vi ((↑x:Int)+1))] []) (AS.mk [(0,q0D (q01 1) 1 l),(1,V.str t),(5,vi (↑y:Int))] [])∧(y≤l.length∧∀j:Nat,j<y→q7r t (l.getD j default)=false)∧l.length-y<l.length-x)))∧(decide ((↑x:Int)<(↑ l.length:Int))=false→VLe (vi (-1)) (vi (atN l t)))):=by
  delta vi;have hl:l.length≤maxLen:=hpre;unfold maxLen at hl;refine⟨⟨0,SLe.refl _,by omega,fun j hj=>absurd hj (Nat.not_lt_zero j)⟩,?_⟩;rintro i ⟨hi,hj⟩;refine⟨fun h=>?_,fun h=>?_⟩
  ·have hlt:i<l.length:=by simpa using h
   rw[Int.toNat_natCast,q1W];refine⟨⟨by omega,by omega⟩,fun h2=>q0I (q3i hlt hj h2).symm,fun h2=>⟨q0X (by omega),i+1,SLe.refl _,⟨by omega,fun j h3=>?_⟩,by omega⟩⟩;rcases Nat.lt_or_ge j i with h4|h4
   ·exact hj j h4
   ·have:j=i:=by omega
    subst this;exact h2
  ·have hge:i=l.length:=by simp at h;omega
   exact q0I (q4b fun j h3=>hj j (by omega)).symm
 exact Eq.mp (by kernel_rfl) key
theorem qNT:q0R Tryz.prog 199 qH4:=by
 refine sob 0 Tryz.func199 fun args bin ob r bout hDe hob=>?_;unfold qH4 at hDe;split at hDe
 ·rename_i a0 a1;cases hDe;exact okB (x8y ((q0K q03) a0) a1 (hob.2)) x6X (args_of_vles ⟨hob.1,VLe.refl _,trivial⟩)
 ·cases hDe
theorem x1S {xs:List q0A} {k:Nat} (h:k<xs.tail.length):q32 (gL (q01 1) xs) 1 k=q01 1 xs.tail[k]:=by
 have h3:k+1<xs.length:=by rw[List.length_tail]at h;omega
 simp[q32,gL,h3,List.getElem_tail,Nat.add_comm]
def qRi (l:List q0A):Prop:=l.length≤maxLen
noncomputable def x0k (l:List q0A):V:=.int .i64 (q1A l)
noncomputable def qTl:q0P:=fun args bin=>match args,bin with
 |[a0],[]=>some (VLe a0 (q0D (q01 1) 1 (((q0K q03) a0)))∧qRi ((q0K q03) a0),x0k ((q0K q03) a0),[])
 |_,_=>none
noncomputable def qXk (l:List q0A):q0M:=
 ⟨Nat,fun i=>⟨[(0,q0D (q01 1) 1 l),(18,q0D (q01 1) 1 l),(19,.int .i64 l.length),(20,.int .i64 i)],[]⟩,
  fun i=>i≤l.length∧q1s (q4g l) i=0,fun i=>l.length-i⟩
noncomputable def qU8 (l:List q0A):q0M:=
 ⟨Nat,fun i=>⟨[(0,q0D (q01 1) 1 l),(8,.bool (q6u l i)),(57,q0D (q01 1) 1 l.tail),(58,.int .i64 l.tail.length),(59,.int .i64 i)],[]⟩,
  fun i=>i≤l.tail.length∧∀j,j<i→isZ l (upF (l.tail.getD j default).path)=true,fun i=>l.tail.length-i⟩
noncomputable def x52 (l:List q0A):Nat→Option q0M:=fun rg_=>match rg_ with
 |4=>some (qXk l)
 |17=>some (qU8 l)
 |_=>none
noncomputable def xEh:=lkR [(203,qWm),(184,qGP),(204,qPU)]
theorem xBa:q0C Tryz.prog xEh:=q02 x4q (q02 qJp (q02 qVc (q04)))
noncomputable def xB6 (l:List q0A):=cxL xEh Tryz.f117 [0,2,3,4,5,7,8,10,11,13,14,17,18,19,20,21,28,42,50,57,58,59,60,76,87] [(4,⟨[(0,none),(18,none),(19,none),(20,none)],[]⟩),(17,⟨[(0,none),(8,none),(57,none),(58,none),(59,none)],[]⟩)] (x52 l) []
noncomputable def qBa (l:List q0A) (x_1:Nat):ByteArray:=((List.tail l).getD (↑x_1:Int).toNat default).path
noncomputable def qDp (l:List q0A) (x:Nat):V:=q01 1 (l.getD (↑x:Int).toNat default)
noncomputable def q1x (x:Nat):Bool:=decide ((↑x:Int)>0)
noncomputable def q2e (l:List q0A):Nat×V:=(0,q0D (q01 1) 1 l)
def qRm (l:List q0A) (x_1:Nat):Prop:=(x_1≤(List.tail l).length∧∀j:Nat,j<x_1→isZ l (upF ((List.tail l).getD j default).path)=true)
def q4W (x:Nat):Prop:=decide ((↑x:Int)>0)=true
noncomputable def qCG (l:List q0A):Nat:=(List.tail l).length
theorem x5R (l:List q0A) (hpre:qRi l):q0d (xB6 l) Tryz.f117 0 [q0D (q01 1) 1 (l)] (fun rr=>VLe rr (x0k l)):=by
 have key:(decide ((q0G l)>20)=true→VLe (vi 2) (vi (q1A l)))∧(decide ((q0G l)>20)=false→((∃x:Nat,SLe (AS.mk [(q2e l),(18,q0D (q01 1) 1 l),(19,vi (q0G l)),(20,vi 0)] []) (AS.mk [(q2e l),(18,q0D (q01 1) 1 l),(19,vi (q0G l)),(20,vi (↑x:Int))] [])∧x≤l.length∧q1s (q4g l) x=(0:Int))∧∀x:Nat,x≤l.length∧q1s (q4g l) x=(0:Int)→(decide ((↑x:Int)<(q0G l))=true→(0≤(↑x:Int)∧(↑x:Int)<(q0G l))∧(VLe (qDp l x) (q01 1 (q03 (qDp l x)))∧qQ9 (q03 (qDp l x)))∧((q4y (q03 (qDp l x))!=0)=true→VLe (vi (q4y (q03 (qDp l x)))) (vi (q1A l)))∧((q4y (q03 (qDp l x))!=0)=false→tq (q1x x)∧tq (q1x x)∧(q4W x→inK IntKind.i64 ((↑x:Int)-1))∧tq (q1x x)∧tq (q1x x)∧(q4W x→0≤(↑x:Int)-1∧(↑x:Int)-1<(q0G l))∧tq (q1x x)∧tq (q1x x)∧tq (q1x x)∧tq (q1x x)∧((true=true→q4W x→q4W x)∧∀b:Bool,(b=bif decide ((↑x:Int)>0)then qFa (l.getD (↑x:Int).toNat default).path (l.getD ((↑x:Int)-1).toNat default).path||q1t (l.getD (↑x:Int).toNat default).path (l.getD ((↑x:Int)-1).toNat default).path else false)→(b=true→VLe (vi 1) (vi (q1A l)))∧(b=false→(inK IntKind.i64 ((↑x:Int)+1)∧∃y:Nat,SLe (AS.mk [(q2e l),(18,q0D (q01 1) 1 l),(19,vi (q0G l)),(20,vi ((↑x:Int)+1))] []) (AS.mk [(q2e l),(18,q0D (q01 1) 1 l),(19,vi (q0G l)),(20,vi (↑y:Int))] [])∧(y≤l.length∧q1s (q4g l) y=(0:Int))∧l.length-y<l.length-x)))))∧(decide ((↑x:Int)<(q0G l))=false→(VLe (q0D (q01 1) 1 l) (q0D (q01 1) 1 (q08 l))∧q9j (q08 l) (ByteArray.mk #[(47:UInt8)]))∧((!isZ (q08 l) (ByteArray.mk #[(47:UInt8)]))=true→VLe (vi 4) (vi (q1A l)))∧((!isZ (q08 l) (ByteArray.mk #[(47:UInt8)]))=false→((0:Int)≤(0:Int)∧0<(q0G l))∧((0:Int)≤Option.getD (some (1:Int)) (0:Int)∧Option.getD (some (1:Int)) (0:Int)≤Option.getD none (q0G l)∧Option.getD none (q0G l)≤(q0G l))∧q13 5 l.length (gL (q01 1) l)∧((∃x_1:Nat,SLe (AS.mk [(q2e l),(8,V.bool ((l.getD 0 default).owner !=0)),(57,V.sl ((Option.getD none (q0G l)).toNat-1) (match(motive:=Option Int→Nat→V) some (1:Int)with|none=>gL (q01 1) l|some val=>q32 (gL (q01 1) l) 1) 1),(58,vi (↑ ((Option.getD none (q0G l)).toNat-1):Int)),(59,vi 0)] []) (AS.mk [(q2e l),(8,V.bool (q6u l x_1)),(57,q0D (q01 1) 1 (List.tail l)),(58,vi (↑ (qCG l):Int)),(59,vi (↑x_1:Int))] [])∧qRm l x_1)∧∀x_1:Nat,qRm l x_1→(decide ((↑x_1:Int)<(↑ (qCG l):Int))=true→(0≤(↑x_1:Int)∧(↑x_1:Int)<(↑ (qCG l):Int))∧qJI (qBa l x_1)∧(VLe (q0D (q01 1) 1 l) (q0D (q01 1) 1 (q08 l))∧q9j (q08 l) (upF (qBa l x_1)))∧((!isZ (q08 l) (upF (qBa l x_1)))=true→VLe (vi 4) (vi (q1A l)))∧((!isZ (q08 l) (upF (qBa l x_1)))=false→tq (!q6u l x_1)∧tq (!q6u l x_1)∧((!q6u l x_1)=true→0≤(↑ (q2U (q08 l) (upF (qBa l x_1))):Int)∧(↑ (q2U (q08 l) (upF (qBa l x_1))):Int)<(q0G l))∧tq (!q6u l x_1)∧tq (!q6u l x_1)∧tq (!q6u l x_1)∧((true=true→q6u l x_1=false→(!q6u l x_1)=true)∧∀b:Bool,(b=bif q6u l x_1 then true else(l.getD (↑ (q2U (q08 l) (upF (qBa l x_1))):Int).toNat default).owner !=0)→(inK IntKind.i64 ((↑x_1:Int)+1)∧∃y:Nat,SLe (AS.mk [(q2e l),(8,V.bool b),(57,q0D (q01 1) 1 (List.tail l)),(58,vi (↑ (qCG l):Int)),(59,vi ((↑x_1:Int)+1))] []) (AS.mk [(q2e l),(8,V.bool (q6u l y)),(57,q0D (q01 1) 1 (List.tail l)),(58,vi (↑ (qCG l):Int)),(59,vi (↑y:Int))] [])∧(y≤(List.tail l).length∧∀j:Nat,j<y→isZ l (upF ((List.tail l).getD j default).path)=true)∧(List.tail l).length-y<(List.tail l).length-x_1))))∧(decide ((↑x_1:Int)<(↑ (qCG l):Int))=false→(q6u l x_1=true→VLe (vi 1) (vi (q1A l)))∧(q6u l x_1=false→VLe (vi 0) (vi (q1A l))))))))):=by
  delta qCG;delta q4W;delta qRm;delta q2e;delta q1x;delta qDp;delta q0G;delta q08;delta qBa;delta vi;have hl:l.length≤maxLen:=hpre;unfold maxLen at hl;simp only[q1R,q0o,qCm,q1W];refine⟨fun h=>?_,fun h=>?_⟩
  ·have h1:20<l.length:=by have:=of_decide_eq_true h;omega
   exact q0I (by unfold q1A;rw[if_pos h1])
  have h1:¬20<l.length:=by have:=of_decide_eq_false h;omega
  have e1:q1A l=if q1s (q4g l) l.length≠0 then q1s (q4g l) l.length else if atN l top<0 then 4 else if qRI l then 4 else if qBm l then 1 else 0:=if_neg h1
  refine⟨⟨0,SLe.refl _,by omega,rfl⟩,?_⟩;rintro i ⟨hi,hz⟩;refine⟨fun h2=>?_,fun h2=>?_⟩
  ·have hlt:i<l.length:=by have:=of_decide_eq_true h2;omega
   simp only[Int.toNat_natCast];have stop:∀c,c=q4g l i→c≠0→VLe (.int .i64 c) (.int .i64 (q1A l)):=fun c hc h0=>q0I (by
    have:=q5T hz (by rw[←hc];exact h0) _ hlt;rw[e1,if_pos (by rw[this,←hc];exact h0),this,hc])
   refine⟨⟨by omega,by omega⟩,⟨VLe.refl _,trivial⟩,fun h3=>?_,fun h3=>?_⟩
   ·have h4:q4y (l.getD i default)≠0:=by simpa using h3
    exact stop _ (by unfold q4g;rw[if_pos h4]) h4
   have h4:¬q4y (l.getD i default)≠0:=by simpa using h3
   have e2:q4g l i=if 0<i∧¬lt (atZ l (i-1)).path (atZ l i).path then 1 else 0:=if_neg h4
   repeat (first|(refine And.intro (fun h _=>h) ?_)|(refine And.intro (fun _ h=>h) ?_)|(refine And.intro ?aa ?_;case aa=>(exact(tqI _)))|(refine And.intro ?aa ?_;case aa=>(exact(fun h=>q0X (by omega))))|(refine And.intro ?aa ?_;case aa=>(exact(fun h=>⟨by have:=of_decide_eq_true h;omega,by omega⟩)))|(refine And.intro ?aa ?_;case aa=>(intros;simp_all [qQ9,q9j,qJI];done))|(refine And.intro ?aa ?_;case aa=>(intros;exact q0X (by omega)))|(refine And.intro ?aa ?_;case aa=>(intros;simp only[decide_eq_true_eq]at *;omega))|(intro q hq))
   have e3:q=decide (0<i∧¬lt (atZ l (i-1)).path (atZ l i).path):=by
    rw[hq,Bool.eq_iff_iff,decide_eq_true_eq];by_cases a1:0<i
    ·have n1:((i:Int)-1).toNat=i-1:=by omega
     have a2:decide ((i:Int)>0)=true:=decide_eq_true (by omega);rw[a2,n1];simp only[cond_true,Bool.or_eq_true,decide_eq_true_eq,a1,true_and];refine⟨fun g=>g.elim qLQ (fun g=>by
      show¬lt _ (l.getD i default).path;rw[g];exact lt_irrefl _),fun g=>Classical.byContradiction fun k=>?_⟩
     exact k (Or.inr (qFI (fun g2=>k (Or.inl g2)) g))
    ·have a2:decide ((i:Int)>0)=false:=decide_eq_false (by omega);rw[a2];simp[a1]
   refine⟨fun h5=>?_,fun h5=>?_⟩
   ·rw[e3]at h5;exact stop _ (by rw[e2,if_pos (of_decide_eq_true h5)]) (by decide)
   ·rw[e3]at h5;exact⟨q0X (by omega),i+1,SLe.refl _,⟨by omega,q4F hz (by rw[e2,if_neg (of_decide_eq_false h5)])⟩,by omega⟩
  ·have hge:i=l.length:=by have:=of_decide_eq_false h2;omega
   rw[hge]at hz;have hr:=q46 hz;have e2:q1A l=if atN l top<0 then 4 else if qRI l then 4 else if qBm l then 1 else 0:=by rw[e1,if_neg (not_not_intro hz)]
   refine⟨⟨VLe.refl _,hr,by omega⟩,fun h3=>?_,fun h3=>?_⟩
   ·have:isZ l top=false:=by simpa using h3
    exact q0I (by rw[e2,if_pos ((q57 hr _).2 this)])
   have ht:isZ l top=true:=by simpa using h3
   obtain⟨f1,f2⟩:=qDX hz ht;have e3:q1A l=if qRI l then 4 else if qBm l then 1 else 0:=by
    rw[e2,if_neg];intro g;rw[(q57 hr _).1 g]at ht;cases ht
   have hlt0:l.tail.length=l.length-1:=List.length_tail;refine⟨⟨by omega,by omega⟩,⟨by simp,by simp;omega,by simp⟩,fun k hk=>⟨rfl,rfl⟩,⟨0,?_,by omega,fun j hj=>by omega⟩,?_⟩
   ·exact q1Q ⟨rfl,VLe.refl _,rfl,VLe.refl _,rfl,q4i (by simp) (fun k hk=>x1S hk) (Or.inl rfl),rfl,q0I (by simp),rfl,VLe.refl _,trivial⟩ trivial
   rintro i ⟨hi,hj⟩;refine⟨fun h5=>?_,fun h5=>?_⟩
   ·have hlt:i<l.tail.length:=by have:=of_decide_eq_true h5;omega
    simp only[Int.toNat_natCast];have hn:q4y (l.tail.getD i default)=0:=by
     rw[q8M];exact q88 hz (by omega)
    have hp:=q8S hn;refine⟨⟨by omega,by omega⟩,⟨by have:=q8C hp;omega,q4n hp⟩,⟨VLe.refl _,hr,by omega⟩,fun h6=>?_,fun h6=>?_⟩
    ·have h7:isZ l (upF (l.tail.getD i default).path)=false:=by
      cases hc:isZ l (upF (l.tail.getD i default).path)with
      |false=>rfl
      |true=>rw[hc]at h6;cases h6
     exact q0I (by rw[e3,if_pos ((qKG hz ht).2 ⟨i,hlt,h7⟩)])
    have h7:isZ l (upF (l.tail.getD i default).path)=true:=by
     cases hc:isZ l (upF (l.tail.getD i default).path)with
     |true=>rfl
     |false=>rw[hc]at h6;cases h6
    have h8:=(q6J hr h7).2.1
    repeat (first|(refine And.intro (fun h _=>h) ?_)|(refine And.intro (fun _ h=>h) ?_)|(refine And.intro ?aa ?_;case aa=>(exact(tqI _)))|(refine And.intro ?aa ?_;case aa=>(exact(fun _=>⟨by omega,by omega⟩)))|(refine And.intro ?aa ?_;case aa=>(intros;simp_all [qQ9,q9j,qJI];done))|(refine And.intro ?aa ?_;case aa=>(intros;exact q0X (by omega)))|(refine And.intro ?aa ?_;case aa=>(intros;simp only[decide_eq_true_eq]at *;omega))|(intro q hq))
    refine⟨i+1,?_,⟨by omega,fun j h9=>?_⟩,by omega⟩
    ·rw[hq];exact SLe.refl _
    ·by_cases e:j=i
     ·rw[e];exact h7
     ·exact hj j (by omega)
   ·have hge:i=l.tail.length:=by have:=of_decide_eq_false h5;omega
    subst hge;have hb:=qR6 hz ht hj;have e4:q1A l=if qBm l then 1 else 0:=by
     rw[e3,if_neg];intro g;obtain⟨j,h,k⟩:=(qKG hz ht).1 g;rw[hj j h]at k;cases k
    refine⟨fun h=>q0I (by rw[e4,if_pos (hb.2 h)]),fun h=>q0I ?_⟩;rw[e4,if_neg];intro g;rw[hb.1 g]at h;cases h
 exact Eq.mp (by kernel_rfl) key
theorem qZI:q0R Tryz.prog 117 qTl:=by
 refine sob 0 Tryz.func117 fun args bin ob r bout hDe hob=>?_;unfold qTl at hDe;split at hDe
 ·rename_i a0;cases hDe;exact okB (x5R ((q0K q03) a0) (hob.2)) xBa (args_of_vles ⟨hob.1,trivial⟩)
 ·cases hDe
def qTS (l:List q0A):Prop:=l.length≤maxLen
noncomputable def x2F (l:List q0A):V:=.int .i64 (q1A l)
noncomputable def qWb:q0P:=fun args bin=>match args,bin with
 |[a0],[]=>some (VLe a0 (q0D (q01 1) 1 (((q0K q03) a0)))∧qTS ((q0K q03) a0),x2F ((q0K q03) a0),[])
 |_,_=>none
noncomputable def qXH (l:List q0A):q0M:=
 ⟨Nat,fun i=>⟨[(0,q0D (q01 1) 1 l),(3,.int .i64 i)],[]⟩,
  fun i=>i≤l.length∧q1s (q4g l) i=0,fun i=>l.length-i⟩
noncomputable def qUD (l:List q0A):q0M:=
 ⟨Nat,fun i=>⟨[(0,q0D (q01 1) 1 l),(6,.int .i64 i)],[]⟩,
  fun i=>i≤l.length∧∀j,j<i→¬atN l (upF (atZ l j).path)<0,fun i=>l.length-i⟩
noncomputable def qSO (l:List q0A):q0M:=
 ⟨Nat,fun i=>⟨[(0,q0D (q01 1) 1 l),(7,.int .i64 i)],[]⟩,
  fun i=>i≤l.length∧∀j,j<i→(atZ l (atN l (upF (atZ l j).path)).toNat).owner=0,fun i=>l.length-i⟩
noncomputable def x5H (l:List q0A):Nat→Option q0M:=fun rg_=>match rg_ with
 |4=>some (qXH l)
 |17=>some (qUD l)
 |22=>some (qSO l)
 |_=>none
noncomputable def xDX:=lkR [(191,qRR),(192,qMv),(151,qA8),(220,qTZ),(199,qH4),(221,qPZ)]
theorem xA5:q0C Tryz.prog xDX:=q02 qYW (q02 qTv (q02 qBp (q02 qZh (q02 qNT (q02 qYH (q04))))))
noncomputable def xBP (l:List q0A):=cxL xDX Tryz.f149 [0,2,3,4,5,6,7,10,14,26,57,72,75,79,90,94,109] [(4,⟨[(0,none),(3,none)],[]⟩),(17,⟨[(0,none),(6,none)],[]⟩),(22,⟨[(0,none),(7,none)],[]⟩)] (x5H l) []
noncomputable def q26 (x:Nat):Nat:=(↑x:Int).toNat
noncomputable def q8B (l:List q0A) (x:Nat):Int:=(l.getD (q26 x) default).data
noncomputable def qCs (l:List q0A) (x:Nat):ByteArray:=(l.getD (q26 x) default).path
noncomputable def qCv (l:List q0A) (x_2:Nat):ByteArray:=(l.getD (↑x_2:Int).toNat default).path
def qM8 (l:List q0A) (j:Nat):Prop:=(atZ l (atN l (upF (atZ l j).path)).toNat).owner=(0:Int)
noncomputable def qH9 (l:List q0A) (x_1:Nat):ByteArray:=(l.getD (↑x_1:Int).toNat default).path
def q2N (l:List q0A):Prop:=VLe (q0D (q01 1) 1 l) (q0D (q01 1) 1 (q08 l))
def qJT (l:List q0A) (x_1:Nat):Prop:=(x_1≤l.length∧∀j:Nat,j<x_1→(¬atN l (upF (atZ l j).path)<(0:Int)))
theorem x5D (l:List q0A) (hpre:qTS l):q0d (xBP l) Tryz.f149 0 [q0D (q01 1) 1 (l)] (fun rr=>VLe rr (x2F l)):=by
 have key:(decide ((q0G l)>20)=true→VLe (vi 2) (vi (q1A l)))∧(decide ((q0G l)>20)=false→((∃x:Nat,SLe (AS.mk [(q2e l),(3,vi 0)] []) (AS.mk [(q2e l),(3,vi (↑x:Int))] [])∧x≤l.length∧q1s (q4g l) x=(0:Int))∧∀x:Nat,x≤l.length∧q1s (q4g l) x=(0:Int)→(decide ((↑x:Int)<(q0G l))=true→(0≤(↑x:Int)∧(↑x:Int)<(q0G l))∧qJC (qCs l x)∧((q1I (qCs l x)!=0)=true→VLe (vi (q1I (qCs l x))) (vi (q1A l)))∧((q1I (qCs l x)!=0)=false→qI7 (q8B l x)∧tq (!!decide (inR (q8B l x) (0:Int) (9999:Int)))∧tq (!!decide (inR (q8B l x) (0:Int) (9999:Int)))∧tq (!!decide (inR (q8B l x) (0:Int) (9999:Int)))∧tq (!!decide (inR (q8B l x) (0:Int) (9999:Int)))∧((!!decide (inR (q8B l x) (0:Int) (9999:Int)))=true→q62 (l.getD (q26 x) default).version (0:Int) (999:Int))∧tq (!!decide (inR (q8B l x) (0:Int) (9999:Int)))∧((true=true→(!decide (inR (q8B l x) (0:Int) (9999:Int)))=false→(!!decide (inR (q8B l x) (0:Int) (9999:Int)))=true)∧∀b:Bool,(b=bif !decide (inR (q8B l x) (0:Int) (9999:Int))then true else !decide (inR (l.getD (q26 x) default).version (0:Int) (999:Int)))→tq (!b)∧tq (!b)∧tq (!b)∧tq (!b)∧((!b)=true→qMP (l.getD (q26 x) default).owner)∧tq (!b)∧((true=true→b=false→(!b)=true)∧∀b_1:Bool,(b_1=bif b then true else !decide (inR (l.getD (q26 x) default).owner (0:Int) (9:Int)))→tq (!b_1)∧tq (!b_1)∧tq (!b_1)∧tq (!b_1)∧((!b_1)=true→q62 (l.getD (q26 x) default).next (0:Int) (100:Int))∧tq (!b_1)∧((true=true→b_1=false→(!b_1)=true)∧∀b_2:Bool,(b_2=bif b_1 then true else !decide (inR (l.getD (q26 x) default).next (0:Int) (100:Int)))→(b_2=true→VLe (vi 3) (vi (q1A l)))∧(b_2=false→tq (q1x x)∧tq (q1x x)∧tq (q1x x)∧tq (q1x x)∧(q4W x→inK IntKind.i64 ((↑x:Int)-1))∧tq (q1x x)∧tq (q1x x)∧(q4W x→0≤(↑x:Int)-1∧(↑x:Int)-1<(q0G l))∧tq (q1x x)∧tq (q1x x)∧tq (q1x x)∧tq (q1x x)∧((true=true→q4W x→q4W x)∧∀b_3:Bool,(b_3=bif decide ((↑x:Int)>0)then qFa (qCs l x) (l.getD ((↑x:Int)-1).toNat default).path||q1t (qCs l x) (l.getD ((↑x:Int)-1).toNat default).path else false)→(b_3=true→VLe (vi 1) (vi (q1A l)))∧(b_3=false→(inK IntKind.i64 ((↑x:Int)+1)∧∃y:Nat,SLe (AS.mk [(q2e l),(3,vi ((↑x:Int)+1))] []) (AS.mk [(q2e l),(3,vi (↑y:Int))] [])∧(y≤l.length∧q1s (q4g l) y=(0:Int))∧l.length-y<l.length-x)))))))))∧(decide ((↑x:Int)<(q0G l))=false→(q2N l∧q9o (q08 l) (ByteArray.mk #[(47:UInt8)]))∧(decide (atN (q08 l) (ByteArray.mk #[(47:UInt8)])<(0:Int))=true→VLe (vi 4) (vi (q1A l)))∧(decide (atN (q08 l) (ByteArray.mk #[(47:UInt8)])<(0:Int))=false→((∃x_1:Nat,SLe (AS.mk [(q2e l),(6,vi 0)] []) (AS.mk [(q2e l),(6,vi (↑x_1:Int))] [])∧qJT l x_1)∧∀x_1:Nat,qJT l x_1→(decide ((↑x_1:Int)<(q0G l))=true→(0≤(↑x_1:Int)∧(↑x_1:Int)<(q0G l))∧qG6 (qH9 l x_1)∧(q2N l∧q9o (q08 l) (upF (qH9 l x_1)))∧(decide (atN (q08 l) (upF (qH9 l x_1))<(0:Int))=true→VLe (vi 4) (vi (q1A l)))∧(decide (atN (q08 l) (upF (qH9 l x_1))<(0:Int))=false→(inK IntKind.i64 ((↑x_1:Int)+1)∧∃y:Nat,SLe (AS.mk [(q2e l),(6,vi ((↑x_1:Int)+1))] []) (AS.mk [(q2e l),(6,vi (↑y:Int))] [])∧(y≤l.length∧∀j:Nat,j<y→(¬atN l (upF (atZ l j).path)<(0:Int)))∧l.length-y<l.length-x_1)))∧(decide ((↑x_1:Int)<(q0G l))=false→((∃x_2:Nat,SLe (AS.mk [(q2e l),(7,vi 0)] []) (AS.mk [(q2e l),(7,vi (↑x_2:Int))] [])∧(x_2≤l.length∧∀j:Nat,j<x_2→qM8 l j))∧∀x_2:Nat,(x_2≤l.length∧∀j:Nat,j<x_2→qM8 l j)→(decide ((↑x_2:Int)<(q0G l))=true→(0≤(↑x_2:Int)∧(↑x_2:Int)<(q0G l))∧qG6 (qCv l x_2)∧(q2N l∧q9o (q08 l) (upF (qCv l x_2)))∧((0:Int)≤atN (q08 l) (upF (qCv l x_2))∧atN (q08 l) (upF (qCv l x_2))<(q0G l))∧(((l.getD (atN (q08 l) (upF (qCv l x_2))).toNat default).owner !=0)=true→VLe (vi 1) (vi (q1A l)))∧(((l.getD (atN (q08 l) (upF (qCv l x_2))).toNat default).owner !=0)=false→(inK IntKind.i64 ((↑x_2:Int)+1)∧∃y:Nat,SLe (AS.mk [(q2e l),(7,vi ((↑x_2:Int)+1))] []) (AS.mk [(q2e l),(7,vi (↑y:Int))] [])∧(y≤l.length∧∀j:Nat,j<y→qM8 l j)∧l.length-y<l.length-x_2)))∧(decide ((↑x_2:Int)<(q0G l))=false→VLe (vi 0) (vi (q1A l)))))))))):=by
  delta qJT;delta q2N;delta q4W;delta qH9;delta qM8;delta q2e;delta qCv;delta q0G;delta qCs;delta q1x;delta q08;delta q8B;delta q26;delta vi;have hl:l.length≤maxLen:=hpre;unfold maxLen at hl;simp only[q1R,q0o,qCm,q1W];refine⟨fun h=>?_,fun h=>?_⟩
  ·have h1:20<l.length:=by have:=of_decide_eq_true h;omega
   exact q0I (by unfold q1A;rw[if_pos h1])
  have h1:¬20<l.length:=by have:=of_decide_eq_false h;omega
  have e1:q1A l=if q1s (q4g l) l.length≠0 then q1s (q4g l) l.length else if atN l top<0 then 4 else if qRI l then 4 else if qBm l then 1 else 0:=if_neg h1
  refine⟨⟨0,SLe.refl _,by omega,rfl⟩,?_⟩;rintro i ⟨hi,hz⟩;refine⟨fun h2=>?_,fun h2=>?_⟩
  ·have hlt:i<l.length:=by have:=of_decide_eq_true h2;omega
   simp only[Int.toNat_natCast];have stop:∀c,c=q4g l i→c≠0→VLe (.int .i64 c) (.int .i64 (q1A l)):=fun c hc h0=>q0I (by
    have:=q5T hz (by rw[←hc];exact h0) _ hlt;rw[e1,if_pos (by rw[this,←hc];exact h0),this,hc])
   refine⟨⟨by omega,by omega⟩,trivial,fun h3=>?_,fun h3=>?_⟩
   ·have h4:q1I (l.getD i default).path≠0:=by simpa using h3
    have h5:q4y (l.getD i default)=q1I (l.getD i default).path:=if_pos h4;exact stop _ (by unfold q4g;rw[if_pos (by rw[h5];exact h4),h5]) h4
   have h4:¬q1I (l.getD i default).path≠0:=by simpa using h3
   have n0:q4y (l.getD i default)=if¬(inR (l.getD i default).data 0 9999∧inR (l.getD i default).version 0 999∧inR (l.getD i default).owner 0 9∧inR (l.getD i default).next 0 100)then 3 else 0:=if_neg h4
   refine⟨trivial,?_⟩
   repeat (first|(refine And.intro (fun h _=>h) ?_)|(refine And.intro (fun _ h=>h) ?_)|(refine And.intro ?aa ?_;case aa=>(exact(tqI _)))|(refine And.intro ?aa ?_;case aa=>(exact trivial))|(refine And.intro ?aa ?_;case aa=>(exact fun _=>trivial))|(refine And.intro ?aa ?_;case aa=>(intros;simp_all [qJC,qI7,q62,qMP,q9o,qG6];done))|(refine And.intro ?aa ?_;case aa=>(intros;exact q0X (by omega)))|(refine And.intro ?aa ?_;case aa=>(intros;simp only[decide_eq_true_eq]at *;omega))|(intro q hq))
   have e0:q=decide (¬(inR (l.getD i default).data 0 9999∧inR (l.getD i default).version 0 999∧inR (l.getD i default).owner 0 9∧inR (l.getD i default).next 0 100)):=by
    rw[hq];simp only[*];rw[Bool.eq_iff_iff,decide_eq_true_eq];by_cases a1:inR (l.getD i default).data 0 9999<;>by_cases a2:inR (l.getD i default).version 0 999<;>by_cases a3:inR (l.getD i default).owner 0 9<;>by_cases a4:inR (l.getD i default).next 0 100<;>simp only[a1,a2,a3,a4,decide_true,decide_false,Bool.not_true,Bool.not_false,cond_true,cond_false,and_true,true_and,and_false,false_and,not_true_eq_false,not_false_eq_true,Bool.false_eq_true]
   clear hq;rw[e0];refine⟨fun h5=>?_,fun h5=>?_⟩
   ·have h6:q4y (l.getD i default)=3:=by rw[n0,if_pos (of_decide_eq_true h5)]
    exact stop _ (by unfold q4g;rw[if_pos (by rw[h6];decide),h6]) (by decide)
   have h6:q4y (l.getD i default)=0:=by rw[n0,if_neg (of_decide_eq_false h5)]
   have e2:q4g l i=if 0<i∧¬lt (atZ l (i-1)).path (atZ l i).path then 1 else 0:=if_neg (not_not_intro h6)
   clear e0
   repeat (first|(refine And.intro (fun h _=>h) ?_)|(refine And.intro (fun _ h=>h) ?_)|(refine And.intro ?aa ?_;case aa=>(exact(tqI _)))|(refine And.intro ?aa ?_;case aa=>(exact(fun h=>q0X (by omega))))|(refine And.intro ?aa ?_;case aa=>(exact(fun h=>⟨by have:=of_decide_eq_true h;omega,by omega⟩)))|(refine And.intro ?aa ?_;case aa=>(intros;simp_all [qJC,qI7,q62,qMP,q9o,qG6];done))|(refine And.intro ?aa ?_;case aa=>(intros;exact q0X (by omega)))|(refine And.intro ?aa ?_;case aa=>(intros;simp only[decide_eq_true_eq]at *;omega))|(intro q hq))
   have e3:q=decide (0<i∧¬lt (atZ l (i-1)).path (atZ l i).path):=by
    rw[hq,Bool.eq_iff_iff,decide_eq_true_eq];by_cases a1:0<i
    ·have n1:((i:Int)-1).toNat=i-1:=by omega
     have a2:decide ((i:Int)>0)=true:=decide_eq_true (by omega);rw[a2,n1];simp only[cond_true,Bool.or_eq_true,decide_eq_true_eq,a1,true_and];refine⟨fun g=>g.elim qLQ (fun g=>by
      show¬lt _ (l.getD i default).path;rw[g];exact lt_irrefl _),fun g=>Classical.byContradiction fun k=>?_⟩
     exact k (Or.inr (qFI (fun g2=>k (Or.inl g2)) g))
    ·have a2:decide ((i:Int)>0)=false:=decide_eq_false (by omega);rw[a2];simp[a1]
   refine⟨fun h5=>?_,fun h5=>?_⟩
   ·rw[e3]at h5;exact stop _ (by rw[e2,if_pos (of_decide_eq_true h5)]) (by decide)
   ·rw[e3]at h5;exact⟨q0X (by omega),i+1,SLe.refl _,⟨by omega,q4F hz (by rw[e2,if_neg (of_decide_eq_false h5)])⟩,by omega⟩
  ·have hge:i=l.length:=by have:=of_decide_eq_false h2;omega
   rw[hge]at hz;have hr:=q46 hz;have e2:q1A l=if atN l top<0 then 4 else if qRI l then 4 else if qBm l then 1 else 0:=by rw[e1,if_neg (not_not_intro hz)]
   have hsz:∀j,j<l.length→(atZ l j).path.size≤1000:=fun j hj=>by
    have:=q8C (q8S (q88 hz hj));omega
   refine⟨⟨VLe.refl _,hpre⟩,fun h3=>?_,fun h3=>?_⟩
   ·exact q0I (by rw[e2,if_pos (of_decide_eq_true h3)])
   have e3:q1A l=if qRI l then 4 else if qBm l then 1 else 0:=by rw[e2,if_neg (of_decide_eq_false h3)]
   refine⟨⟨0,SLe.refl _,by omega,fun j hj=>absurd hj (Nat.not_lt_zero j)⟩,?_⟩;rintro i ⟨hi,hj⟩;refine⟨fun h5=>?_,fun h5=>?_⟩
   ·have hlt:i<l.length:=by have:=of_decide_eq_true h5;omega
    simp only[Int.toNat_natCast];refine⟨⟨by omega,by omega⟩,hsz i hlt,⟨VLe.refl _,hpre⟩,fun h6=>?_,fun h6=>⟨q0X (by omega),i+1,SLe.refl _,⟨by omega,fun j h7=>?_⟩,by omega⟩⟩
    ·exact q0I (by rw[e3,if_pos ⟨_,q3w hlt,of_decide_eq_true h6⟩])
    ·by_cases e:j=i
     ·rw[e];exact of_decide_eq_false h6
     ·exact hj j (by omega)
   have hge:i=l.length:=by have:=of_decide_eq_false h5;omega
   subst hge;have hn:¬qRI l:=by
    rintro⟨z,h6,h7⟩;obtain⟨k,hk,rfl⟩:=q8I h6;exact hj k hk h7
   have e4:q1A l=if qBm l then 1 else 0:=by rw[e3,if_neg hn]
   refine⟨⟨0,SLe.refl _,by omega,fun j hj=>absurd hj (Nat.not_lt_zero j)⟩,?_⟩;rintro i ⟨hi,hk⟩;refine⟨fun h5=>?_,fun h5=>?_⟩
   ·have hlt:i<l.length:=by have:=of_decide_eq_true h5;omega
    simp only[Int.toNat_natCast];have h8:¬atN l (upF (l.getD i default).path)<0:=hj i hlt;have h9:atN l (upF (l.getD i default).path)<l.length:=(qAq (q7r (upF (l.getD i default).path)) l).elim id fun g=>absurd (show atN l (upF (l.getD i default).path)=-1 from g) (by omega);refine⟨⟨by omega,by omega⟩,hsz i hlt,⟨VLe.refl _,hpre⟩,⟨by omega,by omega⟩,fun h6=>?_,fun h6=>⟨q0X (by omega),i+1,SLe.refl _,⟨by omega,fun j h7=>?_⟩,by omega⟩⟩
    ·exact q0I (by rw[e4,if_pos ⟨_,q3w hlt,by simpa using h6⟩])
    ·by_cases e:j=i
     ·rw[e];exact by simpa using h6
     ·exact hk j (by omega)
   ·have hge:i=l.length:=by have:=of_decide_eq_false h5;omega
    subst hge;refine q0I ?_;rw[e4,if_neg];rintro⟨z,h6,h7⟩;obtain⟨k,hk2,rfl⟩:=q8I h6;exact h7 (hk k hk2)
 exact Eq.mp (by kernel_rfl) key
theorem x7X:q0R Tryz.prog 149 qWb:=by
 refine sob 0 Tryz.func149 fun args bin ob r bout hDe hob=>?_;unfold qWb at hDe;split at hDe
 ·rename_i a0;cases hDe;exact okB (x5D ((q0K q03) a0) (hob.2)) xA5 (args_of_vles ⟨hob.1,trivial⟩)
 ·cases hDe
theorem qSX {l:List q07} (h:∀i,0<i→i<l.length→(l.getD (i-1) default).id<(l.getD i default).id):qMn l:=by
 intro i j hij hj;induction j with
 |zero=>omega
 |succ j ih=>
  have h1:=h (j+1) (by omega) hj;rw[Nat.add_sub_cancel]at h1;by_cases e:i=j
  ·subst e;exact h1
  ·have:=ih (by omega) (by omega);omega
def okS (l:List q07):Prop:=l.length≤6∧qMn l∧∀s∈l,inR s.id 1 9∧inR s.upto 0 9999
theorem qLt {l:List q07} {id:Int} (h:qBB l id=true):q6y l id<l.length:=(of_decide_eq_true h).1
def qQV (s:q07) (id:Int):Prop:=inR s.id 1 9∧inR id 1 9
noncomputable def x3Y (s:q07) (id:Int):V:=.int .i64 (s.id-id)
noncomputable def qWr:q0P:=fun args bin=>match args,bin with
 |[a0,.int .i64 a1],[]=>some (VLe a0 (q00 1 ((q05 a0)))∧qQV (q05 a0) a1,x3Y (q05 a0) a1,[])
 |_,_=>none
noncomputable def xEe:=lkR []
theorem x6Q:q0C Tryz.prog xEe:=q04
noncomputable def x6j (s:q07) (id:Int):=cxN xEe Tryz.f265 [0,1,2,4]
theorem x6s (s:q07) (id:Int) (hpre:qQV s id):q0d (x6j s id) Tryz.f265 0 [q00 1 (s),.int .i64 (id)] (fun rr=>VLe rr (x3Y s id)):=by
 have key:inK IntKind.i64 (s.id-id)∧VLe (vi (s.id-id)) (vi (s.id-id)):=by
  delta vi;obtain⟨h1,h2⟩:=hpre;unfold inR at h1 h2;exact⟨q0X (by omega),VLe.refl _⟩
 exact Eq.mp (by kernel_rfl) key
theorem x58:q0R Tryz.prog 265 qWr:=by
 refine sob 0 Tryz.func265 fun args bin ob r bout hDe hob=>?_;unfold qWr at hDe;split at hDe
 ·rename_i a0 a1;cases hDe;exact okB (x6s (q05 a0) a1 (hob.2)) x6Q (args_of_vles ⟨hob.1,VLe.refl _,trivial⟩)
 ·cases hDe
def qCe (l:List q07) (id:Int):Prop:=okS l∧inR id 1 9
noncomputable def qIB (l:List q07) (id:Int):V:=.tup [.int .i64 (q6y l id),.bool (qBB l id)]
noncomputable def qDV:q0P:=fun args bin=>match args,bin with
 |[a0,.int .i64 a1,.fn 265 []],[]=>some (VLe a0 (q0D (q00 1) 1 (((q0K q05) a0)))∧qCe ((q0K q05) a0) a1,qIB ((q0K q05) a0) a1,[])
 |_,_=>none
noncomputable def qJb (l:List q07) (id:Int):q0M:=
 ⟨Nat×Nat,fun p=>⟨[(0,q0D (q00 1) 1 l),(1,.int .i64 id),(2,.fn 265 []),(8,.int .i64 l.length),(9,.int .i64 p.1),(10,.int .i64 p.2)],[]⟩,
  fun p=>p.1≤p.2∧p.2≤l.length∧(∀k,k<p.1→(l.getD k default).id<id)∧(p.2<l.length→¬(l.getD p.2 default).id<id),fun p=>p.2-p.1⟩
noncomputable def qNi (l:List q07) (id:Int):Nat→Option q0M:=fun rg_=>match rg_ with
 |3=>some (qJb l id)
 |_=>none
noncomputable def qKZ:=lkR [(265,qWr)]
theorem qOR:q0C Tryz.prog qKZ:=q02 x58 (q04)
noncomputable def qOV (l:List q07) (id:Int):=cxL qKZ Tryz.f264 [0,1,2,6,7,8,9,10,11,17,31] [(3,⟨[(0,none),(1,none),(2,none),(8,none),(9,none),(10,none)],[]⟩)] (qNi l id) []
noncomputable def q69 (l:List q07) (x:Nat×Nat):V:=q00 1 (l.getD (Int.fdiv ((q0c x)+(q0w x)) ((2:Int)^Int.toNat (1:Int))).toNat default)
def qBE (l:List q07) (id:Int) (x:Nat×Nat) (y:Nat×Nat):Prop:=(Prod.fst y≤Prod.snd y∧Prod.snd y≤l.length∧(∀k:Nat,k<Prod.fst y→(l.getD k default).id<id)∧(Prod.snd y<l.length→(¬q07.id (l.getD y.2 default)<id)))∧Prod.snd y-Prod.fst y<Prod.snd x-Prod.fst x
def qBC (l:List q07) (id:Int) (x:Nat×Nat):Prop:=Prod.fst x≤Prod.snd x∧Prod.snd x≤l.length∧(∀k:Nat,k<Prod.fst x→(l.getD k default).id<id)∧(Prod.snd x<l.length→(¬q07.id (l.getD x.2 default)<id))
noncomputable def q4p (l:List q07) (x:Nat×Nat):Bool:=decide ((q0c x)<(q0O l))
noncomputable def q75 (l:List q07) (x:Nat×Nat):V:=q00 1 (l.getD (q0c x).toNat default)
noncomputable def q6G:Nat×V:=(2,V.fn (265:FuncId) [])
noncomputable def q38 (l:List q07):Nat×V:=(0,q0D (q00 1) 1 l)
def q7I (l:List q07) (x:Nat×Nat):Prop:=decide ((q0c x)<(q0O l))=true
noncomputable def q9g (l:List q07) (id:Int) (y:Nat×Nat):AS:=AS.mk [(q38 l),(1,vi id),q6G,(8,vi (q0O l)),(9,vi (↑y.1:Int)),(10,vi (↑y.2:Int))] []
theorem qPf (l:List q07) (id:Int) (hpre:qCe l id):q0d (qOV l id) Tryz.f264 0 [q0D (q00 1) 1 (l),.int .i64 (id),.fn 265 []] (fun rr=>VLe rr (qIB l id)):=by
 have key:((∃x:Nat×Nat,SLe (AS.mk [(q38 l),(1,vi id),q6G,(8,vi (q0O l)),(9,vi 0),(10,vi (q0O l))] []) (AS.mk [(q38 l),(1,vi id),q6G,(8,vi (q0O l)),(9,vi (q0c x)),(10,vi (q0w x))] [])∧qBC l id x)∧∀x:Nat×Nat,qBC l id x→(decide ((q0c x)<(q0w x))=true→inK IntKind.i64 ((q0c x)+(q0w x))∧inK IntKind.u64 ((q0c x)+(q0w x))∧((0:Int)≤(1:Int)∧(1:Int).toNat≤IntKind.bits IntKind.u64)∧inK IntKind.i64 (Int.fdiv ((q0c x)+(q0w x)) ((2:Int)^Int.toNat (1:Int)))∧((0:Int)≤Int.fdiv ((q0c x)+(q0w x)) ((2:Int)^Int.toNat (1:Int))∧Int.fdiv ((q0c x)+(q0w x)) ((2:Int)^Int.toNat (1:Int))<(q0O l))∧(VLe (q69 l x) (q00 1 (q05 (q69 l x)))∧qQV (q05 (q69 l x)) id)∧(decide ((q05 (q69 l x)).id-id<0)=true→(inK IntKind.i64 (Int.fdiv ((q0c x)+(q0w x)) ((2:Int)^Int.toNat (1:Int))+(1:Int))∧∃y:Nat×Nat,SLe (AS.mk [(q38 l),(1,vi id),q6G,(8,vi (q0O l)),(9,vi (Int.fdiv ((q0c x)+(q0w x)) ((2:Int)^Int.toNat (1:Int))+(1:Int))),(10,vi (q0w x))] []) (q9g l id y)∧qBE l id x y))∧(decide ((q05 (q69 l x)).id-id<0)=false→∃y:Nat×Nat,SLe (AS.mk [(q38 l),(1,vi id),q6G,(8,vi (q0O l)),(9,vi (q0c x)),(10,vi (Int.fdiv ((q0c x)+(q0w x)) ((2:Int)^Int.toNat (1:Int))))] []) (q9g l id y)∧qBE l id x y))∧(decide ((q0c x)<(q0w x))=false→tq (q4p l x)∧tq (q4p l x)∧(q7I l x→0≤(q0c x)∧(q0c x)<(q0O l))∧tq (q4p l x)∧tq (q4p l x)∧tq (q4p l x)∧tq (q4p l x)∧(q7I l x→VLe (q75 l x) (q00 1 (q05 (q75 l x)))∧qQV (q05 (q75 l x)) id)∧tq (q4p l x)∧((true=true→q7I l x→q7I l x)∧∀b:Bool,(b=bif decide ((q0c x)<(q0O l))then(q05 (q75 l x)).id-id==0 else false)→VLe (V.tup [vi (q0c x),V.bool b]) (V.tup [vi (↑ (q6y l id):Int),V.bool (qBB l id)])))):=by
  delta q9g;delta q7I;delta q38;delta q6G;delta q75;delta q4p;delta qBC;delta qBE;delta q0O;delta q69;delta q0w;delta q0c;delta vi;obtain⟨⟨hl,hr,hs⟩,hid⟩:=hpre;have hin:∀m,m<l.length→inR (l.getD m default).id 1 9:=fun m hm=>(hs _ (by simp[hm])).1;simp only[q2K,xF8];refine⟨⟨(0,l.length),SLe.refl _,by simp,by simp,fun k hk=>absurd hk (Nat.not_lt_zero k),fun h=>absurd h (Nat.lt_irrefl _)⟩,?_⟩;rintro⟨i,j⟩ ⟨h1,h2,h3,h4⟩;simp only at h1 h2 h3 h4⊢;refine⟨fun h=>?_,fun h=>?_⟩
  ·have hlt:i<j:=by have:=of_decide_eq_true h;omega
   have m1:i≤(i+j)/2∧(i+j)/2<j:=by omega
   have m2:i+j≤2000:=by omega
   generalize (i+j)/2=m at*;simp only[Int.toNat_natCast];refine⟨q0X (by omega),qZg (by omega),by decide,q0X (by omega),⟨by omega,by omega⟩,⟨VLe.refl _,hin m (by omega),hid⟩,fun h5=>?_,fun h5=>?_⟩
   ·have h6:(l.getD m default).id<id:=by have:=of_decide_eq_true h5;omega
    refine⟨q0X (by omega),(m+1,j),SLe.refl _,⟨by simp only;omega,h2,fun k hk=>?_,h4⟩,by simp only;omega⟩;by_cases e:k=m
    ·subst e;exact h6
    ·have:=hr k m (by simp only at hk;omega) (by omega);omega
   ·have h6:¬(l.getD m default).id<id:=fun g=>of_decide_eq_false h5 (by omega);exact⟨(i,m),SLe.refl _,⟨by simp only;omega,by simp only;omega,h3,fun _=>h6⟩,by simp only;omega⟩
  ·have hij:i=j:=by have:=of_decide_eq_false h;omega
   subst hij;have hp:q6y l id=i:=qJD h2 h3 h4
   repeat (first|(refine And.intro (fun h _=>h) ?_)|(refine And.intro (fun _ h=>h) ?_)|(refine And.intro ?aa ?_;case aa=>(exact(tqI _)))|(refine And.intro ?aa ?_;case aa=>(exact(fun h=>⟨by omega,by have:=of_decide_eq_true h;omega⟩)))|(refine And.intro ?aa ?_;case aa=>(exact(fun h=>⟨VLe.refl _,hin i (by have:=of_decide_eq_true h;omega),hid⟩)))|(refine And.intro ?aa ?_;case aa=>(intros;simp_all [qQV];done))|(refine And.intro ?aa ?_;case aa=>(intros;exact q0X (by omega)))|(refine And.intro ?aa ?_;case aa=>(intros;simp only[decide_eq_true_eq]at *;omega))|(intro q hq))
   refine q5u ⟨q0I (by rw[hp]),q0Z ?_,trivial⟩;rw[hq];unfold qBB;rw[hp,Bool.eq_iff_iff,decide_eq_true_eq];by_cases a1:i<l.length
   ·have a2:decide ((i:Int)<(l.length:Int))=true:=decide_eq_true (by omega);rw[a2];simp only[cond_true,beq_iff_eq,Int.toNat_natCast,a1,true_and];omega
   ·have a2:decide ((i:Int)<(l.length:Int))=false:=decide_eq_false (by omega);rw[a2];simp[a1]
 exact Eq.mp (by kernel_rfl) key
theorem qPE:q0R Tryz.prog 264 qDV:=by
 refine sob 0 Tryz.func264 fun args bin ob r bout hDe hob=>?_;unfold qDV at hDe;split at hDe
 ·rename_i a0 a1;cases hDe;exact okB (qPf ((q0K q05) a0) a1 (hob.2)) qOR (args_of_vles ⟨hob.1,VLe.refl _,VLe.refl _,trivial⟩)
 ·cases hDe
def qPy (l:List q07) (id:Int):Prop:=okS l∧inR id 1 9
noncomputable def x3f (l:List q07) (id:Int):V:=.tup [.int .i64 (q6y l id),.bool (qBB l id)]
noncomputable def qPn:q0P:=fun args bin=>match args,bin with
 |[a0,.int .i64 a1],[]=>some (VLe a0 (q0D (q00 1) 1 (((q0K q05) a0)))∧qPy ((q0K q05) a0) a1,x3f ((q0K q05) a0) a1,[])
 |_,_=>none
noncomputable def xDm:=lkR [(264,qDV)]
theorem x6x:q0C Tryz.prog xDm:=q02 qPE (q04)
noncomputable def xBk (l:List q07) (id:Int):=cxN xDm Tryz.f228 [0,1,4,5]
theorem x5b (l:List q07) (id:Int) (hpre:qPy l id):q0d (xBk l id) Tryz.f228 0 [q0D (q00 1) 1 (l),.int .i64 (id)] (fun rr=>VLe rr (x3f l id)):=by
 have key:(VLe (q0D (q00 1) 1 l) (q0D (q00 1) 1 (q0F l))∧qCe (q0F l) id)∧VLe (V.tup [vi (↑ (q6y (q0F l) id):Int),V.bool (qBB (q0F l) id)]) (V.tup [vi (↑ (q6y l id):Int),V.bool (qBB l id)]):=by
  delta q0F;delta vi;simp only[q0p];exact⟨⟨VLe.refl _,hpre⟩,VLe.refl _⟩
 exact Eq.mp (by kernel_rfl) key
theorem qYV:q0R Tryz.prog 228 qPn:=by
 refine sob 0 Tryz.func228 fun args bin ob r bout hDe hob=>?_;unfold qPn at hDe;split at hDe
 ·rename_i a0 a1;cases hDe;exact okB (x5b ((q0K q05) a0) a1 (hob.2)) x6x (args_of_vles ⟨hob.1,VLe.refl _,trivial⟩)
 ·cases hDe
def qSy (l:List q07) (id:Int) (now:Int):Prop:=okS l∧inR id 1 9
noncomputable def qZf (l:List q07) (id:Int) (now:Int):V:=.bool (q6c l id now)
noncomputable def qSC:q0P:=fun args bin=>match args,bin with
 |[a0,.int .i64 a1,.int .i64 a2],[]=>some (VLe a0 (q0D (q00 1) 1 (((q0K q05) a0)))∧qSy ((q0K q05) a0) a1 a2,qZf ((q0K q05) a0) a1 a2,[])
 |_,_=>none
noncomputable def xE8:=lkR [(228,qPn)]
theorem xBj:q0C Tryz.prog xE8:=q02 qYV (q04)
noncomputable def x8F (l:List q07) (id:Int) (now:Int):=cxN xE8 Tryz.f178 [0,1,2,6,7,8]
theorem x5P (l:List q07) (id:Int) (now:Int) (hpre:qSy l id now):q0d (x8F l id now) Tryz.f178 0 [q0D (q00 1) 1 (l),.int .i64 (id),.int .i64 (now)] (fun rr=>VLe rr (qZf l id now)):=by
 have key:(VLe (q0D (q00 1) 1 l) (q0D (q00 1) 1 (q0F l))∧qPy (q0F l) id)∧tq (qBB (q0F l) id)∧tq (qBB (q0F l) id)∧(qBB (q0F l) id=true→0≤(↑ (q6y (q0F l) id):Int)∧(↑ (q6y (q0F l) id):Int)<(↑ l.length:Int))∧tq (qBB (q0F l) id)∧tq (qBB (q0F l) id)∧tq (qBB (q0F l) id)∧tq (qBB (q0F l) id)∧((true=true→qBB (q0F l) id=true→qBB (q0F l) id=true)∧∀b:Bool,(b=bif qBB (q0F l) id then decide ((l.getD (↑ (q6y (q0F l) id):Int).toNat default).upto≥now)else false)→VLe (V.bool b) (V.bool (q6c l id now))):=by
  delta q0F;obtain⟨⟨hl,hr,hs⟩,hid⟩:=hpre;have hp:qBB l id=true→q6y l id<l.length:=qLt;simp only[q0p,Int.toNat_natCast];refine⟨⟨VLe.refl _,⟨hl,hr,hs⟩,hid⟩,?_⟩
  repeat (first|refine And.intro (tqI _) ?_|refine And.intro (fun _ h=>h) ?_|refine And.intro (fun h=>⟨by omega,by have:=hp h;omega⟩) ?_)
  intro q hq;refine q0Z ?_;rw[hq];unfold q6c;rw[qRK hr];cases hh:qBB l id with
  |true=>
   rw[if_pos rfl,Int.toNat_natCast];simp
  |false=>
   have:¬(false=true):=by decide
   rw[if_neg this];simp
 exact Eq.mp (by kernel_rfl) key
theorem x3s:q0R Tryz.prog 178 qSC:=by
 refine sob 0 Tryz.func178 fun args bin ob r bout hDe hob=>?_;unfold qSC at hDe;split at hDe
 ·rename_i a0 a1 a2;cases hDe;exact okB (x5P ((q0K q05) a0) a1 a2 (hob.2)) xBj (args_of_vles ⟨hob.1,VLe.refl _,VLe.refl _,trivial⟩)
 ·cases hDe
def qOQ (l:List q0A) (ids:List Int):Prop:=l.length≤1000∧ids.length≤1000
noncomputable def qCy (l:List q0A) (ids:List Int):List q0A:=q2A l ids
noncomputable def qUw (l:List q0A) (ids:List Int):List Blk:=[(.arr 5 (qCy l ids).length (gL (q01 1) (qCy l ids)) q0l)]
noncomputable def qUO (l:List q0A) (ids:List Int):V:=.osl 0 (qCy l ids).length
noncomputable def qOo:q0P:=fun args bin=>match args,bin with
 |[a0,a1],[]=>some (VLe a0 (q0D (q01 1) 1 (((q0K q03) a0)))∧VLe a1 (q0D q42 1 (((q0K q2G) a1)))∧qOQ ((q0K q03) a0) ((q0K q2G) a1),qUO ((q0K q03) a0) ((q0K q2G) a1),qUw ((q0K q03) a0) ((q0K q2G) a1))
 |_,_=>none
noncomputable def x2G:Nat→Option (Fl×q0P):=lk [(162,(.ro,qA0)),(225,(.mv,qA9))]
theorem x1l:q0C Tryz.prog x2G:=q02 qCq (q02 qHJ (q04))
noncomputable def x39 (l:List q0A) (ids:List Int):=cxN x2G Tryz.f159 [0,1,3,4]
noncomputable def qAk (l:List q0A):List q0A:=q30 (q0K q03 (q0D (q01 1) 1 l))
noncomputable def qAi (l:List q0A):List q0A:=q0K q03 (q0D (q01 1) 1 (qAk l))
theorem x2s (l:List q0A) (ids:List Int) (hpre:qOQ l ids):q3h (x39 l ids) Tryz.f159 [(0,5)] [q0D (q01 1) 1 (l),q0D q42 1 (ids)] [] (fun rr bs=>VLe rr (qUO l ids)∧q1y bs (qUw l ids)):=by
 have key:(VLe (q0D (q01 1) 1 l) (q0D (q01 1) 1 (q0K q03 (q0D (q01 1) 1 l)))∧qAD (q0K q03 (q0D (q01 1) 1 l)))∧((0=0∧5=5∧100=100∧((qAk l).length=(qAk l).length∧∀i:Nat,i<(qAk l).length→ELe (q01 1 ((qAk l).getD i default)) (q01 1 ((qAi l).getD i default))))∧VLe (q1B ids) (q8d q42 1 (q3O q2G (q1B ids)))∧q9z (qAi l) (q3O q2G (q1B ids)))∧VLe (V.osl 0 (q2W (qAi l) (q3O q2G (q1B ids))).length) (V.osl 0 (qCy l ids).length)∧BLe (Blk.arr 5 (q2W (qAi l) (q3O q2G (q1B ids))).length (gL (q01 1) (q2W (qAi l) (q3O q2G (q1B ids)))) 100) (Blk.arr 5 (qCy l ids).length (gL (q01 1) (qCy l ids)) 100)∧True:=by
  delta q1B;delta qAi;delta qAk;obtain⟨hl,hi⟩:=hpre;simp only[q0o,qG3,q30];exact⟨⟨VLe.refl _,hl⟩,⟨⟨trivial,trivial,trivial,trivial,fun i hi=>ELe.refl _⟩,VLe.refl _,hl,hi⟩,VLe.refl _,BLe.refl _,trivial⟩
 exact Eq.mp (by kernel_rfl) key
theorem x3r:q0R Tryz.prog 159 qOo:=by
 refine q0S q77 (tpl:=[(0,5)]) Tryz.func159 rfl (by kernel_rfl) fun args bin ob r bout hDe hob=>?_;unfold qOo at hDe;split at hDe
 ·rename_i a0 a1;cases hDe;exact okQ (x2s ((q0K q03) a0) ((q0K q2G) a1) (hob.2.2)) x1l (args_of_vles ⟨hob.1,hob.2.1,trivial⟩) trivial
 ·cases hDe
theorem qMq:ELe (.agg [.str ⟨#[]⟩,.int .i64 0,.int .i64 0,.int .i64 0,.int .i64 0]) (q01 1 default):=ELe.refl _
def q1Y (x:q0A) (left:Int):Int:=q3j x.path.size left
theorem q8p (x:q0A) (left:Int):q1Y x left≤left∨q1Y x left<0:=q8m _ _
def qYF (x:q0A) (left:Int):Prop:=0≤left∧left≤q4w∧x.bd
noncomputable def x1t (x:q0A) (left:Int):V:=.int .i64 (q1Y x left)
noncomputable def qXm:q0P:=fun args bin=>match args,bin with
 |[a0,.int .i64 a1],[]=>some (VLe a0 (q01 1 ((q03 a0)))∧qYF (q03 a0) a1,x1t (q03 a0) a1,[])
 |_,_=>none
noncomputable def xE9:=lkR []
theorem xCE:q0C Tryz.prog xE9:=q04
noncomputable def x6U (x:q0A) (left:Int):=cxN xE9 Tryz.f147 [0,1,2,4,11]
noncomputable def qHA (x:q0A):Nat:=x.path.size
theorem x9O (x:q0A) (left:Int) (hpre:qYF x left):q0d (x6U x left) Tryz.f147 0 [q01 1 (x),.int .i64 (left)] (fun rr=>VLe rr (x1t x left)):=by
 have key:inK IntKind.i64 (left-(↑ (qHA x):Int))∧(decide (left-(↑ (qHA x):Int)<0)=true→VLe (vi (-1)) (vi (q1Y x left)))∧(decide (left-(↑ (qHA x):Int)<0)=false→VLe (vi (left-(↑ (qHA x):Int))) (vi (q1Y x left))):=by
  delta qHA;delta vi;obtain⟨h0,hm,hb⟩:=hpre;unfold q4w at hm;unfold q0A.bd maxLen at hb;refine⟨q0X (by omega),fun h=>?_,fun h=>?_⟩
  ·exact q0I (by unfold q1Y q3j;rw[if_pos (of_decide_eq_true h)])
  ·exact q0I (by unfold q1Y q3j;rw[if_neg (of_decide_eq_false h)])
 exact Eq.mp (by kernel_rfl) key
theorem x7A:q0R Tryz.prog 147 qXm:=by
 refine sob 0 Tryz.func147 fun args bin ob r bout hDe hob=>?_;unfold qXm at hDe;split at hDe
 ·rename_i a0 a1;cases hDe;exact okB (x9O (q03 a0) a1 (hob.2)) xCE (args_of_vles ⟨hob.1,VLe.refl _,trivial⟩)
 ·cases hDe
def x8x (xs:List q0A) (left:Int):Prop:=0≤left∧left≤q4w∧xs.length≤maxLen∧∀x∈xs,x.bd
noncomputable def xFS (xs:List q0A) (left:Int):V:=.int .i64 (szS q1Y xs left)
noncomputable def x7n:q0P:=fun args bin=>match args,bin with
 |[a0,.int .i64 a1],[]=>some (VLe a0 (q0D (q01 1) 1 (((q0K q03) a0)))∧x8x ((q0K q03) a0) a1,xFS ((q0K q03) a0) a1,[])
 |_,_=>none
noncomputable def x25 (xs:List q0A) (left:Int):q0M:=
 ⟨Nat×Int,fun p=>⟨[(0,q0D (q01 1) 1 xs),(1,.int .i64 p.2),(5,.int .i64 p.1)],[]⟩,
  fun p=>p.1≤xs.length∧0≤p.2∧p.2≤left∧szS q1Y xs left=szA q1Y (xs.drop p.1) p.2,fun p=>xs.length-p.1⟩
noncomputable def xFa (xs:List q0A) (left:Int):Nat→Option q0M:=fun rg_=>match rg_ with
 |5=>some (x25 xs left)
 |_=>none
noncomputable def D83:=lkR [(147,qXm)]
theorem xHJ:q0C Tryz.prog D83:=q02 x7A (q04)
noncomputable def xGC (xs:List q0A) (left:Int):=cxL D83 Tryz.f83 [0,1,4,5,11,15,25] [(5,⟨[(0,none),(1,none),(5,none)],[]⟩)] (xFa xs left) []
noncomputable def qJG (xs:List q0A) (x:Nat×Int):V:=q01 1 (xs.getD (↑x.1:Int).toNat default)
def qWz (xs:List q0A) (left:Int) (x:Nat×Int):Prop:=Prod.fst x≤xs.length∧(0:Int)≤Prod.snd x∧Prod.snd x≤left∧szS q1Y xs left=szA q1Y (List.drop x.1 xs) x.2
theorem xFh (xs:List q0A) (left:Int) (hpre:x8x xs left):q0d (xGC xs left) Tryz.f83 0 [q0D (q01 1) 1 (xs),.int .i64 (left)] (fun rr=>VLe rr (xFS xs left)):=by
 have key:inK IntKind.i64 (left-(q0u xs))∧(decide (left-(q0u xs)<0)=true→VLe (vi (-1)) (vi (szS q1Y xs left)))∧(decide (left-(q0u xs)<0)=false→((∃x:Nat×Int,SLe (AS.mk [(0,q0D (q01 1) 1 xs),(1,vi (left-(q0u xs))),(5,vi 0)] []) (AS.mk [(0,q0D (q01 1) 1 xs),(1,vi x.2),(5,vi (↑x.1:Int))] [])∧qWz xs left x)∧∀x:Nat×Int,qWz xs left x→(decide ((↑x.1:Int)<(q0u xs))=true→(0≤(↑x.1:Int)∧(↑x.1:Int)<(q0u xs))∧(VLe (qJG xs x) (q01 1 (q03 (qJG xs x)))∧qYF (q03 (qJG xs x)) x.2)∧(decide (q1Y (q03 (qJG xs x)) x.2<(0:Int))=true→VLe (vi (-1)) (vi (szS q1Y xs left)))∧(decide (q1Y (q03 (qJG xs x)) x.2<(0:Int))=false→(inK IntKind.i64 ((↑x.1:Int)+1)∧∃y:Nat×Int,SLe (AS.mk [(0,q0D (q01 1) 1 xs),(1,vi (q1Y (q03 (qJG xs x)) x.2)),(5,vi ((↑x.1:Int)+1))] []) (AS.mk [(0,q0D (q01 1) 1 xs),(1,vi y.2),(5,vi (↑y.1:Int))] [])∧(Prod.fst y≤xs.length∧(0:Int)≤Prod.snd y∧Prod.snd y≤left∧szS q1Y xs left=szA q1Y (List.drop y.1 xs) y.2)∧xs.length-Prod.fst y<xs.length-Prod.fst x)))∧(decide ((↑x.1:Int)<(q0u xs))=false→VLe (vi x.2) (vi (szS q1Y xs left))))):=by
  delta qWz;delta q0u;delta qJG;delta vi;obtain⟨h0,hm,hl,hb⟩:=hpre;unfold q4w at hm;unfold maxLen at hl;refine⟨q0X (by omega),fun h=>q0I (qJQ (of_decide_eq_true h)).symm,fun h=>?_⟩;have h':=of_decide_eq_false h;refine⟨⟨(0,left-xs.length),SLe.refl _,Nat.zero_le _,by simp only;omega,by simp only;omega,qJ1 h'⟩,?_⟩;rintro⟨i,v⟩ ⟨h1,h2,h3,h4⟩;simp only at h1 h2 h3 h4⊢;refine⟨fun h=>?_,fun h=>?_⟩
  ·have hlt:i<xs.length:=by simpa using h
   have hin:xs.getD i default∈xs:=by simp[hlt]
   have e:=qG4 q1Y hlt v;have hle:=q8p (xs.getD i default) v;simp only[q1R,Int.toNat_natCast];refine⟨⟨by omega,by omega⟩,⟨VLe.refl _,by omega,by unfold q4w;omega,hb _ hin⟩,fun h5=>?_,fun h5=>?_⟩
   ·have h6:=of_decide_eq_true h5;exact q0I (by rw[h4,e,if_pos h6])
   ·have h6:=of_decide_eq_false h5;exact⟨q0X (by omega),(i+1,q1Y (xs.getD i default) v),SLe.refl _,⟨by simp only;omega,by simp only;omega,by simp only;omega,by rw[h4,e,if_neg h6]⟩,by simp only;omega⟩
  ·have hge:i=xs.length:=by simp at h;omega
   refine q0I ?_;rw[h4,hge,List.drop_length];rfl
 exact Eq.mp (by kernel_rfl) key
theorem xFg:q0R Tryz.prog 83 x7n:=by
 refine sob 0 Tryz.func83 fun args bin ob r bout hDe hob=>?_;unfold x7n at hDe;split at hDe
 ·rename_i a0 a1;cases hDe;exact okB (xFh ((q0K q03) a0) a1 (hob.2)) xHJ (args_of_vles ⟨hob.1,VLe.refl _,trivial⟩)
 ·cases hDe
def qS7 (x:q0A):Prop:=True
noncomputable def qZt (x:q0A):V:=q01 2 (x)
noncomputable def qVW:q0P:=fun args bin=>match args,bin with
 |[a0],[]=>some (VLe a0 (q01 1 ((q03 a0)))∧qS7 (q03 a0),qZt (q03 a0),[])
 |_,_=>none
noncomputable def xEw:=lkR []
theorem x8z:q0C Tryz.prog xEw:=q04
noncomputable def x60 (x:q0A):=cxN xEw Tryz.f153 [0,1,2,3]
theorem x4c (x:q0A) (hpre:qS7 x):q0d (x60 x) Tryz.f153 1 [q01 1 (x)] (fun rr=>VLe rr (qZt x)):=by
 have key:VLe (q01 1 x) (q01 1 x):=by
  exact q21 ⟨VLe.refl _,VLe.refl _,VLe.refl _,VLe.refl _,VLe.refl _,trivial⟩
 exact Eq.mp (by kernel_rfl) key
theorem xCU:q0R Tryz.prog 153 qVW:=by
 refine sob 1 Tryz.func153 fun args bin ob r bout hDe hob=>?_;unfold qVW at hDe;split at hDe
 ·rename_i a0;cases hDe;exact okB (x4c (q03 a0) (hob.2)) x8z (args_of_vles ⟨hob.1,trivial⟩)
 ·cases hDe
noncomputable def qPa (xs:List q0A) (x:Nat×List q0A):V:=q01 1 (xs.getD (↑x.1:Int).toNat default)
def qVn (xs:List q0A) (x:Nat×List q0A):Prop:=Prod.fst x≤xs.length∧(x.2.length=xs.length∧∀j:Nat,j<Prod.fst x→x.2.getD j default=xs.getD j default)
def qSh (x:q0A) (y:q0A):Prop:=True
noncomputable def x0J (x:q0A) (y:q0A):V:=.bool (decide (x=y))
noncomputable def qWp:q0P:=fun args bin=>match args,bin with
 |[a0,a1],[]=>some (VLe a0 (q01 1 ((q03 a0)))∧VLe a1 (q01 1 ((q03 a1)))∧qSh (q03 a0) (q03 a1),x0J (q03 a0) (q03 a1),[])
 |_,_=>none
noncomputable def xE3:=lkR []
theorem x8f:q0C Tryz.prog xE3:=q04
noncomputable def x6o (x:q0A) (y:q0A):=cxN xE3 Tryz.f164 [0,1,2,3,4,9,14,19,24,29]
def qEN (x:q0A) (y:q0A):Prop:=VLe (V.bool false) (V.bool (decide (x=y)))
theorem x9S (x:q0A) (y:q0A) (hpre:qSh x y):q0d (x6o x y) Tryz.f164 0 [q01 1 (x),q01 1 (y)] (fun rr=>VLe rr (x0J x y)):=by
 have key:((!q1t x.path y.path)=true→qEN x y)∧((!q1t x.path y.path)=false→((x.data !=y.data)=true→qEN x y)∧((x.data !=y.data)=false→((x.version !=y.version)=true→qEN x y)∧((x.version !=y.version)=false→((x.owner !=y.owner)=true→qEN x y)∧((x.owner !=y.owner)=false→((x.next !=y.next)=true→qEN x y)∧((x.next !=y.next)=false→VLe (V.bool true) (V.bool (decide (x=y)))))))):=by
  delta qEN;simp[qLW,q1W]
  grind
 exact Eq.mp (by kernel_rfl) key
theorem x7d:q0R Tryz.prog 164 qWp:=by
 refine sob 0 Tryz.func164 fun args bin ob r bout hDe hob=>?_;unfold qWp at hDe;split at hDe
 ·rename_i a0 a1;cases hDe;exact okB (x9S (q03 a0) (q03 a1) (hob.2.2)) x8f (args_of_vles ⟨hob.1,hob.2.1,trivial⟩)
 ·cases hDe
def x4G (xs:List q0A) (ys:List q0A):Prop:=xs.length≤maxLen∧∀x∈xs,∀y,qSh x y
noncomputable def xEq (xs:List q0A) (ys:List q0A):V:=.bool (decide (xs=ys))
noncomputable def xAw:q0P:=fun args bin=>match args,bin with
 |[a0,a1],[]=>some (VLe a0 (q0D (q01 1) 1 (((q0K q03) a0)))∧VLe a1 (q0D (q01 1) 1 (((q0K q03) a1)))∧x4G ((q0K q03) a0) ((q0K q03) a1),xEq ((q0K q03) a0) ((q0K q03) a1),[])
 |_,_=>none
noncomputable def x1J (xs:List q0A) (ys:List q0A):q0M:=
 ⟨Nat,fun i=>⟨[(0,q0D (q01 1) 1 xs),(1,q0D (q01 1) 1 ys),(5,.int .i64 i)],[]⟩,
  fun i=>i≤xs.length∧xs.length=ys.length∧∀j,j<i→xs.getD j default=ys.getD j default,fun i=>xs.length-i⟩
noncomputable def xHP (xs:List q0A) (ys:List q0A):Nat→Option q0M:=fun rg_=>match rg_ with
 |4=>some (x1J xs ys)
 |_=>none
noncomputable def D96:=lkR [(164,qWp)]
theorem xGm:q0C Tryz.prog D96:=q02 x7d (q04)
noncomputable def xH8 (xs:List q0A) (ys:List q0A):=cxL D96 Tryz.f96 [0,1,4,5,10,14,26] [(4,⟨[(0,none),(1,none),(5,none)],[]⟩)] (xHP xs ys) []
noncomputable def qMV (ys:List q0A) (x:Nat):V:=q01 1 (ys.getD (↑x:Int).toNat default)
def qVV (xs:List q0A) (ys:List q0A) (x:Nat):Prop:=x≤xs.length∧(xs.length=ys.length∧∀j:Nat,j<x→xs.getD j default=ys.getD j default)
theorem xGB (xs:List q0A) (ys:List q0A) (hpre:x4G xs ys):q0d (xH8 xs ys) Tryz.f96 0 [q0D (q01 1) 1 (xs),q0D (q01 1) 1 (ys)] (fun rr=>VLe rr (xEq xs ys)):=by
 have key:(((q0u xs)!=(↑ ys.length:Int))=true→VLe (V.bool false) (V.bool (decide (xs=ys))))∧(((q0u xs)!=(↑ ys.length:Int))=false→((∃x:Nat,SLe (AS.mk [(0,q0D (q01 1) 1 xs),(1,q0D (q01 1) 1 ys),(5,vi 0)] []) (AS.mk [(0,q0D (q01 1) 1 xs),(1,q0D (q01 1) 1 ys),(5,vi (↑x:Int))] [])∧qVV xs ys x)∧∀x:Nat,qVV xs ys x→(decide ((↑x:Int)<(q0u xs))=true→(0≤(↑x:Int)∧(↑x:Int)<(q0u xs))∧(0≤(↑x:Int)∧(↑x:Int)<(↑ ys.length:Int))∧(VLe (q34 xs x) (q01 1 (q03 (q34 xs x)))∧VLe (qMV ys x) (q01 1 (q03 (qMV ys x)))∧qSh (q03 (q34 xs x)) (q03 (qMV ys x)))∧((!decide (q03 (q34 xs x)=q03 (qMV ys x)))=true→VLe (V.bool false) (V.bool (decide (xs=ys))))∧((!decide (q03 (q34 xs x)=q03 (qMV ys x)))=false→(inK IntKind.i64 ((↑x:Int)+1)∧∃y:Nat,SLe (AS.mk [(0,q0D (q01 1) 1 xs),(1,q0D (q01 1) 1 ys),(5,vi ((↑x:Int)+1))] []) (AS.mk [(0,q0D (q01 1) 1 xs),(1,q0D (q01 1) 1 ys),(5,vi (↑y:Int))] [])∧(y≤xs.length∧(xs.length=ys.length∧∀j:Nat,j<y→xs.getD j default=ys.getD j default))∧xs.length-y<xs.length-x)))∧(decide ((↑x:Int)<(q0u xs))=false→VLe (V.bool true) (V.bool (decide (xs=ys)))))):=by
  delta q0u;delta qVV;delta qMV;delta q34;delta vi;unfold x4G maxLen at hpre;obtain⟨hpre,hel⟩:=hpre;refine⟨fun h=>?_,fun h=>?_⟩
  ·refine q0Z ?_;have hne:xs≠ys:=fun e=>by subst e;simp at h
   simp[hne]
  ·have hlen:xs.length=ys.length:=by simp at h;omega
   refine⟨⟨0,SLe.refl _,by omega,hlen,fun j hj=>absurd hj (Nat.not_lt_zero j)⟩,?_⟩;rintro i ⟨hi,_,hj⟩;refine⟨fun h=>?_,fun h=>?_⟩
   ·have hlt:i<xs.length:=by simpa using h
    have hin:xs.getD i default∈xs:=by simp[hlt]
    simp only[q1R,Int.toNat_natCast];refine⟨⟨by omega,by omega⟩,⟨by omega,by omega⟩,⟨VLe.refl _,VLe.refl _,hel _ hin _⟩,fun h2=>?_,fun h2=>⟨q0X (by omega),i+1,SLe.refl _,⟨by omega,hlen,fun j h3=>?_⟩,by omega⟩⟩
    ·refine q0Z ?_;have hne:xs≠ys:=fun e=>by subst e;simp at h2
     simp[hne]
    ·rcases Nat.lt_or_ge j i with h4|h4
     ·exact hj j h4
     ·have:j=i:=by omega
      subst this;simpa using h2
   ·refine q0Z ?_;have hge:i=xs.length:=by simp at h;omega
    have heq:xs=ys:=by
     refine List.ext_getElem hlen fun k h1 h2=>?_;have:=hj k (by omega);simpa[h1,h2]using this
    simp[heq]
 exact Eq.mp (by kernel_rfl) key
theorem xFm:q0R Tryz.prog 96 xAw:=by
 refine sob 0 Tryz.func96 fun args bin ob r bout hDe hob=>?_;unfold xAw at hDe;split at hDe
 ·rename_i a0 a1;cases hDe;exact okB (xGB ((q0K q03) a0) ((q0K q03) a1) (hob.2.2)) xGm (args_of_vles ⟨hob.1,hob.2.1,trivial⟩)
 ·cases hDe
theorem q8a {x y:Int} (h:(x !=y)=true):x≠y:=by simpa using h
theorem q5C {x y:Int} (h:(x !=y)=false):¬x≠y:=by simpa using h
theorem qPV {α:Type} {f:α→Int→Int} (hf:∀x v,f x v≤v∨f x v<0):∀(xs:List α) (v:Int),szA f xs v≤v∨szA f xs v<0
 |[],v=>Or.inl (Int.le_refl _)
 |x::r,v=>by
  unfold szA;split
  ·exact Or.inr (by decide)
  ·have:=qPV hf r (f x v);have:=hf x v;omega
theorem qFp {α:Type} {f:α→Int→Int} (hf:∀x v,f x v≤v∨f x v<0) (xs:List α) (v:Int):szS f xs v≤v∨szS f xs v<0:=by
 unfold szS;split
 ·exact Or.inr (by decide)
 ·have:=qPV hf xs (v-xs.length);omega
theorem qT6 {α:Type} [Inhabited α] {enc:α→V} {l:List α} {i t:Nat} (h:i≤l.length):VLe (.sl i (gL enc l) t) (q0D enc t (l.take i)):=
 q4i (by rw[List.length_take];omega) (fun k hk=>by
  have hk2:k<l.length:=by rw[List.length_take]at hk;omega
  simp[gL,hk2]) (Or.inl rfl)
theorem qMA {α:Type} [Inhabited α] {l:List α} {i:Nat} {x:α}:x∈l.take i↔∃j,j<i∧j<l.length∧l.getD j default=x:=by
 constructor
 ·intro h;obtain⟨j,hj,rfl⟩:=List.getElem_of_mem h;have h2:j<i∧j<l.length:=by rw[List.length_take]at hj;omega
  exact⟨j,h2.1,h2.2,by simp[h2.2]⟩
 ·rintro⟨j,h1,h2,rfl⟩;have h3:j<(l.take i).length:=by rw[List.length_take];omega
  have:=List.getElem_mem h3;simpa[h2]using this
def qIc (n:Int):Prop:=True
noncomputable def x20 (n:Int):V:=.bool (decide (inR n 1 9))
noncomputable def qQ4:q0P:=fun args bin=>match args,bin with
 |[.int .i64 a0],[]=>some (qIc a0,x20 a0,[])
 |_,_=>none
noncomputable def xDA:=lkR [(151,qA8)]
theorem x5d:q0C Tryz.prog xDA:=q02 qBp (q04)
noncomputable def xB8 (n:Int):=cxN xDA Tryz.f110 [0,2]
theorem xAd (n:Int) (hpre:qIc n):q0d (xB8 n) Tryz.f110 0 [.int .i64 (n)] (fun rr=>VLe rr (x20 n)):=by
 have key:q62 n (1:Int) (9:Int)∧VLe (V.bool (decide (inR n 1 9))) (V.bool (decide (inR n 1 9))):=by
  exact⟨trivial,VLe.refl _⟩
 exact Eq.mp (by kernel_rfl) key
theorem qW8:q0R Tryz.prog 110 qQ4:=by
 refine sob 0 Tryz.func110 fun args bin ob r bout hDe hob=>?_;unfold qQ4 at hDe;split at hDe
 ·rename_i a0;cases hDe;exact okB (xAd a0 (hob)) x5d (args_of_vles ⟨VLe.refl _,trivial⟩)
 ·cases hDe
def qGK (n:Int):Prop:=True
noncomputable def x3W (n:Int):V:=.bool (decide (inR n 1 9))
noncomputable def qMa:q0P:=fun args bin=>match args,bin with
 |[.int .i64 a0],[]=>some (qGK a0,x3W a0,[])
 |_,_=>none
noncomputable def xEi:=lkR [(120,q9i)]
theorem x7C:q0C Tryz.prog xEi:=q02 qBu (q04)
noncomputable def x9T (n:Int):=cxN xEi Tryz.f107 [0,2]
theorem xCi (n:Int) (hpre:qGK n):q0d (x9T n) Tryz.f107 0 [.int .i64 (n)] (fun rr=>VLe rr (x3W n)):=by
 have key:q64 n (1:Int) (9:Int)∧VLe (V.bool (decide (inR n 1 9))) (V.bool (decide (inR n 1 9))):=by
  exact⟨trivial,VLe.refl _⟩
 exact Eq.mp (by kernel_rfl) key
theorem qT1:q0R Tryz.prog 107 qMa:=by
 refine sob 0 Tryz.func107 fun args bin ob r bout hDe hob=>?_;unfold qMa at hDe;split at hDe
 ·rename_i a0;cases hDe;exact okB (xCi a0 (hob)) x7C (args_of_vles ⟨VLe.refl _,trivial⟩)
 ·cases hDe
end Go.Av
