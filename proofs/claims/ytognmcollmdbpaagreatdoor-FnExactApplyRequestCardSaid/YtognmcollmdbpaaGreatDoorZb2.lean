/- The proof's texts, joined, without what the row does not reach: part 2. -/
import Derived.Test.YtognmcollmdbpaaGreatDoorZb1
import Derived.Orders
import Derived.LoopN
import Derived.Lib.Bytealg
import Derived.DataReads
import Derived.Deep.Slices
import Derived.Below
namespace Go.Av
set_option linter.unusedVariables false
set_option linter.unusedSimpArgs false
structure Ent (w:World) (X0 io:Nat→Prop) (bin:List Blk) (ι:q1K) (Fr:Nat→Nat→Prop):Prop where
 own:∀id blk b sz m,bin[id]?=some blk→ι id=some (b,sz,m)→qAT w Fr ι b sz m blk∧io b
 nob:∀id blk,bin[id]?=some blk→ι id=none→∃sz h te,blk=.arr sz 0 h te
 inj:∀id id' blk blk' r r',bin[id]?=some blk→bin[id']?=some blk'→ι id=some r→ι id'=some r'→r.1=r'.1→id=id'
 fr:∀t b,Fr t b→b<w.heap.size∧¬X0 b∧∀id blk r,bin[id]?=some blk→ι id=some r→r.1≠b
 frS:∀b,¬Fr q0l b
 fr0:∀t b,Fr t b→Fr 0 b
 fr2:∀t b,2≤t→¬Fr t b
 x0:∀b,X0 b→b<w.heap.size∧¬io b
 io0:∀b,io b→b<w.heap.size
 few:bin.length<64
structure Ext (w w':World) (X0 io N:Nat→Prop) (ι:q1K) (m:Nat) (bout:List Blk) (ι':q1K) (Fr:Nat→Nat→Prop):Prop where
 own:∀id blk b sz k,bout[id]?=some blk→ι' id=some (b,sz,k)→qAT w' Fr ι' b sz k blk∧(N b∨(io b∧id<m))
 nob:∀id blk,bout[id]?=some blk→ι' id=none→∃sz h te,blk=.arr sz 0 h te
 inj:∀id id' blk blk' r r',bout[id]?=some blk→bout[id']?=some blk'→ι' id=some r→ι' id'=some r'→r.1=r'.1→id=id'
 fr:∀t b,Fr t b→b<w'.heap.size∧¬X0 b∧∀id blk r,bout[id]?=some blk→ι' id=some r→r.1≠b
 frS:∀b,¬Fr q0l b
 fr0:∀t b,Fr t b→Fr 0 b
 fr2:∀t b,2≤t→Fr t b→N b
 cl:∀t b,2≤t→Fr t b→∃arr e,w'.heap[b]?=some (.cells arr e (0,0))
 same:∀id,id<m→ι' id=ι id
 os:w'.os=w.os
 tape:w'.tape=w.tape
 output:w'.output=w.output
 hsize:w.heap.size≤w'.heap.size
 frame:∀b,b<w.heap.size→¬io b→w'.heap[b]?=w.heap[b]?
 shape:∀b e,w.shape? b=some e→w'.shape? b=some e
def qIm (P:Program) (f:Nat) (vals:Array Value) (w:World) (R:Ending→World→Prop):Prop:=
 ((callFunc f vals).run P w=.ok (.enter f vals) w∧Calls P f vals w R)∨
 ∃v,(callFunc f vals).run P w=.ok (.value v) w∧R (.returned v) w
theorem qIm.body {P:Program} {f:Nat} {vals:Array Value} {w:World} {R:Ending→World→Prop} (h:qIm P f vals w R) (he:(callFunc f vals).run P w=.ok (.enter f vals) w):Calls P f vals w R:=by
 rcases h with h|⟨v,hv,_⟩
 ·exact h.2
 ·rw[he]at hv;cases hv
structure q0R (P:Program) (f:Nat) (D:q0P):Prop where
 does:∀args bin ob r bout,D args bin=some (ob,r,bout)→ob→∀(vals:Array Value) (w:World) (X0 io:Nat→Prop) (ι:q1K) (Fr:Nat→Nat→Prop),
  Ent w X0 io bin ι Fr→vals.size=args.length→(∀j,j<args.length→q0e w Fr ι (args.getD j .undef) (vals.getD j Go.undef))→
  qIm P f vals w fun e w'=>∃v ι' Fr',e=.returned v∧q0e w' Fr' ι' r v∧Ext w w' X0 io (fun b=>w.heap.size≤b) ι bin.length bout ι' Fr'
structure q8g (P:Program) (f:Nat) (D:q0P):Prop where
 does:∀args bin ob r bout,D args bin=some (ob,r,bout)→ob→∀(vals:Array Value) (w:World) (X0 io:Nat→Prop) (ι:q1K) (Fr:Nat→Nat→Prop),
  Ent w X0 io bin ι Fr→(∀t b,Fr t b→¬io b)→vals.size=args.length→(∀j,j<args.length→q0e w Fr ι (args.getD j .undef) (vals.getD j Go.undef))→
  qIm P f vals w fun e w'=>∃v ι' Fr',e=.returned v∧q0e w' Fr' ι' r v∧Ext w w' X0 io (fun b=>w.heap.size≤b∨io b) ι 0 bout ι' Fr'
def qV1 (P:Program) (b:Fl) (f:Nat) (D:q0P):Prop:=match b with
 | .mv=>q8g P f D
 |_=>q0R P f D
def q0C (P:Program) (D:Nat→Option (Fl×q0P)):Prop:=∀f b S,D f=some (b,S)→qV1 P b f S
theorem q4X (f:Nat→Nat):∀(cs:List V) (j:Nat),j<cs.length→(V.renL f cs).getD j .undef=V.ren f (cs.getD j .undef)
 |[],_,h=>by simp at h
 |_::_,0,_=>by simp[V.renL]
 |_::cs,j+1,h=>by simpa[V.renL]using q4X f cs j (by simpa using h)
theorem q19 (f:Nat→Nat):∀cs:List V,(V.renL f cs).length=cs.length
 |[]=>rfl
 |_::cs=>by simp[V.renL,q19 f cs]
theorem q3m:∀{cs:List V} {j:Nat},j<cs.length→∀id∈(cs.getD j .undef).ids,id∈V.idsL cs
 |[],_,h,_,_=>by simp at h
 |c::cs,0,_,id,hid=>by simp only[V.idsL,List.mem_append];left;simpa using hid
 |c::cs,j+1,h,id,hid=>by simp only[V.idsL,List.mem_append];right;exact q3m (cs:=cs) (j:=j) (by simpa using h) id (by simpa using hid)
theorem q0e.renTag {w w':World} {Fr Fr':Nat→Nat→Prop} {ι ι':q1K} {f h:Nat→Nat} {v:V} {x:Value} (hr:q0e w Fr ι v x)
  (hι:∀id∈v.ids,ι' (f id)=ι id) (hF:∀t b,Fr t b→Fr' (h t) b∧w'.heap[b]?=w.heap[b]?) (hS:∀b,¬Fr q0l b) (hsh:∀b e,w.shape? b=some e→w'.shape? b=some e):
  q0e w' Fr' ι' ((v.ren f).tag h) x:=by
 induction hr with
 |atom hv hp=>
  rename_i v x;cases hp with
  |int=>exact .atom rfl (.int _ _)
  |bool=>exact .atom rfl (.bool _)
  |str=>exact .atom rfl (.str _)
  |nil=>exact .atom rfl (.nil _)
  |sl0=>exact .atom rfl (.sl0 _ _ _ _)
  |sl cv hA hcap hsz hc hr=>
   exact .atom rfl ((PRep.sl cv hA hcap hsz hc hr).mono fun b hb=>hF _ b hb)
  |ptr cv hA hc hr=>exact .atom rfl ((PRep.ptr cv hA hc hr).mono fun b hb=>hF _ b hb)
  |agg=>simp[isP]at hv
  |tup=>simp[isP]at hv
  |fn=>simp[isP]at hv
  |undef=>exact .atom rfl (.undef _)
 |osl hi hn hc hs hcs=>
  exact .osl (by rw[hι _ (by simp[V.ids])];exact hi) hn hc (hsh _ _ hs) hcs
 |osl0 a hi=>exact .osl0 a (by rw[hι _ (by simp[V.ids])];exact hi)
 |oss hi hn hc hcc hx hs hcs=>exact .oss (by rw[hι _ (by simp[V.ids])];exact hi) hn hc hcc hx (hsh _ _ hs) hcs
 |oss0 a h0=>exact .oss0 a fun e=>by rw[hι _ (by simp[V.ids])];exact h0 e
 |oref hi him=>exact .oref (by rw[hι _ (by simp[V.ids])];exact hi) him
 |omap hi=>exact .omap (by rw[hι _ (by simp[V.ids])];exact hi)
 |agg arr hs _ ih=>
  refine .agg arr (by rw[q1e,q19];exact hs) fun j hj=>?_;rw[q1e,q19]at hj;rw[q4z _ _ _ (by rw[q19];exact hj),q4X _ _ _ hj];exact ih j hj fun id hid=>hι id (q3m hj id hid)
 |tup arr hs _ ih=>
  refine .tup arr (by rw[q1e,q19];exact hs) fun j hj=>?_;rw[q1e,q19]at hj;rw[q4z _ _ _ (by rw[q19];exact hj),q4X _ _ _ hj];exact ih j hj fun id hid=>hι id (q3m hj id hid)
 |fn arr hs _ ih=>
  refine .fn arr (by rw[q1e,q19];exact hs) fun j hj=>?_;rw[q1e,q19]at hj;rw[q4z _ _ _ (by rw[q19];exact hj),q4X _ _ _ hj];exact ih j hj fun id hid=>hι id (q3m hj id hid)
 |cnd _ hf ih=>exact .cnd (fun hc=>ih hc hι) hf
theorem qCr {g:G} {s:AS} {a:Act} {w:World} {ι:q1K} {Fr:Nat→Nat→Prop} (h:Rel g s a w ι Fr) {A:Nat→Prop} (hA:∀t b,Fr t b→A b)
  (hO:∀id blk r,lk s.S id=some blk→ι id=some r→A r.1) {c:V} {x:Value} (hc:q0e w Fr ι c x):PRep w A (q8W s.S c) x:=by
 cases hc with
 |atom hv hp=>
  cases hp with
  |int=>exact .int _ _
  |bool=>exact .bool _
  |str=>exact .str _
  |nil=>exact .nil _
  |sl0=>exact .sl0 _ _ _ _
  |sl cv hA' hcap hsz hc hr=>exact(PRep.sl cv hA' hcap hsz hc hr).weaken (hA _)
  |ptr cv hA' hc hr=>exact(PRep.ptr cv hA' hc hr).weaken (hA _)
  |agg=>simp[isP]at hv
  |tup=>simp[isP]at hv
  |fn=>simp[isP]at hv
  |undef=>exact .undef _
 |osl hi hn hc hs hcs=>
  rename_i id n b sz m cap cz e;simp only[q8W];split
  ·rename_i sz' m' f te hl;obtain⟨rfl,rfl,cells,e',hh,hsz,hlen,hr⟩:=(h.own id _ b sz m hl hi).1;refine .sl (sz:=sz') (off:=0) (fun i j=>cells.getD (i*sz'+j) Go.undef) (hO id _ _ hl hi) hc (fun i hin=>hlen i (by omega)) (fun i j hin hj=>?_) (fun i j hin hj=>(hr i j (by omega) hj).weaken (hA _));have e1:i*sz'+sz'=(i+1)*sz':=by rw[Nat.add_mul,Nat.one_mul]
   have e2:(i+1)*sz'≤m'*sz':=Nat.mul_le_mul_right _ (by omega);rw[Nat.zero_add];exact q4Q hh (by omega)
  ·exact .undef _
 |osl0 a0 hi=>
  simp only[q8W];split
  ·exact .sl0 _ _ _ _
  ·exact .undef _
 |oref hi hin=>
  rename_i id i off b sz m;simp only[q8W];split
  ·rename_i sz' m' f te hl;obtain⟨rfl,rfl,cells,e',hh,hsz,hlen,hr⟩:=(h.own id _ b sz m hl hi).1;refine .ptr (base:=i*sz') (fun j=>cells.getD (i*sz'+j) Go.undef) (hO id _ _ hl hi) (fun j hj=>?_) (fun j hj=>(hr i j hin (by rw[←hlen i hin];exact hj)).weaken (hA _));have e1:i*sz'+sz'=(i+1)*sz':=by rw[Nat.add_mul,Nat.one_mul]
   have e2:(i+1)*sz'≤m'*sz':=Nat.mul_le_mul_right _ (by omega);rw[hlen i hin]at hj;exact q4Q hh (by omega)
  ·exact .undef _
 |omap=>exact .undef _
 |oss=>exact .undef _
 |oss0=>exact .undef _
 |agg=>exact .undef _
 |tup=>exact .undef _
 |fn=>exact .undef _
 |cnd=>exact .undef _
theorem q4E:∀(a b:List (Nat×Option Blk)) (S:List (Nat×Blk)),q0Y S (a++b)=q0Y (q0Y S a) b
 |[],_,_=>rfl
 |(id,some x)::r,b,S=>by simp only[List.cons_append,q0Y];exact q4E r b _
 |(id,none)::r,b,S=>by simp only[List.cons_append,q0Y];exact q4E r b _
theorem qHK (d:Nat):∀(bs:List Blk) (k:Nat) (S:List (Nat×Blk)) (id:Nat),
  lk (q0Y S (q9C d k bs)) id=if q4h d+k≤id∧id<q4h d+k+bs.length then bs[id-(q4h d+k)]? else lk S id
 |[],k,S,id=>by
  have:¬(q4h d+k≤id∧id<q4h d+k+([]:List Blk).length):=by simp
  rw[if_neg this];rfl
 |b::r,k,S,id=>by
  rw[q9C,q0Y,qHK d r (k+1),q1i];simp only[List.length_cons];by_cases h1:id=q4h d+k
  ·subst h1;rw[if_neg (by omega),if_pos rfl,if_pos (by omega)];simp
  ·by_cases h2:q4h d+(k+1)≤id∧id<q4h d+(k+1)+r.length
   ·rw[if_pos h2,if_pos (by omega)];have:id-(q4h d+k)=(id-(q4h d+(k+1)))+1:=by omega
    rw[this];simp
   ·rw[if_neg h2,if_neg h1,if_neg (by omega)]
theorem qFA (f:Nat→Nat) (d:Nat):∀(ids:List Nat) (bs:List Blk) (S:List (Nat×Blk)),ids.Nodup→ids.length≤bs.length→
  (∀j b,j<ids.length→bs[j]?=some b→lk (q0Y S (q8J f d ids bs)) (ids.getD j 0)=some ((b.ren f).retag d))∧∀id,id∉ids→lk (q0Y S (q8J f d ids bs)) id=lk S id
 |[],bs,S,_,_=>⟨fun j b h=>by simp at h,fun id _=>by cases bs<;>rfl⟩
 |k::r,b::q,S,hn,hl=>by
  rw[List.nodup_cons]at hn;obtain⟨ih1,ih2⟩:=qFA f d r q (put S k ((b.ren f).retag d)) hn.2 (by simpa using hl);rw[q8J,q0Y];refine⟨fun j c hj hc=>?_,fun id hid=>?_⟩
  ·cases j with
   |zero=>
    simp only[List.getElem?_cons_zero,Option.some.injEq]at hc;subst hc;rw[List.getD_cons_zero,ih2 k hn.1,q1i,if_pos rfl]
   |succ j=>
    rw[List.getD_cons_succ];exact ih1 j c (by simpa using hj) (by simpa using hc)
  ·simp only[List.mem_cons,not_or]at hid;rw[ih2 id hid.2,q1i,if_neg hid.1]
 |_::_,[],_,_,h=>by simp at h
theorem q4J:∀{ids:List Nat} {j:Nat},ids.Nodup→j<ids.length→qAP (ids.getD j 0) ids=j
 |[],_,_,h=>by simp at h
 |k::r,0,_,_=>by simp[qAP]
 |k::r,j+1,hn,hj=>by
  rw[List.nodup_cons]at hn;have hj':j<r.length:=by simpa using hj
  have hmem:r.getD j 0∈r:=by
   have:r.getD j 0=r[j]:=by simp[List.getD,hj']
   rw[this];exact List.getElem_mem hj'
  have hne:¬k=r.getD j 0:=fun e=>hn.1 (e▸hmem);rw[List.getD_cons_succ,qAP,q1N.2 hne];simp only;rw[q4J hn.2 hj']
theorem q9G:∀(l:List Nat),(q84 l).Nodup∧∀k,k∈q84 l↔k∈l
 |[]=>⟨List.nodup_nil,fun _=>Iff.rfl⟩
 |k::r=>by
  obtain⟨h1,h2⟩:=q9G r;rw[q84];split
  ·rename_i hm;refine⟨h1,fun j=>?_⟩;rw[h2,List.mem_cons];constructor
   ·exact .inr
   ·rintro(rfl|h)
    ·exact q6K.1 hm
    ·exact h
  ·rename_i hm;refine⟨List.nodup_cons.2 ⟨fun hk=>qAJ.1 hm ((h2 k).1 hk),h1⟩,fun j=>?_⟩;rw[List.mem_cons,List.mem_cons,h2]
theorem qAE {ids:List Nat} {id:Nat} (h:id∈ids):∃j,j<ids.length∧ids.getD j 0=id:=by
 obtain⟨j,hj,rfl⟩:=List.mem_iff_getElem.1 h;exact⟨j,hj,by simp[List.getD,hj]⟩
theorem qKo {d t:Nat} (h:2≤t) (hS:t≠q0l):retag d t=d+200:=by
 unfold retag;split
 ·omega
 ·omega
 ·rw[q1N.2 hS]
mutual
theorem qBR {v:V} {w:World} {Fr Fr':Nat→Nat→Prop} {ι:q1K} {x:Value} (hr:q0e w Fr ι v x) (hc:V.closed v=true) (h:∀t b,2≤t→Fr t b→Fr' t b) (hS:∀b,¬Fr q0l b):q0e w Fr' ι v x:=by
 cases hr with
 |atom hv hp=>
  cases hp with
  |int=>exact .atom rfl (.int _ _)
  |bool=>exact .atom rfl (.bool _)
  |str=>exact .atom rfl (.str _)
  |nil=>exact .atom rfl (.nil _)
  |sl0=>exact .atom rfl (.sl0 _ _ _ _)
  |sl cv hA hcap hsz hc' hr=>exact .atom rfl ((PRep.sl cv hA hcap hsz hc' hr).weaken fun b hb=>h _ b (Nat.le_of_ble_eq_true hc) hb)
  |ptr cv hA hc' hr=>exact .atom rfl ((PRep.ptr cv hA hc' hr).weaken fun b hb=>h _ b (Nat.le_of_ble_eq_true hc) hb)
  |agg=>simp[isP]at hv
  |tup=>simp[isP]at hv
  |fn=>simp[isP]at hv
  |undef=>exact .atom rfl (.undef _)
 |osl hi hn hc' hs hcs=>exact .osl hi hn hc' hs hcs
 |osl0 a hi=>exact .osl0 a hi
 |oss hi hn hc' hcc hx hs hcs=>exact .oss hi hn hc' hcc hx hs hcs
 |oss0 a h0=>exact .oss0 a h0
 |oref hi him=>exact .oref hi him
 |omap hi=>exact .omap hi
 |agg arr hs hr=>exact .agg arr hs fun j hj=>closedL_tag (hr j hj) hj hc h hS
 |tup arr hs hr=>exact .tup arr hs fun j hj=>closedL_tag (hr j hj) hj hc h hS
 |fn arr hs hr=>exact .fn arr hs fun j hj=>closedL_tag (hr j hj) hj hc h hS
 |cnd ht hf=>exact .cnd (fun hq=>qBR (ht hq) hc h hS) hf
theorem closedL_tag {cs:List V} {j:Nat} {w:World} {Fr Fr':Nat→Nat→Prop} {ι:q1K} {x:Value} (hr:q0e w Fr ι (cs.getD j .undef) x) (hj:j<cs.length) (hc:V.closedL cs=true) (h:∀t b,2≤t→Fr t b→Fr' t b) (hS:∀b,¬Fr q0l b):q0e w Fr' ι (cs.getD j .undef) x:=by
 match cs,j,hr,hj,hc with
 |c::cs,0,hr,_,hc=>
  simp only[V.closedL,Bool.and_eq_true]at hc;simp only[List.getD_cons_zero]at hr⊢;exact qBR hr hc.1 h hS
 |c::cs,j+1,hr,hj,hc=>
  simp only[V.closedL,Bool.and_eq_true]at hc;simp only[List.getD_cons_succ]at hr⊢;exact closedL_tag hr (by simpa using hj) hc.2 h hS
end
theorem q51 {m:Nat}:∀{l:List Nat},qFo m l=true→∀k∈l,k<m
 |[],_,_,h=>by cases h
 |j::r,h,k,hk=>by
  simp only[qFo,Bool.and_eq_true]at h;rcases List.mem_cons.1 hk with rfl|hk
  ·exact Nat.le_of_ble_eq_true h.1
  ·exact q51 h.2 k hk
theorem q8s {g:G} {s:AS} {a:Act} {w w':World} {ι ι' ιc:q1K} {Fr Fr':Nat→Nat→Prop} (h:Rel g s a w ι Fr) {d:Nat} (hfresh:∀id,id/64=d+1→q17 s id)
  {ids:List Nat} (hnd:ids.Nodup) (hlk:∀id∈ids,∃blk,lk s.S id=some blk) {X0c io N:Nat→Prop} {bout:List Blk} (hE:Ext w w' X0c io N ιc ids.length bout ι' Fr')
  (hNn:∀b,N b→g.New b) (hNo:∀b,N b→(∀t,¬Fr t b)∧∀id blk q,lk s.S id=some blk→ι id=some q→q.1≠b)
  (hιc:∀j,j<ids.length→ιc j=ι (ids.getD j 0)) (hio:∀b,io b→(∃id∈ids,∃r,ι id=some r∧r.1=b)∨N b) (hX:∀b,g.X0 b→X0c b)
  (hlen:ids.length≤bout.length) (hfew:bout.length<63) {r:V} {v:Value} (hrv:q0e w' Fr' ι' r v) (hrl:∀k∈r.ids,k<bout.length) (hbl:∀b∈bout,∀k∈b.ids,k<bout.length)
  (hcl:(∀id blk q,id∉ids→lk s.S id=some blk→ι id=some q→X0c q.1)∨(V.closed r=true∧∀b∈bout,Blk.closed b=true)):
  ∃ι2 Fr2,Rel g { s with S:=q0Y s.S (q8J (nmI d ids) d ids bout++q9C d 0 ((bout.drop ids.length).map fun b=>(b.ren (nmI d ids)).retag d)) } a w' ι2 Fr2∧
   q0e w' Fr2 ι2 ((r.ren (nmI d ids)).tag (retag d)) v:=by
 let Old:Nat→Prop:=fun b=>∃id,id∉ids∧∃blk q,lk s.S id=some blk∧ι id=some q∧q.1=b
 let ι2:q1K:=fun id=>if id/64=d+1 then ι' (id-q4h d+ids.length)else ι id
 let Fr2:Nat→Nat→Prop:=fun t b=>Fr t b∨(t=0∧Fr' 0 b∧¬Old b)∨(t=d+200∧∃t',2≤t'∧Fr' t' b)
 have hnoOld:∀t b,2≤t→Fr' t b→¬Old b:=by
  rintro t b h2 hf ⟨id,_,blk,q,hl,hi,rfl⟩;exact(hNo _ (hE.fr2 t _ h2 hf)).2 id blk q hl hi rfl
 have hsite:∀id blk,lk s.S id=some blk→¬id/64=d+1:=by
  intro id blk hl hq;have:=(hfresh id hq).no;rw[hl]at this;cases this
 have hsid:∀j,j<64→(q4h d+j)/64=d+1:=by
  intro j hj;unfold q4h;rw[Nat.mul_add_div (by omega),Nat.div_eq_of_lt hj]
 have hmt:∀t v,lk s.T t=some v→V.ment (fun k=>decide (k/64=d+1)) v=false:=by
  intro t v hv;cases hm:V.ment (fun k=>decide (k/64=d+1)) v with
  |false=>rfl
  |true=>
   exfalso;have key:∀(v:V),V.ment (fun k=>decide (k/64=d+1)) v=true→∃id,id/64=d+1∧V.ment (fun k=>Nat.beq k id) v=true:=by
    intro v;refine V.rec (motive_1:=fun v=>V.ment (fun k=>decide (k/64=d+1)) v=true→∃id,id/64=d+1∧V.ment (fun k=>Nat.beq k id) v=true)
     (motive_2:=fun l=>V.mentL (fun k=>decide (k/64=d+1)) l=true→∃id,id/64=d+1∧V.mentL (fun k=>Nat.beq k id) l=true)
     ?_ ?_ ?_ ?_ ?_ ?_ ?_ ?_ ?_ ?_ ?_ ?_ ?_ ?_ ?_ ?_ ?_ v
    ·intro k n hq;simp[V.ment]at hq
    ·intro b hq;simp[V.ment]at hq
    ·intro s hq;simp[V.ment]at hq
    ·intro hq;simp[V.ment]at hq
    ·intro n g t _ hq;simp[V.ment]at hq
    ·intro cs off t _ hq;simp[V.ment]at hq
    ·intro cs ih hq;exact ih hq
    ·intro cs ih hq;exact ih hq
    ·intro f cs ih hq;exact ih hq
    ·intro id n hq;exact⟨id,by simpa[V.ment]using hq,by simp[V.ment]⟩
    ·intro id lo n c e hq;exact⟨id,by simpa[V.ment]using hq,by simp[V.ment]⟩
    ·intro id i off hq;exact⟨id,by simpa[V.ment]using hq,by simp[V.ment]⟩
    ·intro id hq;exact⟨id,by simpa[V.ment]using hq,by simp[V.ment]⟩
    ·intro c v ih hq;exact ih hq
    ·intro hq;simp[V.ment]at hq
    ·intro hq;simp[V.mentL]at hq
    ·intro c l ih1 ih2 hq;simp only[V.mentL,Bool.or_eq_true]at hq⊢;rcases hq with hq|hq
     ·obtain⟨id,h1,h2⟩:=ih1 hq;exact⟨id,h1,.inl h2⟩
     ·obtain⟨id,h1,h2⟩:=ih2 hq;exact⟨id,h1,.inr h2⟩
   obtain⟨id,h1,h2⟩:=key v hm;have:=(hfresh id h1).T t v hv;rw[h2]at this;cases this
 have hms:∀k blk,lk s.S k=some blk→blk.ment (fun k=>decide (k/64=d+1))=false:=by
  intro k blk hk;cases blk with
  |mp=>rfl
  |arr=>rfl
  |box cs=>
   cases hm:V.mentL (fun k=>decide (k/64=d+1)) cs with
   |false=>exact hm
   |true=>
    exfalso;have key:∀(l:List V),V.mentL (fun k=>decide (k/64=d+1)) l=true→∃id,id/64=d+1∧V.mentL (fun k=>Nat.beq k id) l=true:=by
     intro l;refine V.rec_1 (motive_1:=fun v=>V.ment (fun k=>decide (k/64=d+1)) v=true→∃id,id/64=d+1∧V.ment (fun k=>Nat.beq k id) v=true)
      (motive_2:=fun l=>V.mentL (fun k=>decide (k/64=d+1)) l=true→∃id,id/64=d+1∧V.mentL (fun k=>Nat.beq k id) l=true)
      ?_ ?_ ?_ ?_ ?_ ?_ ?_ ?_ ?_ ?_ ?_ ?_ ?_ ?_ ?_ ?_ ?_ l
     ·intro k n hq;simp[V.ment]at hq
     ·intro b hq;simp[V.ment]at hq
     ·intro s hq;simp[V.ment]at hq
     ·intro hq;simp[V.ment]at hq
     ·intro n g t _ hq;simp[V.ment]at hq
     ·intro cs off t _ hq;simp[V.ment]at hq
     ·intro cs ih hq;exact ih hq
     ·intro cs ih hq;exact ih hq
     ·intro f cs ih hq;exact ih hq
     ·intro id n hq;exact⟨id,by simpa[V.ment]using hq,by simp[V.ment]⟩
     ·intro id lo n c e hq;exact⟨id,by simpa[V.ment]using hq,by simp[V.ment]⟩
     ·intro id i off hq;exact⟨id,by simpa[V.ment]using hq,by simp[V.ment]⟩
     ·intro id hq;exact⟨id,by simpa[V.ment]using hq,by simp[V.ment]⟩
     ·intro c v ih hq;exact ih hq
     ·intro hq;simp[V.ment]at hq
     ·intro hq;simp[V.mentL]at hq
     ·intro c l ih1 ih2 hq;simp only[V.mentL,Bool.or_eq_true]at hq⊢;rcases hq with hq|hq
      ·obtain⟨id,h1,h2⟩:=ih1 hq;exact⟨id,h1,.inl h2⟩
      ·obtain⟨id,h1,h2⟩:=ih2 hq;exact⟨id,h1,.inr h2⟩
    obtain⟨id,h1,h2⟩:=key cs hm;have:=(hfresh id h1).S k _ hk;simp only[Blk.ment]at this;rw[h2]at this;cases this
 have hι2:∀id,decide (id/64=d+1)=false→ι2 id=ι id:=by
  intro id hid;have:¬id/64=d+1:=by simpa using hid
  show(if id/64=d+1 then _ else _)=_;rw[if_neg this]
 have hιid:∀id blk,lk s.S id=some blk→ι2 id=ι id:=fun id blk hl=>hι2 id (by simpa using hsite id blk hl);have hioOwn:∀b,io b→(∃id blk r,lk s.S id=some blk∧ι id=some r∧r.1=b)∨N b:=by
  intro b hb;rcases hio b hb with⟨id,hid,r,hr,rfl⟩|hn
  ·obtain⟨blk,hl⟩:=hlk id hid;exact .inl ⟨id,blk,r,hl,hr,rfl⟩
  ·exact .inr hn
 have hFold:∀t b,Fr t b→Fr2 t b∧w'.heap[b]?=w.heap[b]?:=by
  intro t b hf;refine⟨.inl hf,hE.frame b (h.fr t b hf).1 fun hb=>?_⟩;rcases hioOwn b hb with⟨id,blk,r,hl,hi,hr⟩|hn
  ·exact(h.fr t b hf).2.2 id blk r hl hi hr
  ·exact(hNo b hn).1 t hf
 have hnm:∀k,k<bout.length→ι2 (nmI d ids k)=ι' k:=by
  intro k hk;unfold nmI;cases hb:Nat.blt k ids.length with
  |true=>
   have hk':k<ids.length:=Nat.le_of_ble_eq_true hb;simp only;have hmem:ids.getD k 0∈ids:=by
    have:ids.getD k 0=ids[k]:=by simp[List.getD,hk']
    rw[this];exact List.getElem_mem hk'
   obtain⟨blk,hl⟩:=hlk _ hmem;rw[hιid _ blk hl,hE.same k hk',hιc k hk']
  |false=>
   have hk':¬k<ids.length:=by
    intro h';have:Nat.blt k ids.length=true:=Nat.ble_eq_true_of_le h';rw[hb]at this;cases this
   simp only;show(if(q4h d+(k-ids.length))/64=d+1 then _ else _)=_;rw[if_pos (hsid _ (by omega))];congr 1;omega
 have conv:∀(u:V) (x:Value),q0e w' Fr' ι' u x→(∀k∈u.ids,k<bout.length)→((∀id blk q,id∉ids→lk s.S id=some blk→ι id=some q→X0c q.1)∨V.closed u=true)→
   q0e w' Fr2 ι2 ((u.ren (nmI d ids)).tag (retag d)) x:=by
  intro u x hu hul hcase;have main:∀(F:Nat→Nat→Prop),q0e w' F ι' u x→(∀t b,F t b→Fr2 (retag d t) b)→(∀b,¬F q0l b)→q0e w' Fr2 ι2 ((u.ren (nmI d ids)).tag (retag d)) x:=
   fun F hF h1 h2=>hF.renTag (fun id hid=>hnm id (hul id hid)) (fun t b hb=>⟨h1 t b hb,rfl⟩) h2 (fun _ _ hs=>hs)
  have big:∀t b,2≤t→Fr' t b→Fr2 (retag d t) b:=by
   intro t b h2 hf;have hS:t≠q0l:=fun e=>hE.frS b (e▸hf);rw[qKo h2 hS];exact .inr (.inr ⟨rfl,t,h2,hf⟩)
  rcases hcase with hx|hc
  ·refine main Fr' hu (fun t b hf=>?_) hE.frS;rcases Nat.lt_or_ge t 2 with h2|h2
   ·have e1:retag d t=0:=by
     match t,h2 with
     |0,_=>rfl
     |1,_=>rfl
    rw[e1];refine .inr (.inl ⟨rfl,hE.fr0 t b hf,?_⟩);rintro⟨id,hid,blk,q,hl,hi,rfl⟩;exact(hE.fr t _ hf).2.1 (hx id blk q hid hl hi)
   ·exact big t b h2 hf
  ·exact main (fun t b=>2≤t∧Fr' t b) (qBR hu hc (fun t b h2 hf=>⟨h2,hf⟩) hE.frS) (fun t b hf=>big t b hf.1 hf.2) (fun b hf=>hE.frS b hf.2)
 have convB:∀(id:Nat) (blk:Blk) (b sz m:Nat),bout[id]?=some blk→ι' id=some (b,sz,m)→qAT w' Fr2 ι2 b sz m ((blk.ren (nmI d ids)).retag d):=by
  intro id blk b sz m hb hi;have ho:=(hE.own id blk b sz m hb hi).1;have hmem:blk∈bout:=List.mem_of_getElem? hb;cases blk with
  |mp=>exact ho
  |arr sz' n f te=>
   obtain⟨q1,q2,cells,e,q3,q4,q5,q6⟩:=ho;refine⟨q1,q2,cells,e,q3,q4,q5,fun i j hi' hj=>(q6 i j hi' hj).weaken fun k hk=>?_⟩;rcases Nat.lt_or_ge te 2 with h2|h2
   ·have e1:retag d te=0:=by
     match te,h2 with
     |0,_=>rfl
     |1,_=>rfl
    rw[e1];refine .inr (.inl ⟨rfl,hE.fr0 te k hk,?_⟩);rintro⟨id',hid',blk',q,hl',hi2,rfl⟩;rcases hcl with hx|⟨_,hc⟩
    ·exact(hE.fr te _ hk).2.1 (hx id' blk' q hid' hl' hi2)
    ·have:=hc _ hmem;have:2≤te:=Nat.le_of_ble_eq_true this;omega
   ·have hS:te≠q0l:=fun e=>hE.frS k (e▸hk);rw[qKo h2 hS];exact .inr (.inr ⟨rfl,te,h2,hk⟩)
  |box cs=>
   obtain⟨cells,e,q3,q4,q6⟩:=ho;refine⟨cells,e,q3,by rw[q1e,q19];exact q4,fun j hj=>?_⟩;rw[q1e,q19]at hj;rw[q4z _ _ _ (by rw[q19];exact hj),q4X _ _ _ hj];refine conv _ _ (q6 j hj) (fun k hk=>hbl _ hmem k (q3m hj k hk)) ?_
   rcases hcl with hx|⟨_,hc⟩
   ·exact .inl hx
   ·right;have:=hc _ hmem;simp only[Blk.closed]at this;have key:∀(l:List V) (j:Nat),V.closedL l=true→j<l.length→V.closed (l.getD j .undef)=true:=by
     intro l;induction l with
     |nil=>intro j _ h;simp at h
     |cons c l ih=>
      intro j hq hj;simp only[V.closedL,Bool.and_eq_true]at hq;cases j with
      |zero=>simpa using hq.1
      |succ j=>simpa using ih j hq.2 (by simpa using hj)
    exact key cs j this hj
 have hback:=qFA (nmI d ids) d ids bout s.S hnd hlen;let S2:=q0Y s.S (q8J (nmI d ids) d ids bout++q9C d 0 ((bout.drop ids.length).map fun b=>(b.ren (nmI d ids)).retag d))
 have hS2:∀id blk,lk S2 id=some blk→(∃k c,k<bout.length∧bout[k]?=some c∧id=nmI d ids k∧blk=(c.ren (nmI d ids)).retag d)∨(id∉ids∧lk s.S id=some blk):=by
  intro id blk hq;show _∨_;have hq':lk (q0Y (q0Y s.S (q8J (nmI d ids) d ids bout)) (q9C d 0 ((bout.drop ids.length).map fun b=>(b.ren (nmI d ids)).retag d))) id=some blk:=by
   rw[←q4E];exact hq
  rw[qHK]at hq';split at hq'
  ·rename_i hr;simp only[List.length_map,List.length_drop,Nat.add_zero]at hr hq';rw[List.getElem?_map,List.getElem?_drop]at hq';cases hc:bout[ids.length+(id-q4h d)]? with
   |none=>rw[hc]at hq';simp at hq'
   |some c=>
    rw[hc]at hq';simp only[Option.map_some,Option.some.injEq]at hq';have hk:=(List.getElem?_eq_some_iff.1 hc).1;refine .inl ⟨_,c,hk,hc,?_,hq'.symm⟩;unfold nmI;have:Nat.blt (ids.length+(id-q4h d)) ids.length=false:=by
     cases hb:Nat.blt (ids.length+(id-q4h d)) ids.length with
     |false=>rfl
     |true=>have:ids.length+(id-q4h d)+1≤ids.length:=Nat.le_of_ble_eq_true hb;omega
    rw[this];simp only;omega
  ·by_cases hid:id∈ids
   ·obtain⟨j,hj,rfl⟩:=qAE hid;have hjb:j<bout.length:=by omega
    have hbj:bout[j]?=some bout[j]:=List.getElem?_eq_getElem hjb;rw[hback.1 j _ hj hbj]at hq';simp only[Option.some.injEq]at hq';refine .inl ⟨j,_,hjb,hbj,?_,hq'.symm⟩;unfold nmI;have:Nat.blt j ids.length=true:=Nat.ble_eq_true_of_le hj;rw[this]
   ·rw[hback.2 id hid]at hq';exact .inr ⟨hid,hq'⟩
 have hnmInj:∀k k',k<bout.length→k'<bout.length→nmI d ids k=nmI d ids k'→k=k':=by
  have split:∀k,k<bout.length→(k<ids.length∧nmI d ids k=ids.getD k 0∧¬nmI d ids k/64=d+1)∨(ids.length≤k∧nmI d ids k=q4h d+(k-ids.length)∧nmI d ids k/64=d+1):=by
   intro k hk;unfold nmI;cases hb:Nat.blt k ids.length with
   |true=>
    have hk':k<ids.length:=Nat.le_of_ble_eq_true hb;have hmem:ids.getD k 0∈ids:=by
     have:ids.getD k 0=ids[k]:=by simp[List.getD,hk']
     rw[this];exact List.getElem_mem hk'
    obtain⟨blk,hl⟩:=hlk _ hmem;exact .inl ⟨hk',rfl,hsite _ blk hl⟩
   |false=>
    have hk':¬k<ids.length:=by
     intro h';have:Nat.blt k ids.length=true:=Nat.ble_eq_true_of_le h';rw[hb]at this;cases this
    exact .inr ⟨by omega,rfl,hsid _ (by omega)⟩
  intro k k' hk hk' he;rcases split k hk with⟨h1,h2,h3⟩|⟨h1,h2,h3⟩<;>rcases split k' hk' with⟨h4,h5,h6⟩|⟨h4,h5,h6⟩
  ·rw[h2,h5]at he;have e1:=q4J hnd h1;have e2:=q4J hnd h4;rw[he,e2]at e1;exact e1.symm
  ·rw[he]at h3;exact absurd h6 h3
  ·rw[he]at h3;exact absurd h3 h6
  ·rw[h2,h5]at he;omega
 refine⟨ι2,Fr2,?_,conv r v hrv hrl (by rcases hcl with hx|⟨hc,_⟩;exact .inl hx;exact .inr hc)⟩;have hoa:∀id blk b sz m,id∉ids→lk s.S id=some blk→ι id=some (b,sz,m)→b<w.heap.size∧¬io b:=by
  intro id blk b sz m hid hl hi;refine⟨(h.own id blk b sz m hl hi).1.lt,fun hb=>?_⟩;rcases hio b hb with⟨id',hid',r',hr',e1⟩|hn
  ·obtain⟨blk',hl'⟩:=hlk id' hid';have:=h.inj id id' blk blk' _ r' hl hl' hi hr' e1.symm;exact hid (this▸hid')
  ·exact(hNo b hn).2 id blk _ hl hi rfl
 exact
  {h with
   tmp:=fun t u hu=>(h.tmp t u hu).mono (p:=fun k=>decide (k/64=d+1)) hFold hι2 (hmt t u hu) (fun _ r e _ _ hs=>hE.shape r.1 e hs)
   own:=fun id blk b sz m hl hi=>by
    rcases hS2 id blk hl with⟨k,c,hk,hc,rfl,rfl⟩|⟨hid,hl'⟩
    ·rw[hnm k hk]at hi;refine⟨convB k c b sz m hc hi,?_⟩;rcases(hE.own k c b sz m hc hi).2 with h1|⟨h1,h2⟩
     ·exact .inl (hNn b h1)
     ·have hkm:ids.getD k 0∈ids:=by
       have:ids.getD k 0=ids[k]:=by simp[List.getD,h2]
       rw[this];exact List.getElem_mem h2
      obtain⟨blk',hl'⟩:=hlk _ hkm;rw[hE.same k h2,hιc k h2]at hi;have:=(h.own _ blk' b sz m hl' hi).2;have e1:nmI d ids k=ids.getD k 0:=by
       unfold nmI;have:Nat.blt k ids.length=true:=Nat.ble_eq_true_of_le h2;rw[this]
      rw[e1];exact this
    ·rw[hιid id blk hl']at hi;obtain⟨h1,h2⟩:=h.own id blk b sz m hl' hi;obtain⟨h3,h4⟩:=hoa id blk b sz m hid hl' hi;exact⟨h1.mono (p:=fun k=>decide (k/64=d+1)) (hE.frame b h3 h4) hFold hι2 (hms id blk hl') (fun _ r e _ _ hs=>hE.shape r.1 e hs),h2⟩
   nob:=fun id blk hl hi=>by
    rcases hS2 id blk hl with⟨k,c,hk,hc,rfl,rfl⟩|⟨hid,hl'⟩
    ·rw[hnm k hk]at hi;obtain⟨sz,f,te,rfl⟩:=hE.nob k c hc hi;exact⟨sz,f,_,rfl⟩
    ·rw[hιid id blk hl']at hi;exact h.nob id blk hl' hi
   inj:=fun id id' blk blk' r1 r2 h1 h2 h3 h4 h5=>by
    rcases hS2 id blk h1 with⟨k,c,hk,hc,rfl,rfl⟩|⟨hid,hl⟩<;>rcases hS2 id' blk' h2 with⟨k',c',hk',hc',rfl,rfl⟩|⟨hid',hl'⟩
    ·rw[hnm k hk]at h3;rw[hnm k' hk']at h4;rw[hE.inj k k' c c' r1 r2 hc hc' h3 h4 h5]
    ·rw[hnm k hk]at h3;rw[hιid _ _ hl']at h4;obtain⟨b,sz,m⟩:=r1;obtain⟨b',sz',m'⟩:=r2;simp only at h5;subst h5;obtain⟨q1,q2⟩:=hoa _ _ _ _ _ hid' hl' h4;rcases(hE.own k c b sz m hc h3).2 with q3|⟨q3,_⟩
     ·exact absurd rfl ((hNo b q3).2 _ _ _ hl' h4)
     ·exact absurd q3 q2
    ·rw[hnm k' hk']at h4;rw[hιid _ _ hl]at h3;obtain⟨b,sz,m⟩:=r1;obtain⟨b',sz',m'⟩:=r2;simp only at h5;subst h5;obtain⟨q1,q2⟩:=hoa _ _ _ _ _ hid hl h3;rcases(hE.own k' c' b sz' m' hc' h4).2 with q3|⟨q3,_⟩
     ·exact absurd rfl ((hNo b q3).2 _ _ _ hl h3)
     ·exact absurd q3 q2
    ·rw[hιid _ _ hl]at h3;rw[hιid _ _ hl']at h4;exact h.inj id id' blk blk' r1 r2 hl hl' h3 h4 h5
   fr:=fun t b hf=>by
    have hnew:∀k c q,bout[k]?=some c→ι' k=some q→q.1=b→N b∨io b:=by
     rintro k c ⟨b',sz,m⟩ hc hi rfl;rcases(hE.own k c b' sz m hc hi).2 with q|⟨q,_⟩
     ·exact .inl q
     ·exact .inr q
    rcases hf with hf|⟨rfl,hf,hno⟩|⟨rfl,t',h2,hf⟩
    ·refine⟨Nat.lt_of_lt_of_le (h.fr t b hf).1 hE.hsize,(h.fr t b hf).2.1,fun id blk q hl hi e1=>?_⟩;rcases hS2 id blk hl with⟨k,c,hk,hc,rfl,rfl⟩|⟨hid,hl'⟩
     ·rw[hnm k hk]at hi;rcases hnew k c q hc hi e1 with q1|q1
      ·exact(hNo b q1).1 t hf
      ·rcases hioOwn b q1 with⟨id,blk,r,hl,hi,hr⟩|hn
       ·exact(h.fr t b hf).2.2 id blk r hl hi hr
       ·exact(hNo b hn).1 t hf
     ·rw[hιid id blk hl']at hi;exact(h.fr t b hf).2.2 id blk q hl' hi e1
    ·refine⟨(hE.fr 0 b hf).1,fun hx=>(hE.fr 0 b hf).2.1 (hX b hx),fun id blk q hl hi e1=>?_⟩;rcases hS2 id blk hl with⟨k,c,hk,hc,rfl,rfl⟩|⟨hid,hl'⟩
     ·rw[hnm k hk]at hi;exact(hE.fr 0 b hf).2.2 k c q hc hi e1
     ·rw[hιid id blk hl']at hi;exact hno ⟨id,hid,blk,q,hl',hi,e1⟩
    ·refine⟨(hE.fr t' b hf).1,fun hx=>(hE.fr t' b hf).2.1 (hX b hx),fun id blk q hl hi e1=>?_⟩;rcases hS2 id blk hl with⟨k,c,hk,hc,rfl,rfl⟩|⟨hid,hl'⟩
     ·rw[hnm k hk]at hi;exact(hE.fr t' b hf).2.2 k c q hc hi e1
     ·rw[hιid id blk hl']at hi;exact hnoOld t' b h2 hf ⟨id,hid,blk,q,hl',hi,e1⟩
   frS:=fun b hf=>by
    rcases hf with hf|⟨e1,_⟩|⟨e1,_⟩
    ·exact h.frS b hf
    ·exact absurd e1 (by decide)
    ·have:q0l=100:=rfl;omega
   fr0:=fun t b hf=>by
    rcases hf with hf|⟨rfl,hf,hno⟩|⟨rfl,t',h2,hf⟩
    ·exact .inl (h.fr0 t b hf)
    ·exact .inr (.inl ⟨rfl,hf,hno⟩)
    ·exact .inr (.inl ⟨rfl,hE.fr0 t' b hf,hnoOld t' b h2 hf⟩)
   fr2:=fun t b h2 hf=>by
    rcases hf with hf|⟨rfl,_⟩|⟨rfl,t',h2',hf⟩
    ·exact h.fr2 t b h2 hf
    ·omega
    ·exact hNn b (hE.fr2 t' b h2' hf)
   fr1:=fun b hf=>by
    rcases hf with hf|⟨e1,_⟩|⟨e1,_⟩
    ·exact h.fr1 b hf
    ·exact absurd e1 (by decide)
    ·omega
   cl:=fun t b h2 hf=>by
    rcases hf with hf|⟨e1,_⟩|⟨_,t',h2',hf⟩
    ·rw[(hFold t b hf).2];exact h.cl t b h2 hf
    ·omega
    ·exact hE.cl t' b h2' hf
   low:=fun id hid=>by
    rw[hι2 id (by
     have:¬id/64=d+1:=by omega
     simpa using this)]
    exact h.low id hid
   os:=hE.os.trans h.os
   tape:=hE.tape.trans h.tape
   output:=hE.output.trans h.output
   hsize:=Nat.le_trans h.hsize hE.hsize
   frame:=fun b hlt hno=>by
    refine(hE.frame b (Nat.lt_of_lt_of_le hlt h.hsize) fun hb=>?_).trans (h.frame b hlt hno);have hnew:¬g.New b:=fun hq=>by
     rcases hq with hq|hq
     ·omega
     ·exact hno (h.mvio b hq)
    rcases hioOwn b hb with⟨id,blk,⟨b',sz,m⟩,hl,hi,rfl⟩|hn
    ·rcases(h.own id blk b' sz m hl hi).2 with q|⟨q,_⟩
     ·exact hnew q
     ·exact hno q
    ·exact hnew (hNn b hn)
   shape:=fun b e he=>hE.shape b e (h.shape b e he) }
theorem qJa (S:List (Nat×Blk)) (c:V):isP (q8W S c)=true∧(q2D (q8W S c)=none∨q2D (q8W S c)=some 1):=by
 cases c<;>simp only[q8W]<;>first|exact⟨rfl,.inl rfl⟩|exact⟨rfl,.inr rfl⟩|skip
 ·split
  ·exact⟨rfl,.inr rfl⟩
  ·exact⟨rfl,.inl rfl⟩
 ·split
  ·exact⟨rfl,.inr rfl⟩
  ·exact⟨rfl,.inl rfl⟩
theorem qDA (S:List (Nat×Blk)) (c:V):isP (q74 S c)=true∧(q2D (q74 S c)=none∨q2D (q74 S c)=some 1):=by
 by_cases hor:∃id i off,c=.oref id i off
 ·obtain⟨id,i,off,rfl⟩:=hor;simp only[q74];split
  ·exact⟨rfl,.inr rfl⟩
  ·split
   ·exact⟨rfl,.inr rfl⟩
   ·exact⟨rfl,.inl rfl⟩
  ·exact⟨rfl,.inl rfl⟩
 ·have:q74 S c=q8W S c:=by
   cases c<;>first|rfl|exact absurd ⟨_,_,_,rfl⟩ hor
  rw[this];exact qJa S c
theorem q0e.ofShape {w:World} {Fr:Nat→Nat→Prop} {ι:q1K} {v:V} {x:Value} (hp:PRep w (Fr 1) v x) (h:isP v=true∧(q2D v=none∨q2D v=some 1)):q0e w Fr ι v x:=by
 obtain⟨h1,h2⟩:=h;rcases h2 with h2|h2
 ·cases hp with
  |int=>exact .atom rfl (.int _ _)
  |bool=>exact .atom rfl (.bool _)
  |str=>exact .atom rfl (.str _)
  |nil=>exact .atom rfl (.nil _)
  |sl0=>exact .atom rfl (.sl0 _ _ _ _)
  |sl=>simp[q2D]at h2
  |ptr=>simp[q2D]at h2
  |agg=>simp[isP]at h1
  |tup=>simp[isP]at h1
  |fn=>simp[isP]at h1
  |undef=>exact .atom rfl (.undef _)
 ·refine .atom h1 ?_;unfold qUo;rw[h2];exact hp
theorem qOy {w:World} {ι:q1K} {Fr:Nat→Nat→Prop} {A:Nat→Prop} (hA:∀t b,Fr t b→A b) {c:V} {x:Value} (hc:q0e w Fr ι c x):PRep w A (qZu c) x:=by
 cases hc with
 |atom hv hp=>
  cases hp with
  |int=>exact .int _ _
  |bool=>exact .bool _
  |str=>exact .str _
  |nil=>exact .nil _
  |sl0=>exact .sl0 _ _ _ _
  |sl cv hA' hcap hsz hc hr=>exact(PRep.sl cv hA' hcap hsz hc hr).weaken (hA _)
  |ptr cv hA' hc hr=>exact(PRep.ptr cv hA' hc hr).weaken (hA _)
  |agg=>simp[isP]at hv
  |tup=>simp[isP]at hv
  |fn=>simp[isP]at hv
  |undef=>exact .undef _
 |osl=>exact .undef _
 |osl0=>exact .undef _
 |oref=>exact .undef _
 |omap=>exact .undef _
 |oss=>exact .undef _
 |oss0=>exact .undef _
 |agg=>exact .undef _
 |tup=>exact .undef _
 |fn=>exact .undef _
 |cnd=>exact .undef _
theorem qQY {g:G} {s:AS} {a:Act} {w:World} {ι:q1K} {Fr:Nat→Nat→Prop} (h:Rel g s a w ι Fr) {A:Nat→Prop} (hA:∀t b,Fr t b→A b)
  (hO:∀id blk r,lk s.S id=some blk→ι id=some r→A r.1) {c:V} {x:Value} (hc:q0e w Fr ι c x):PRep w A (qS5 s.S c) x:=by
 cases c with
 |fn f cs=>
  cases hc with
  |atom hv _=>simp[isP]at hv
  |fn arr hs hr=>
   refine .fn arr (by rw[List.length_map];exact hs) fun j hj=>?_;have hj':j<cs.length:=by simpa using hj
   rw[q40 hj'];exact qOy hA (hr j hj')
 |_=>exact qCr h hA hO hc
theorem qHy {g:G} {s:AS} {a:Act} {w:World} {ι:q1K} {Fr:Nat→Nat→Prop} (h:Rel g s a w ι Fr) {A:Nat→Prop} (hA:∀t b,Fr t b→A b) {c:V} {x:Value}
  (hO:(∀id blk r,lk s.S id=some blk→ι id=some r→A r.1)∨c.ids=[]) (hc:q0e w Fr ι c x):PRep w A (q74 s.S c) x:=by
 rcases hO with hO|hno
 ·by_cases hor:∃id i off,c=.oref id i off
  ·obtain⟨id,i,off,rfl⟩:=hor;cases hl:lk s.S id with
   |none=>simp only[q74,hl];exact .undef _
   |some blk=>
    cases blk with
    |mp=>simp only[q74,hl];exact .undef _
    |arr sz n f te=>
     have:=qCr h hA hO hc;simp only[q8W,hl]at this;simp only[q74,hl];exact this
    |box cs=>
     simp only[q74,hl];cases i with
     |succ i=>exact .undef _
     |zero=>
      cases hc with
      |atom hv _=>simp[isP]at hv
      | @oref _ _ _ b sz m hi him=>
       obtain⟨cells,e,hh,hsz,hr⟩:=(h.own id _ b sz m hl hi).1;have e1:(⟨b,0*sz+off,none⟩:Addr)=⟨b,0+off,none⟩:=by simp
       rw[e1];refine .ptr (base:=0) (fun j=>cells.getD j Go.undef) (hO id _ _ hl hi) (fun j hj=>?_) (fun j hj=>?_)
       ·rw[Nat.zero_add];exact q4Q hh (by simpa[hsz]using hj)
       ·have hj':j<cs.length:=by simpa using hj
        rw[q40 hj'];exact qQY h hA hO (hr j hj')
  ·have:q74 s.S c=q8W s.S c:=by
    cases c<;>first|rfl|exact absurd ⟨_,_,_,rfl⟩ hor
   rw[this];exact qCr h hA hO hc
 ·cases hc with
  |atom hv hp=>
   cases hp with
   |int=>exact .int _ _
   |bool=>exact .bool _
   |str=>exact .str _
   |nil=>exact .nil _
   |sl0=>exact .sl0 _ _ _ _
   |sl cv hA' hcap hsz hc hr=>exact(PRep.sl cv hA' hcap hsz hc hr).weaken (hA _)
   |ptr cv hA' hc hr=>exact(PRep.ptr cv hA' hc hr).weaken (hA _)
   |agg=>simp[isP]at hv
   |tup=>simp[isP]at hv
   |fn=>simp[isP]at hv
   |undef=>exact .undef _
  |osl=>simp[V.ids]at hno
  |osl0=>simp[V.ids]at hno
  |oref=>simp[V.ids]at hno
  |omap=>exact .undef _
  |oss=>exact .undef _
  |oss0=>exact .undef _
  |agg=>exact .undef _
  |tup=>exact .undef _
  |fn=>exact .undef _
  |cnd=>exact .undef _
theorem qFk {g:G} {s:AS} {a:Act} {w:World} {ι ι':q1K} {Fr Fr':Nat→Nat→Prop} (h:Rel g s a w ι Fr) (hA:∀t b,Fr t b→Fr' 1 b) {c:V} {x:Value}
  (hO:(∀id blk r,lk s.S id=some blk→ι id=some r→Fr' 1 r.1)∨c.ids=[]) (hc:q0e w Fr ι c x):q0e w Fr' ι' (qJv s.S c) x:=by
 have list:∀(cs:List V) (arr:Array Value),((∀id blk r,lk s.S id=some blk→ι id=some r→Fr' 1 r.1)∨V.idsL cs=[])→
   (∀j,j<cs.length→q0e w Fr ι (cs.getD j .undef) (arr.getD j Go.undef))→∀j,j<(cs.map (q74 s.S)).length→q0e w Fr' ι' ((cs.map (q74 s.S)).getD j .undef) (arr.getD j Go.undef):=by
  intro cs arr hO hr j hj;have hj':j<cs.length:=by simpa using hj
  rw[q40 hj'];refine .ofShape (qHy h hA ?_ (hr j hj')) (qDA _ _);rcases hO with hO|hO
  ·exact .inl hO
  ·right;have:=fun id hid=>q3m hj' id hid;rw[hO]at this;exact List.eq_nil_iff_forall_not_mem.2 fun id hid=>by have:=this id hid;cases this
 by_cases hag:∃cs,c=.agg cs
 ·obtain⟨cs,rfl⟩:=hag;obtain⟨arr,rfl,hs,hr⟩:=qB2 hc;exact .agg arr (by simpa using hs) (list cs arr hO hr)
 ·by_cases hfn:∃f cs,c=.fn f cs
  ·obtain⟨f,cs,rfl⟩:=hfn;cases hc with
   |atom hv _=>simp[isP]at hv
   |fn arr hs hr=>exact .fn arr (by simpa using hs) (list cs arr hO hr)
  ·have:qJv s.S c=q74 s.S c:=by
    cases c<;>first|rfl|exact absurd ⟨_,rfl⟩ hag|exact absurd ⟨_,_,rfl⟩ hfn
   rw[this];exact .ofShape (qHy h hA hO hc) (qDA _ _)
theorem qQv {P:Program} {a:Act} {w:World} {o:Oper} {c:Call} {f:Operand} {n:Nat} {capsv:Array Value} (hop:o.op=.call c) (hcal:c.callee=.value f) (hf:a.eval f=.func (.func n) #[] capsv)
  (he:∀vals w,(callFunc n vals).run P w=.ok (.enter n vals) w):(execOp a.eval o).run P w=.ok (.enter n (c.args.map a.eval++capsv)) w:=by
 unfold execOp;rw[hop];simp only[resolve,hcal,Deferred.ofValue,hf,Sem.run_bind,Sem.run_pure,Result.andThen_ok,invoke,Array.empty_append];exact he _ _
theorem qC6 {P:Program} {a:Act} {w:World} {o:Oper} {c:Call} {f:Operand} {n:Nat} {capsv:Array Value} {R:Ending→World→Prop} {next:Act→World→Prop} {Q:Exit→Act→World→Prop}
  (hop:o.op=.call c) (hcal:c.callee=.value f) (hf:a.eval f=.func (.func n) #[] capsv)
  (h:qIm P n (c.args.map a.eval++capsv) w R) (hR:∀e w',R e w'→∃v,e=.returned v∧next (a.put o.dst v) w'):o.wp P a w next Q:=by
 have hx:(execOp a.eval o).run P w=(callFunc n (c.args.map a.eval++capsv)).run P w:=by
  unfold execOp;rw[hop];simp only[resolve,hcal,Deferred.ofValue,hf,Sem.run_bind,Sem.run_pure,Result.andThen_ok,invoke,Array.empty_append]
 unfold Oper.wp;rw[hx];rcases h with⟨he,hc⟩|⟨v,he,hr⟩
 ·rw[he];simp only[Oper.upon];refine hc.mono ?_;intro e w' h;obtain⟨v,rfl,hn⟩:=hR e w' h;exact hn
 ·rw[he];simp only[Oper.upon];obtain⟨v',hv,hn⟩:=hR _ _ hr;cases hv;exact hn
theorem qGc {g:G} {s:AS} {a:Act} {w:World} {ι:q1K} {Fr:Nat→Nat→Prop} {o:Oper} {e:Ef} {x:Value} (hd:q4Z g.nt o=true) (h:Rel g { s with S:=q0Y s.S e.upd } a w ι Fr) (hv:q0e w Fr ι e.v x):
  Rel g (s.app o.dst e) (a.put o.dst x) w ι Fr:=by
 unfold AS.app;cases hdst:o.dst with
 |none=>exact h
 |some d=>
  have hlt:d<g.nt:=by
   unfold q4Z at hd;rw[hdst]at hd;exact Nat.le_of_ble_eq_true hd
  exact h.put hlt hv
theorem qGZ {S:List (Nat×Blk)}:∀{ids:List Nat} {bs:List Blk},qUB S ids=some bs→bs.length=ids.length∧∀j,j<ids.length→lk S (ids.getD j 0)=bs[j]?
 |[],bs,h=>by simp only[qUB,Option.some.injEq]at h;subst h;simp
 |id::r,bs,h=>by
  simp only[qUB]at h;split at h
  ·rename_i b l hb hl;simp only[Option.some.injEq]at h;subst h;obtain⟨h1,h2⟩:=qGZ hl;refine⟨by simp[h1],fun j hj=>?_⟩;cases j with
   |zero=>simpa using hb
   |succ j=>simpa using h2 j (by simpa using hj)
  ·simp at h
theorem q6R:∀{l:List V} {v:V},v∈l→∀{id:Nat},id∈v.ids→id∈V.idsL l
 |[],_,h,_,_=>by simp at h
 |c::r,v,h,id,hid=>by
  simp only[V.idsL,List.mem_append];rcases List.mem_cons.1 h with rfl|h
  ·exact .inl hid
  ·exact .inr (q6R h hid)
theorem qTm {g:G} {s:AS} {a:Act} {w:World} {ι:q1K} {Fr:Nat→Nat→Prop} (h:Rel g s a w ι Fr) {ids:List Nat} (hnd:ids.Nodup) {bin:List Blk} (hbl:bin.length=ids.length)
  (hbj:∀j,j<ids.length→lk s.S (ids.getD j 0)=bin[j]?) (hlk:∀id∈ids,∃blk,lk s.S id=some blk) (hfew:ids.length<64) (hc3:∀b∈bin,∀k∈b.ids,mem k ids=true):
  ∃FrIn,Ent w (fun b=>g.X0 b∨∃id blk q,id∉ids∧lk s.S id=some blk∧ι id=some q∧q.1=b) (fun b=>∃id∈ids,∃r,ι id=some r∧r.1=b) (bin.map fun b=>(b.ren fun id=>qAP id ids).down) (fun k=>ι (ids.getD k 0)) FrIn∧
   ∀(u:V) (x:Value),(∀id∈u.ids,id∈ids)→q0e w Fr ι u x→q0e w FrIn (fun k=>ι (ids.getD k 0)) ((u.ren fun id=>qAP id ids).tag fun _=>1) x:=by
 let io:Nat→Prop:=fun b=>∃id∈ids,∃r,ι id=some r∧r.1=b
 let X0c:Nat→Prop:=fun b=>g.X0 b∨∃id blk q,id∉ids∧lk s.S id=some blk∧ι id=some q∧q.1=b
 let ιc:q1K:=fun k=>ι (ids.getD k 0)
 let FrIn:Nat→Nat→Prop:=fun t b=>(t=0∨t=1)∧b<w.heap.size∧¬X0c b∧¬io b
 have hownlt:∀id blk q,lk s.S id=some blk→ι id=some q→q.1<w.heap.size:=fun id blk q hl hi=>(h.own id blk q.1 q.2.1 q.2.2 hl hi).1.lt;have hFin:∀t b,Fr t b→(¬X0c b∧¬io b):=by
  intro t b hf;constructor
  ·rintro(hx|⟨id,blk,q,_,hl,hi,e1⟩)
   ·exact(h.fr t b hf).2.1 hx
   ·exact(h.fr t b hf).2.2 id blk q hl hi e1
  ·rintro⟨id,hid,r,hr,e1⟩;obtain⟨blk,hl⟩:=hlk id hid;exact(h.fr t b hf).2.2 id blk r hl hr e1
 have hF1:∀t b,Fr t b→FrIn 1 b:=fun t b hf=>⟨.inr rfl,(h.fr t b hf).1,hFin t b hf⟩;have hinn:∀id∈ids,ιc (qAP id ids)=ι id:=by
  intro id hid;obtain⟨j,hj,rfl⟩:=qAE hid;rw[q4J hnd hj]
 have hconv:∀(u:V) (x:Value),(∀id∈u.ids,id∈ids)→q0e w Fr ι u x→q0e w FrIn ιc ((u.ren fun id=>qAP id ids).tag fun _=>1) x:=by
  intro u x hu hr;have h1:q0e w (fun t b=>t≠q0l∧Fr t b) ι u x:=hr.world (fun t b hf=>⟨⟨fun e=>h.frS b (e▸hf),hf⟩,rfl⟩) (fun _ _ hs=>hs);exact h1.renTag (fun id hid=>hinn id (hu id hid)) (fun t b hf=>⟨hF1 t b hf.2,rfl⟩) (fun b hf=>hf.1 rfl) (fun _ _ hs=>hs)
 have hbk:∀k blk,(bin.map fun b=>(b.ren fun id=>qAP id ids).down)[k]?=some blk→∃c,bin[k]?=some c∧k<ids.length∧lk s.S (ids.getD k 0)=some c∧blk=(c.ren fun id=>qAP id ids).down:=by
  intro k blk hb;rw[List.getElem?_map]at hb;cases hc:bin[k]? with
  |none=>rw[hc]at hb;simp at hb
  |some c=>
   rw[hc]at hb;simp only[Option.map_some,Option.some.injEq]at hb;have hk:k<ids.length:=by rw[←hbl];exact(List.getElem?_eq_some_iff.1 hc).1
   exact⟨c,rfl,hk,by rw[hbj k hk,hc],hb.symm⟩
 have hkm:∀k,k<ids.length→ids.getD k 0∈ids:=by
  intro k hk;have:ids.getD k 0=ids[k]:=by simp[List.getD,hk]
  rw[this];exact List.getElem_mem hk
 have hEnt:Ent w X0c io (bin.map fun b=>(b.ren fun id=>qAP id ids).down) ιc FrIn:=
  {own:=fun k blk b sz m hb hi=>by
    obtain⟨c,hc,hk,hl,rfl⟩:=hbk k blk hb;obtain⟨q1,_⟩:=h.own _ c b sz m hl hi;refine⟨?_,_,hkm k hk,_,hi,rfl⟩;cases c with
    |mp=>exact q1
    |arr sz' n f te=>
     obtain⟨e1,e2,cells,el,e3,e4,e5,e6⟩:=q1;refine⟨e1,e2,cells,el,e3,e4,e5,fun i j hi' hj=>(e6 i j hi' hj).weaken fun b' hb'=>?_⟩;have hS2:te≠q0l:=fun e=>h.frS b' (e▸hb');unfold qJu;rw[q1N.2 hS2];exact hF1 te b' hb'
    |box cs=>
     obtain⟨cells,el,e3,e4,e6⟩:=q1;refine⟨cells,el,e3,by rw[q1e,q19];exact e4,fun j hj=>?_⟩;rw[q1e,q19]at hj;rw[q4z _ _ _ (by rw[q19];exact hj),q4X _ _ _ hj];refine hconv _ _ (fun id hid=>?_) (e6 j hj);have hq:=hc3 _ (List.mem_of_getElem? hc) id (q3m hj id hid);exact q6K.1 hq
   nob:=fun k blk hb hi=>by
    obtain⟨c,hc,hk,hl,rfl⟩:=hbk k blk hb;obtain⟨sz,f,te,rfl⟩:=h.nob _ c hl hi;exact⟨sz,f,_,rfl⟩
   inj:=fun k k' blk blk' r r' hb hb' hi hi' e1=>by
    obtain⟨c,hc,hk,hl,rfl⟩:=hbk k blk hb;obtain⟨c',hc',hk',hl',rfl⟩:=hbk k' blk' hb';have:=h.inj _ _ c c' r r' hl hl' hi hi' e1;have e2:=q4J hnd hk;rw[this,q4J hnd hk']at e2;exact e2.symm
   fr:=fun t b hf=>⟨hf.2.1,hf.2.2.1,fun k blk r hb hi e1=>by
    obtain⟨c,hc,hk,hl,rfl⟩:=hbk k blk hb;exact hf.2.2.2 ⟨_,hkm k hk,r,hi,e1⟩⟩
   frS:=fun b hf=>by rcases hf.1 with e|e<;>exact absurd e (by decide)
   fr0:=fun t b hf=>⟨.inl rfl,hf.2⟩
   fr2:=fun t b h2 hf=>by rcases hf.1 with e|e<;>omega
   x0:=fun b hx=>by
    rcases hx with hx|⟨id,blk,q,hid,hl,hi,rfl⟩
    ·refine⟨Nat.lt_of_lt_of_le (h.x0 b hx).1 h.hsize,?_⟩;rintro⟨id,hid,r,hr,rfl⟩;obtain⟨blk,hl⟩:=hlk id hid;obtain⟨q1,q2⟩:=h.x0 _ hx;rcases(h.own id blk r.1 r.2.1 r.2.2 hl hr).2 with q3|⟨q3,_⟩
     ·exact h.newX q3 hx
     ·exact q2 q3
    ·refine⟨hownlt id blk q hl hi,?_⟩;rintro⟨id',hid',r',hr',e1⟩;obtain⟨blk',hl'⟩:=hlk id' hid';have:=h.inj id' id blk' blk r' q hl' hl hr' hi e1;exact hid (this▸hid')
   io0:=fun b hb=>by
    obtain⟨id,hid,r,hr,rfl⟩:=hb;obtain⟨blk,hl⟩:=hlk id hid;exact hownlt id blk r hl hr
   few:=by rw[List.length_map,hbl];omega }
 exact⟨FrIn,hEnt,hconv⟩
theorem q9c {S S':List (Nat×Blk)} {v:V} (h:∀id∈v.ids,lk S' id=lk S id):q8W S' v=q8W S v:=by
 cases v with
 |osl id n=>simp only[q8W];rw[h id (by simp[V.ids])]
 |oref id i off=>simp only[q8W];rw[h id (by simp[V.ids])]
 |_=>rfl
theorem qJP {S S':List (Nat×Blk)} {v:V} (h:∀id∈v.ids,lk S' id=lk S id):qS5 S' v=qS5 S v:=by
 cases v with
 |fn f cs=>rfl
 |osl id n=>exact q9c h
 |oref id i off=>exact q9c h
 |_=>rfl
theorem q7q {S S':List (Nat×Blk)} {v:V} (h:∀id∈v.ids,lk S' id=lk S id) (h2:∀id∈v.ids,∀b,lk S id=some b→∀k∈b.ids,lk S' k=lk S k):q74 S' v=q74 S v:=by
 cases v with
 |osl id n=>exact q9c h
 |oref id i off=>
  simp only[q74];rw[h id (by simp[V.ids])];cases hl:lk S id with
  |none=>rfl
  |some b=>
   cases b with
   |mp=>rfl
   |arr=>rfl
   |box cs=>
    have hb:=h2 id (by simp[V.ids]) _ hl;simp only[];rw[List.map_congr_left fun c hc=>qJP fun k hk=>hb k (q6R hc hk)]
 |_=>rfl
theorem qAz {S S':List (Nat×Blk)} {v:V} (h:∀id∈v.ids,lk S' id=lk S id) (h2:∀id∈v.ids,∀b,lk S id=some b→∀k∈b.ids,lk S' k=lk S k):qJv S' v=qJv S v:=by
 cases v with
 |agg cs=>simp only[qJv];rw[List.map_congr_left fun c hc=>q7q (fun k hk=>h k (q6R hc hk)) fun k hk=>h2 k (q6R hc hk)]
 |fn f cs=>simp only[qJv];rw[List.map_congr_left fun c hc=>q7q (fun k hk=>h k (q6R hc hk)) fun k hk=>h2 k (q6R hc hk)]
 |osl id n=>exact q7q h h2
 |oref id i off=>exact q7q h h2
 |_=>rfl
theorem qJg {K:List Nat}:∀(S:List (Nat×Blk)) (k:Nat),lk (S.filter fun p=>mem p.1 K) k=match mem k K with|true=>lk S k|false=>none
 |[],k=>by cases h:mem k K<;>simp[lk]
 |(j,b)::r,k=>by
  have ih:=qJg (K:=K) r k;cases hj:mem j K with
  |true=>
   simp only[List.filter_cons,hj,if_true,lk];cases hjk:Nat.beq j k with
   |true=>
    have e:=q0y.1 hjk;subst e;rw[hj]
   |false=>exact ih
  |false=>
   simp only[List.filter_cons,hj,Bool.false_eq_true,if_false,lk];cases hjk:Nat.beq j k with
   |true=>
    have e:=q0y.1 hjk;subst e;rw[hj]at ih⊢;exact ih
   |false=>exact ih
theorem qNj {P:Program} {cx:Cx} (hD:q0C P cx.D) {g:G} {s:AS} {a:Act} {w:World} {ι:q1K} {Fr:Nat→Nat→Prop} (h:Rel g s a w ι Fr) {o:Oper} {c:Call} {f:Operand} {n d:Nat} {caps:List V}
  (hop:o.op=.call c) (hcal:c.callee=.value f) (hfv:q1H (q20 s f)=.fn n caps) (hf:q0e w Fr ι (q1H (q20 s f)) (a.eval f)) (hx:∀x∈c.args.toList,q0e w Fr ι (q1H (q20 s x)) (a.eval x))
  (hd:q4Z g.nt o=true) (hfresh:∀id,id/64=d+1→q17 s id) {e:Ef} (he:qMC cx s.S d n (c.args.toList.map (fun x=>q1H (q20 s x))++caps)=some e) (ho:∀p∈e.ob,p):
  q90 P g (s.app o.dst e) a w o:=by
 rw[hfv]at hf;obtain⟨capsv,hcv,hcs,hcr⟩:∃capsv:Array Value,a.eval f=.func (.func n) #[] capsv∧capsv.size=caps.length∧∀j,j<caps.length→q0e w Fr ι (caps.getD j .undef) (capsv.getD j Go.undef):=by
  cases hfe:a.eval f with
  |func fn first cap=>
   rw[hfe]at hf;cases hf with
   |atom hv _=>simp[isP]at hv
   |fn _ hs hr=>exact⟨cap,rfl,hs,hr⟩
  |_=>rw[hfe]at hf;cases hf with|atom hv _=>simp[isP]at hv
 generalize havs:c.args.toList.map (fun x=>q1H (q20 s x))++caps=avs at he;have hvr:(c.args.map a.eval++capsv).size=avs.length∧∀j,j<avs.length→q0e w Fr ι (avs.getD j .undef) ((c.args.map a.eval++capsv).getD j Go.undef):=by
  refine⟨by rw[←havs];simp[hcs],fun j hj=>?_⟩;rw[←havs]at hj⊢;by_cases h1:j<c.args.size
  ·have hmem:c.args[j]∈c.args.toList:=by simp
   have e1:(c.args.toList.map (fun x=>q1H (q20 s x))++caps).getD j .undef=q1H (q20 s c.args[j]):=by
    simp[List.getD,List.getElem?_append,h1]
   have e2:(c.args.map a.eval++capsv).getD j Go.undef=a.eval c.args[j]:=by
    simp[Array.getElem?_append,h1]
   rw[e1,e2];exact hx _ hmem
  ·have hj':j-c.args.size<caps.length:=by simp at hj;omega
   have e1:(c.args.toList.map (fun x=>q1H (q20 s x))++caps).getD j .undef=caps.getD (j-c.args.size) .undef:=by
    simp[List.getD,List.getElem?_append,h1]
   have e2:(c.args.map a.eval++capsv).getD j Go.undef=capsv.getD (j-c.args.size) Go.undef:=by
    simp[Array.getElem?_append,h1]
   rw[e1,e2];exact hcr _ hj'
 have hids:∀j,j<avs.length→∀id∈(avs.getD j .undef).ids,id∈V.idsL avs:=fun j hj id hid=>q3m hj id hid;unfold qMC at he;split at he
 ·
  rename_i D hDf;have hS:q0R P n D:=hD n .ro D hDf;split at he
  case h_2=>simp at he
  case h_1 ob r bs hDe=>
   split at he
   case h_3=>simp at he
   case h_1 hc1 hc2 hc3=>
    simp only[Option.some.injEq]at he;subst he;have hob:=ho ob (List.mem_singleton.2 rfl);simp only[Bool.and_eq_true,Bool.or_eq_true,List.isEmpty_iff,List.all_eq_true]at hc1 hc2;have hfew:bs.length<63:=Nat.le_of_ble_eq_true hc3;let lent:Prop:=V.idsL avs≠[]
    let X0c:Nat→Prop:=fun b=>g.X0 b∨(¬lent∧∃id blk q,lk s.S id=some blk∧ι id=some q∧q.1=b)
    let FrIn:Nat→Nat→Prop:=fun t b=>(t=0∨t=1)∧b<w.heap.size∧¬X0c b
    have hownlt:∀id blk q,lk s.S id=some blk→ι id=some q→q.1<w.heap.size:=fun id blk q hl hi=>(h.own id blk q.1 q.2.1 q.2.2 hl hi).1.lt;have hEnt:Ent w X0c (fun _=>False) [] (fun _=>none) FrIn:=
     {own:=fun id blk b sz m hb=>by simp at hb
      nob:=fun id blk hb=>by simp at hb
      inj:=fun id id' blk blk' r r' hb=>by simp at hb
      fr:=fun t b hf=>⟨hf.2.1,hf.2.2,fun id blk r hb=>by simp at hb⟩
      frS:=fun b hf=>by rcases hf.1 with e|e<;>exact absurd e (by decide)
      fr0:=fun t b hf=>⟨.inl rfl,hf.2⟩
      fr2:=fun t b h2 hf=>by rcases hf.1 with e|e<;>omega
      x0:=fun b hx=>⟨by
       rcases hx with hx|⟨_,id,blk,q,hl,hi,rfl⟩
       ·exact Nat.lt_of_lt_of_le (h.x0 b hx).1 h.hsize
       ·exact hownlt id blk q hl hi,id⟩
      io0:=fun b hb=>hb.elim
      few:=by simp }
    have hargs:=hS.does _ _ ob r bs hDe hob (c.args.map a.eval++capsv) w X0c (fun _=>False) (fun _=>none) FrIn hEnt (by simpa using hvr.1) (fun j hj=>by
     have hj':j<avs.length:=by simpa using hj
     rw[q40 hj'];refine qFk h (fun t b hf=>⟨.inr rfl,(h.fr t b hf).1,?_⟩) ?_ (hvr.2 j hj')
     rotate_left
     ·rintro(hx|⟨_,id,blk,q,hl,hi,e1⟩)
      ·exact(h.fr t b hf).2.1 hx
      ·exact(h.fr t b hf).2.2 id blk q hl hi e1
     ·by_cases hlent:lent
      ·left;intro id blk q hl hi;refine⟨.inr rfl,hownlt id blk q hl hi,?_⟩;rintro(hx|⟨hn,_⟩)
       ·obtain⟨q1,q2⟩:=h.x0 _ hx;rcases(h.own id blk q.1 q.2.1 q.2.2 hl hi).2 with q3|⟨q3,_⟩
        ·exact h.newX q3 hx
        ·exact q2 q3
       ·exact hn hlent
      ·right;have hnil:V.idsL avs=[]:=by simpa[lent]using hlent
       have:=hids j hj';rw[hnil]at this;exact List.eq_nil_iff_forall_not_mem.2 fun id hid=>by have:=this id hid;cases this)
    intro next Q hn
    refine qC6 hop hcal hcv hargs ?_;rintro e' w' ⟨v,ι',Fr',rfl,hrv,hE⟩;refine⟨v,rfl,?_⟩;have hmain:=q8s h hfresh (ids:=[]) List.nodup_nil (fun id hid=>by cases hid) hE (fun b hb=>.inl (Nat.le_trans h.hsize hb))
     (fun b hb=>⟨fun t hf=>by have:=(h.fr t b hf).1;omega,fun id blk q hl hi e=>by have:=hownlt id blk q hl hi;omega⟩) (fun j hj=>by simp at hj) (fun b hb=>hb.elim) (fun b hx=>.inl hx) (by simp) hfew hrv
     (fun k hk=>q51 hc2.1 k hk) (fun b hb k hk=>q51 (hc2.2 b hb) k hk) (by
      by_cases hlent:lent
      ·right;rcases hc1 with hc1|hc1
       ·exact absurd hc1 hlent
       ·exact⟨hc1.1,hc1.2⟩
      ·left;exact fun id blk q _ hl hi=>.inr ⟨hlent,id,blk,q,hl,hi,rfl⟩)
    obtain⟨ι2,Fr2,hR,hV⟩:=hmain;exact hn _ _ ι2 Fr2 (qGc hd hR hV)
   case h_2 hc1 hc2 hc3=>
    simp only[Option.some.injEq]at he;subst he;have hob:=ho ob (List.mem_singleton.2 rfl);simp only[Bool.and_eq_true,List.all_eq_true]at hc2;have hfew:bs.length<63:=Nat.le_of_ble_eq_true hc3;generalize hKE:q3U s.S avs=K;have hKS:∀k blk,lk (q0Y s.S (K.map fun id=>(id,none))) k=some blk→k∉K∧lk s.S k=some blk:=by
     intro k blk hk;rw[q2b]at hk;by_cases e:k∈K
     ·simp[e]at hk
     ·simp only[e,if_false]at hk;exact⟨e,hk⟩
    have hLS:∀k,k∈K→lk (s.S.filter fun p=>mem p.1 K) k=lk s.S k:=by
     intro k hk;rw[qJg,q6K.2 hk]
    have hLS2:∀k blk,lk (s.S.filter fun p=>mem p.1 K) k=some blk→k∈K∧lk s.S k=some blk:=by
     intro k blk hk;rw[qJg]at hk;cases e:mem k K with
     |true=>rw[e]at hk;exact⟨q6K.1 e,hk⟩
     |false=>rw[e]at hk;simp at hk
    have h':Rel g { s with S:=q0Y s.S (K.map fun id=>(id,none)) } a w ι Fr:=h.less (fun _ _ hq=>hq) fun k blk hk=>(hKS k blk hk).2;have hL:Rel g { s with S:=s.S.filter fun p=>mem p.1 K } a w ι Fr:=h.less (fun _ _ hq=>hq) fun k blk hk=>(hLS2 k blk hk).2;have hfresh':∀id,id/64=d+1→q17 { s with S:=q0Y s.S (K.map fun id=>(id,none)) } id:=fun id hid=>
     {ge:=(hfresh id hid).ge
      no:=by
       show lk (q0Y s.S (K.map fun id=>(id,none))) id=none;rw[q2b,(hfresh id hid).no];simp
      T:=(hfresh id hid).T
      S:=fun k blk hk=>(hfresh id hid).S k blk (hKS k blk hk).2 }
    let X0c:Nat→Prop:=fun b=>g.X0 b∨∃id blk q,lk (q0Y s.S (K.map fun id=>(id,none))) id=some blk∧ι id=some q∧q.1=b
    let FrIn:Nat→Nat→Prop:=fun t b=>(t=0∨t=1)∧b<w.heap.size∧¬X0c b
    have hownlt:∀id blk q,lk s.S id=some blk→ι id=some q→q.1<w.heap.size:=fun id blk q hl hi=>(h.own id blk q.1 q.2.1 q.2.2 hl hi).1.lt;have hEnt:Ent w X0c (fun _=>False) [] (fun _=>none) FrIn:=
     {own:=fun id blk b sz m hb=>by simp at hb
      nob:=fun id blk hb=>by simp at hb
      inj:=fun id id' blk blk' r r' hb=>by simp at hb
      fr:=fun t b hf=>⟨hf.2.1,hf.2.2,fun id blk r hb=>by simp at hb⟩
      frS:=fun b hf=>by rcases hf.1 with e|e<;>exact absurd e (by decide)
      fr0:=fun t b hf=>⟨.inl rfl,hf.2⟩
      fr2:=fun t b h2 hf=>by rcases hf.1 with e|e<;>omega
      x0:=fun b hx=>⟨by
       rcases hx with hx|⟨id,blk,q,hl,hi,rfl⟩
       ·exact Nat.lt_of_lt_of_le (h.x0 b hx).1 h.hsize
       ·exact hownlt id blk q (hKS id blk hl).2 hi,id⟩
      io0:=fun b hb=>hb.elim
      few:=by simp }
    have hargs:=hS.does _ _ ob r bs hDe hob (c.args.map a.eval++capsv) w X0c (fun _=>False) (fun _=>none) FrIn hEnt (by simpa using hvr.1) (fun j hj=>by
     have hj':j<avs.length:=by simpa using hj
     rw[q40 hj'];have hin:=hids j hj';have e1:qJv s.S (avs.getD j .undef)=qJv (s.S.filter fun p=>mem p.1 K) (avs.getD j .undef):=by
      refine qAz (fun k hk=>?_) fun k hk b hb k2 hk2=>?_
      ·exact(hLS k (by rw[←hKE];unfold q3U;exact List.mem_append.2 (.inl (hin k hk)))).symm
      ·refine(hLS k2 ?_).symm;rw[hLS k (by rw[←hKE];unfold q3U;exact List.mem_append.2 (.inl (hin k hk)))]at hb;rw[←hKE];unfold q3U;refine List.mem_append.2 (.inr (List.mem_flatMap.2 ⟨k,hin k hk,?_⟩));rw[hb];exact hk2
     rw[e1];refine qFk hL (fun t b hf=>⟨.inr rfl,(h.fr t b hf).1,?_⟩) (.inl fun id blk q hl hi=>?_) (hvr.2 j hj')
     rotate_left
     ·rintro(hx|⟨id,blk,q,hl,hi,e1⟩)
      ·exact(h.fr t b hf).2.1 hx
      ·exact(h.fr t b hf).2.2 id blk q (hKS id blk hl).2 hi e1
     ·obtain⟨hk,hl0⟩:=hLS2 id blk hl;refine⟨.inr rfl,hownlt id blk q hl0 hi,?_⟩;rintro(hx|⟨id2,blk2,q2,hl2,hi2,e2⟩)
      ·obtain⟨q1,q2⟩:=h.x0 _ hx;rcases(h.own id blk q.1 q.2.1 q.2.2 hl0 hi).2 with q3|⟨q3,_⟩
       ·exact h.newX q3 hx
       ·exact q2 q3
      ·obtain⟨hn2,hl3⟩:=hKS id2 blk2 hl2;exact hn2 (h.inj id2 id blk2 blk q2 q hl3 hl0 hi2 hi e2▸hk))
    intro next Q hn
    refine qC6 hop hcal hcv hargs ?_;rintro e' w' ⟨v,ι',Fr',rfl,hrv,hE⟩;refine⟨v,rfl,?_⟩;have hmain:=q8s h' hfresh' (ids:=[]) List.nodup_nil (fun id hid=>by cases hid) hE (fun b hb=>.inl (Nat.le_trans h.hsize hb))
     (fun b hb=>⟨fun t hf=>by have:=(h.fr t b hf).1;omega,fun id blk q hl hi e=>by have:=hownlt id blk q (hKS id blk hl).2 hi;omega⟩) (fun j hj=>by simp at hj) (fun b hb=>hb.elim) (fun b hx=>.inl hx) (by simp) hfew hrv
     (fun k hk=>q51 hc2.1 k hk) (fun b hb k hk=>q51 (hc2.2 b hb) k hk) (.inl fun id blk q _ hl hi=>.inr ⟨id,blk,q,hl,hi,rfl⟩)
    obtain⟨ι2,Fr2,hR,hV⟩:=hmain;refine hn _ _ ι2 Fr2 (qGc hd ?_ hV);rw[q4E];exact hR
 ·
  rename_i D hDf;have hS:q8g P n D:=hD n .mv D hDf;simp only at he;generalize hidsE:q84 (V.idsL (avs.filter qEI))=ids at he;obtain⟨hnd,hmem⟩:=q9G (V.idsL (avs.filter qEI));rw[hidsE]at hnd hmem;split at he
  case h_2=>simp at he
  case h_1 bin hbin=>
   obtain⟨hbl,hbj⟩:=qGZ hbin;split at he
   case h_2=>simp at he
   case h_1 ob r bs hDe=>
    split at he
    case h_2=>simp at he
    case h_1 hc1 hc2 hc3=>
     simp only[Option.some.injEq]at he;subst he;have hob:=ho ob (List.mem_singleton.2 rfl);simp only[Bool.and_eq_true,List.all_eq_true]at hc1 hc2 hc3;have hfew:bs.length<63:=Nat.le_of_ble_eq_true hc1.1;have h64:∀id∈ids,64≤id:=qA1 hc1.2.2;have hf64:ids.length<63:=Nat.le_of_ble_eq_true hc1.2.1;have hlk:∀id∈ids,∃blk,lk s.S id=some blk:=by
      intro id hid;obtain⟨j,hj,rfl⟩:=qAE hid;have:=hbj j hj;rw[List.getElem?_eq_getElem (by omega)]at this;exact⟨_,this⟩
     have hKS:∀k blk,lk (q0Y s.S (ids.map fun id=>(id,none))) k=some blk→k∉ids∧lk s.S k=some blk:=by
      intro k blk hk;rw[q2b]at hk;by_cases e:k∈ids
      ·simp[e]at hk
      ·simp only[e,if_false]at hk;exact⟨e,hk⟩
     have h':Rel g { s with S:=q0Y s.S (ids.map fun id=>(id,none)) } a w ι Fr:=h.less (fun _ _ hq=>hq) fun k blk hk=>(hKS k blk hk).2;have hfresh':∀id,id/64=d+1→q17 { s with S:=q0Y s.S (ids.map fun id=>(id,none)) } id:=fun id hid=>
      {ge:=(hfresh id hid).ge
       no:=by
        show lk (q0Y s.S (ids.map fun id=>(id,none))) id=none;rw[q2b,(hfresh id hid).no];simp
       T:=(hfresh id hid).T
       S:=fun k blk hk=>(hfresh id hid).S k blk (hKS k blk hk).2 }
     have hion:∀b,(∃id∈ids,∃r,ι id=some r∧r.1=b)→g.New b∧(∀t,¬Fr t b)∧∀id blk q,id∉ids→lk s.S id=some blk→ι id=some q→q.1≠b:=by
      rintro b ⟨id,hid,⟨b',sz,m⟩,hi,rfl⟩;obtain⟨blk,hl⟩:=hlk id hid;refine⟨?_,fun t hf=>(h.fr t _ hf).2.2 id blk _ hl hi rfl,fun id2 blk2 q hn hl2 hi2 e=>?_⟩
      ·rcases(h.own id blk b' sz m hl hi).2 with q|⟨_,q⟩
       ·exact q
       ·have:=h64 id hid;omega
      ·have:=h.inj id2 id blk2 blk q _ hl2 hl hi2 hi e;exact hn (this▸hid)
     let io:Nat→Prop:=fun b=>∃id∈ids,∃r,ι id=some r∧r.1=b
     let FrIn:Nat→Nat→Prop:=fun t b=>(t=0∨t=1)∧b<w.heap.size∧¬g.X0 b∧¬io b
     have hownlt:∀id blk q,lk s.S id=some blk→ι id=some q→q.1<w.heap.size:=fun id blk q hl hi=>(h.own id blk q.1 q.2.1 q.2.2 hl hi).1.lt;have hF1:∀t b,Fr t b→FrIn 1 b:=fun t b hf=>⟨.inr rfl,(h.fr t b hf).1,(h.fr t b hf).2.1,fun hq=>(hion b hq).2.1 t hf⟩;have hinn:∀id∈ids,ι (ids.getD (qAP id ids) 0)=ι id:=by
      intro id hid;obtain⟨j,hj,rfl⟩:=qAE hid;rw[q4J hnd hj]
     have hkm:∀k,k<ids.length→ids.getD k 0∈ids:=by
      intro k hk;have:ids.getD k 0=ids[k]:=by simp[List.getD,hk]
      rw[this];exact List.getElem_mem hk
     have hbk:∀k blk,(bin.map Blk.down)[k]?=some blk→∃c,bin[k]?=some c∧k<ids.length∧lk s.S (ids.getD k 0)=some c∧blk=c.down:=by
      intro k blk hb;rw[List.getElem?_map]at hb;cases hc:bin[k]? with
      |none=>rw[hc]at hb;simp at hb
      |some c=>
       rw[hc]at hb;simp only[Option.map_some,Option.some.injEq]at hb;have hk:k<ids.length:=by rw[←hbl];exact(List.getElem?_eq_some_iff.1 hc).1
       exact⟨c,rfl,hk,by rw[hbj k hk,hc],hb.symm⟩
     have hEnt:Ent w g.X0 io (bin.map Blk.down) (fun k=>ι (ids.getD k 0)) FrIn:=
      {own:=fun k blk b sz m hb hi=>by
        obtain⟨c,hc,hk,hl,rfl⟩:=hbk k blk hb;obtain⟨q1,_⟩:=h.own _ c b sz m hl hi;refine⟨?_,_,hkm k hk,_,hi,rfl⟩;cases c with
        |mp=>exact q1
        |arr sz' n f te=>
         obtain⟨e1,e2,cells,el,e3,e4,e5,e6⟩:=q1;refine⟨e1,e2,cells,el,e3,e4,e5,fun i j hi' hj=>(e6 i j hi' hj).weaken fun b' hb'=>?_⟩;have hS2:te≠q0l:=fun e=>h.frS b' (e▸hb');unfold qJu;rw[q1N.2 hS2];exact hF1 te b' hb'
        |box cs=>have:=hc3.1 _ (List.mem_of_getElem? hc);simp[qF6]at this
       nob:=fun k blk hb hi=>by
        obtain⟨c,hc,hk,hl,rfl⟩:=hbk k blk hb;obtain⟨sz,f,te,rfl⟩:=h.nob _ c hl hi;exact⟨sz,f,_,rfl⟩
       inj:=fun k k' blk blk' r r' hb hb' hi hi' e1=>by
        obtain⟨c,hc,hk,hl,rfl⟩:=hbk k blk hb;obtain⟨c',hc',hk',hl',rfl⟩:=hbk k' blk' hb';have:=h.inj _ _ c c' r r' hl hl' hi hi' e1;have e2:=q4J hnd hk;rw[this,q4J hnd hk']at e2;exact e2.symm
       fr:=fun t b hf=>⟨hf.2.1,hf.2.2.1,fun k blk r hb hi e1=>by
        obtain⟨c,hc,hk,hl,rfl⟩:=hbk k blk hb;exact hf.2.2.2 ⟨_,hkm k hk,r,hi,e1⟩⟩
       frS:=fun b hf=>by rcases hf.1 with e|e<;>exact absurd e (by decide)
       fr0:=fun t b hf=>⟨.inl rfl,hf.2⟩
       fr2:=fun t b h2 hf=>by rcases hf.1 with e|e<;>omega
       x0:=fun b hx=>⟨Nat.lt_of_lt_of_le (h.x0 b hx).1 h.hsize,fun hq=>h.newX (hion b hq).1 hx⟩
       io0:=fun b hb=>by
        obtain⟨id,hid,r,hr,rfl⟩:=hb;obtain⟨blk,hl⟩:=hlk id hid;exact hownlt id blk r hl hr
       few:=by rw[List.length_map,hbl];omega }
     have hargs:=hS.does _ _ ob r bs hDe hob (c.args.map a.eval++capsv) w g.X0 io _ FrIn hEnt (fun t b hf=>hf.2.2.2) (by simpa using hvr.1) (fun j hj=>by
      have hj':j<avs.length:=by simpa using hj
      rw[q40 hj'];have hr:=hvr.2 j hj';have hin:qEI (avs.getD j .undef)=true→∀id∈(avs.getD j .undef).ids,id∈ids:=fun hq id hid=>(hmem id).2 (q6R (List.mem_filter.2 ⟨by simp[hj'],hq⟩) hid);generalize avs.getD j .undef=v at hr hin;generalize (c.args.map a.eval++capsv).getD j Go.undef=x at hr;by_cases hov:∃id k,v=.osl id k
      ·obtain⟨id,k,rfl⟩:=hov;have hid:=hin rfl id (by simp[V.ids]);cases hr with
       |atom hv _=>simp[isP]at hv
       |osl hi hn hc hs hcs=>exact .osl (by rw[hinn id hid];exact hi) hn hc hs hcs
       |osl0 ad hi=>exact .osl0 ad (by rw[hinn id hid];exact hi)
      ·have e1:mvA (q0Y s.S (ids.map fun id=>(id,none))) ids v=qJv (q0Y s.S (ids.map fun id=>(id,none))) v:=by
        cases v<;>first|rfl|exact absurd ⟨_,_,rfl⟩ hov
       rw[e1];refine qFk h' hF1 (.inl fun id blk r hl hi=>?_) hr;obtain⟨hni,hl0⟩:=hKS id blk hl;refine⟨.inr rfl,hownlt id blk r hl0 hi,fun hx=>?_,fun hq=>(hion _ hq).2.2 id blk r hni hl0 hi rfl⟩;rcases(h.own id blk r.1 r.2.1 r.2.2 hl0 hi).2 with q|⟨q,_⟩
       ·exact h.newX q hx
       ·exact(h.x0 _ hx).2 q)
     intro next Q hn
     refine qC6 hop hcal hcv hargs ?_;rintro e' w' ⟨v,ι',Fr',rfl,hrv,hE⟩;refine⟨v,rfl,?_⟩;have hmain:=q8s h' hfresh' (ids:=[]) List.nodup_nil (fun id hid=>by cases hid) hE
      (fun b hb=>by
       rcases hb with hb|hb
       ·exact .inl (Nat.le_trans h.hsize hb)
       ·exact(hion b hb).1)
      (fun b hb=>by
       rcases hb with hb|hb
       ·exact⟨fun t hf=>by have:=(h.fr t b hf).1;omega,fun id blk q hl hi e=>by have:=hownlt id blk q (hKS id blk hl).2 hi;omega⟩
       ·exact⟨(hion b hb).2.1,fun id blk q hl hi=>(hion b hb).2.2 id blk q (hKS id blk hl).1 (hKS id blk hl).2 hi⟩)
      (fun j hj=>by simp at hj) (fun b hb=>.inr (.inr hb)) (fun b hx=>hx) (by simp) hfew hrv
      (fun k hk=>q51 hc2.1 k hk) (fun b hb k hk=>q51 (hc2.2 b hb) k hk) (.inr ⟨hc3.2.1,hc3.2.2⟩)
     obtain⟨ι2,Fr2,hR,hV⟩:=hmain;refine hn _ _ ι2 Fr2 (qGc hd ?_ hV);rw[q4E];exact hR
 ·
  rename_i D hDf;have hS:q0R P n D:=hD n .rw D hDf;simp only at he;generalize hidsE:q84 (V.idsL avs)=ids at he;obtain⟨hnd,hmem⟩:=q9G (V.idsL avs);rw[hidsE]at hnd hmem;split at he
  case h_2=>simp at he
  case h_1 bin hbin=>
   obtain⟨hbl,hbj⟩:=qGZ hbin;split at he
   case h_2=>simp at he
   case h_1 ob r bs hDe=>
    split at he
    case h_2=>simp at he
    case h_1 hc1 hc2 hc3=>
     simp only[Option.some.injEq]at he;subst he;have hob:=ho ob (List.mem_cons_self ..);simp only[Bool.and_eq_true,List.all_eq_true]at hc1 hc2 hc3;have hfew:bs.length<63:=Nat.le_of_ble_eq_true hc1.2;have hshl:∀(l l':List Blk),q9I l l'=true→l.length=l'.length:=by
      intro l;induction l with
      |nil=>intro l' hq;cases l'<;>simp[q9I]at hq⊢
      |cons b l ih=>
       intro l' hq;cases l' with
       |nil=>cases b<;>simp[q9I]at hq
       |cons b' l'=>
        cases b<;>cases b'<;>simp only[q9I,Bool.and_eq_true,Bool.false_eq_true]at hq
        ·simp[ih l' hq.2]
        ·simp[ih l' hq.2]
     have hlen:ids.length≤bs.length:=by
      have:=hshl _ _ hc1.1;rw[hbl,List.length_take]at this;omega
     have hlk:∀id∈ids,∃blk,lk s.S id=some blk:=by
      intro id hid;obtain⟨j,hj,rfl⟩:=qAE hid;have:=hbj j hj;rw[List.getElem?_eq_getElem (by omega)]at this;exact⟨_,this⟩
     obtain⟨FrIn,hEnt,hconv⟩:=qTm h hnd hbl hbj hlk (by omega) hc3;have hargs:=hS.does _ _ ob r bs hDe hob (c.args.map a.eval++capsv) w _ _ _ FrIn hEnt (by simpa using hvr.1) (fun j hj=>by
      have hj':j<avs.length:=by simpa using hj
      rw[q40 (by simpa using hj'),q40 hj'];exact hconv _ _ (fun id hid=>(hmem id).2 (hids j hj' id hid)) (hvr.2 j hj'))
     intro next Q hn
     refine qC6 hop hcal hcv hargs ?_;rintro e' w' ⟨v,ι',Fr',rfl,hrv,hE⟩;refine⟨v,rfl,?_⟩;rw[List.length_map,hbl]at hE;have hmain:=q8s h hfresh (ids:=ids) hnd hlk hE (fun b hb=>.inl (Nat.le_trans h.hsize hb))
      (fun b hb=>⟨fun t hf=>by have:=(h.fr t b hf).1;omega,fun id blk q hl hi e=>by have:=(h.own id blk q.1 q.2.1 q.2.2 hl hi).1.lt;omega⟩) (fun j hj=>rfl) (fun b hb=>.inl hb) (fun b hx=>.inl hx) hlen hfew hrv
      (fun k hk=>q51 hc2.1 k hk) (fun b hb k hk=>q51 (hc2.2 b hb) k hk) (.inl fun id blk q hid hl hi=>.inr ⟨id,blk,q,hid,hl,hi,rfl⟩)
     obtain⟨ι2,Fr2,hR,hV⟩:=hmain;exact hn _ _ ι2 Fr2 (qGc hd hR hV)
 ·simp at he
section
variable {P:Program} {cx:Cx} (hT:q4K P cx.tt) (hD:q0C P cx.D)
theorem q1h {g:G} {s:AS} {a:Act} {w:World} {ι:q1K} {Fr:Nat→Nat→Prop} {o:Oper} {e:Ef} (h:Rel g s a w ι Fr) (hd:q4Z g.nt o=true) (he:e.upd=[])
  (hr:∃x,(execOp a.eval o).run P w=.ok (.value x) w∧q0e w Fr ι e.v x):q90 P g (s.app o.dst e) a w o:=by
 obtain⟨x,hx,hv⟩:=hr;have:e=⟨e.v,[],e.rd,e.ob⟩:=by rw[←he]
 rw[this];exact qEL h hd hx hv
theorem qFx {tt:TT} (hT:q4K P tt) {t:Nat} (ht:q97 tt t=true) {w:World} {s:ByteArray} {k:IntKind} {n:Int} (h0:0≤n) (h1:n<(s.size:Int)):
  (Instr.index t (.string s) (.int k n)).run P w=.ok (.int .u8 (q0i s n)) w:=by
 have hu:=qFq hT ht w;have hlt:n.toNat<s.size:=by omega
 have hlt':n.toNat<s.data.size:=hlt;have hg:s[n.toNat]?=some s.data[n.toNat]:=by
  show(if h:n.toNat<s.size then some s[n.toNat]else none)=_;rw[dif_pos hlt];rfl
 unfold Instr.index asIntOf;simp only[Sem.run_bind,Sem.run_pure,Result.andThen_ok,hu,h0,if_true,hg,q0i];have e2:s.data.getD n.toNat 0=s.data[n.toNat]:=by
  unfold Array.getD;rw[dif_pos hlt'];rfl
 rw[e2]
theorem qRp {tt:TT} (hT:q4K P tt) {g:G} {s:AS} {a:Act} {w:World} {ι:q1K} {Fr:Nat→Nat→Prop} (h:Rel g s a w ι Fr) {src dst:Nat} {x:V} {vx:Value} {e:Ef} (he:qMD tt s.S src dst x=some e) (ho:∀p∈e.ob,p)
  (hx:q0e w Fr ι x vx):e.upd=[]∧∃z,(convert src dst vx).run P w=.ok z w∧q0e w Fr ι e.v z:=by
 unfold qMD at he;split at he
 ·rename_i id n;split at he
  ·rename_i sz m f te hb hl;split at he
   ·rename_i hsz;have hsz1:=q0y.1 hsz;subst hsz1;simp only[Option.some.injEq]at he;subst he;have hg:∀i,i<n→qPm (f i)=true:=ho _ (List.mem_singleton.2 rfl);rw[Bool.and_eq_true]at hb;obtain⟨hu,hst⟩:=hb;obtain⟨et,q1,q2,q3,q4,q5,r1,r2,r3,r4,r5,hs1,hs2⟩:∃et q1 q2 q3 q4 q5 r1 r2 r3 r4 r5,lk tt src=some ⟨.slice et,q1,q2,q3,q4,q5⟩∧lk tt et=some ⟨.int .u8,r1,r2,r3,r4,r5⟩:=by
     unfold x2m q2Q at hu;split at hu
     ·rename_i heq;split at heq
      ·rename_i h1;exact⟨_,_,_,_,_,_,_,_,_,_,_,h1,heq⟩
      ·cases heq
     ·cases hu
    obtain⟨t1,t2,t3,t4,t5,hd1⟩:∃t1 t2 t3 t4 t5,lk tt dst=some ⟨.string,t1,t2,t3,t4,t5⟩:=by
     unfold q97 at hst;split at hst
     ·rename_i h1;exact⟨_,_,_,_,_,h1⟩
     ·cases hst
    have us:=hT.und _ _ hs1;have ue:=hT.und _ _ hs2;have ud:=hT.und _ _ hd1;refine⟨rfl,.string (q6W n f),?_,.atom rfl (.str _)⟩;cases hx with
    |atom hp _=>simp[isP]at hp
    |osl hi hle hcap hsh hcs=>
     rename_i b sz m2 cap c e';obtain⟨⟨rfl,rfl,cells,e2,hh,hcsz,hlen,hr⟩,_⟩:=h.own id _ b sz m2 hl hi;refine run_convert_bytes_arg w src et us ue b 0 n cap _ (by simp) (fun i hi'=>?_) dst ud;have h1:=hr i 0 (by omega) (by decide);have h2:=hg i hi';obtain⟨z,hz⟩:∃z,f i=.int .u8 z:=by
      cases hf:f i with
      |int k z=>rw[hf]at h2;cases k<;>first|exact⟨z,rfl⟩|cases h2
      |_=>rw[hf]at h2;cases h2
     rw[hz]at h1;simp only[V.cells,List.getD_cons_zero,Nat.mul_one,Nat.add_zero]at h1;have h3:cells.getD i Go.undef=Value.int .u8 z:=by
      cases hq:cells.getD i Go.undef with
      |int k z'=>rw[hq]at h1;cases h1;rfl
      |_=>rw[hq]at h1;cases h1
     rw[Nat.zero_add,q4Q hh (by omega),h3];simp[hi',hz,xEC]
    |osl0 ad hi=>
     have e0:q6W 0 f=ByteArray.empty:=rfl;rw[e0];cases ad with
     |none=>exact run_convert_bytes_nil w src et us ue _ _ dst ud
     |some ad=>
      rw[run_convert_bytes_string w src dst et _ _ _ us ue ud,run_bytesToString w ad 0 _ [] (by simp[loadCells,loadCellsFrom])];rfl
   ·cases he
  ·cases he
 ·exact qOA hT he ho hx
include hT hD in
theorem qSE {g:G} {s:AS} {a:Act} {w:World} {ι:q1K} {Fr:Nat→Nat→Prop} (h:Rel g s a w ι Fr) {o:Oper} {d:Nat} (hx:∀x∈q1L o.op,q0e w Fr ι (q1H (q20 s x)) (a.eval x))
  (hd:q4Z g.nt o=true) (hfresh:∀id,id/64=d+1→q17 s id) {e:Ef} (he:q1d cx s.S d (fun x=>q1H (q20 s x)) o.op=some e) (ho:∀p∈e.ob,p):q90 P g (s.app o.dst e) a w o:=by
 have hf0:q17 s (q4h d):=hfresh _ (by unfold q4h;omega);cases hop:o.op with
 |move x=>
  rw[hop]at hx he;simp only[q1d,ok,Option.some.injEq]at he;subst he;exact q1h h hd rfl ⟨_,qHl x (.inl hop),hx x (by simp[q1L])⟩
 |assign x=>
  rw[hop]at hx he;simp only[q1d,ok,Option.some.injEq]at he;subst he;exact q1h h hd rfl ⟨_,qHl x (.inr hop),hx x (by simp[q1L])⟩
 |alloc el=>
  rw[hop]at he;simp only[q1d]at he;split at he
  ·rename_i ti hl;simp only[x4X,Option.some.injEq]at he;subst he;exact qNI hT h hop hl hf0 hd
  ·simp at he
 |box el x=>
  rw[hop]at hx he;simp only[q1d]at he;split at he
  ·rename_i hs;simp only[x4X,Option.some.injEq]at he;subst he;exact qSv h hop (hx x (by simp[q1L])) hs hf0 hd
  ·simp at he
 |build t ps=>
  rw[hop]at hx he;exact qML hT h hop (fun p hp=>hx p.2 (by simp only[q1L];exact List.mem_map.2 ⟨p,hp,rfl⟩)) hd he
 |buildSlice t len ps=>
  rw[hop]at hx he;exact qDI hT h hop (fun p hp=>hx p.2 (by simp only[q1L];exact List.mem_map.2 ⟨p,hp,rfl⟩)) hd hf0 he
 |load t x=>
  rw[hop]at hx he;simp only[q1d]at he;split at he
  ·rename_i ti hl;obtain⟨h1,y,hy,hv⟩:=qLk (P:=P) hT h hl he ho (hx x (by simp[q1L]));refine q1h h hd h1 ⟨y,?_,hv⟩;unfold execOp;rw[hop];exact q7Z hy
  ·simp at he
 |store t p x=>
  rw[hop]at hx he;simp only[q1d]at he;split at he
  ·rename_i ti hl;exact qN9 hT h hop hl (hx p (by simp[q1L])) (hx x (by simp[q1L])) hd he ho
  ·simp at he
 |nilCheck x=>
  rw[hop]at hx he;have hxr:=hx x (by simp[q1L]);simp only[q1d]at he;split at he
  ·rename_i cs off t hv;simp only[ok,Option.some.injEq]at he;subst he;rw[hv]at hxr;refine q1h h hd rfl ⟨a.eval x,?_,hxr⟩;have:∃ad,a.eval x=.pointer (some ad):=by
    generalize a.eval x=vx at hxr;cases hxr with
    |atom _ hp=>cases hp;exact⟨_,rfl⟩
   obtain⟨ad,had⟩:=this;unfold execOp;rw[hop];simp[had]
  ·rename_i id i off hv;simp only[ok,Option.some.injEq]at he;subst he;rw[hv]at hxr;refine q1h h hd rfl ⟨a.eval x,?_,hxr⟩;have:∃ad,a.eval x=.pointer (some ad):=by
    generalize a.eval x=vx at hxr;cases hxr with
    |atom hv _=>simp[isP]at hv
    |oref=>exact⟨_,rfl⟩
   obtain⟨ad,had⟩:=this;unfold execOp;rw[hop];simp[had]
  ·simp at he
 |binOp op t x y yt=>
  rw[hop]at hx he;obtain⟨h1,z,hz,hv⟩:=qS6 (P:=P) hT (ox:=x) (oy:=y) he ho (hx x (by simp[q1L])) (hx y (by simp[q1L]));refine q1h h hd h1 ⟨z,?_,hv⟩;unfold execOp;rw[hop];exact q7Z hz
 |unOp op t x=>
  rw[hop]at hx he;have hxr:=hx x (by simp[q1L]);simp only[q1d]at he;split at he
  ·rename_i b hv;simp only[ok,Option.some.injEq]at he;subst he;rw[hv]at hxr;have:=q52 hxr;refine q1h h hd rfl ⟨.bool (!b),?_,.atom rfl (.bool _)⟩;unfold execOp;rw[hop];refine q7Z ?_;rw[this];rfl
  ·rename_i k n hv;simp only[okO,Option.some.injEq]at he;subst he;rw[hv]at hxr;have:=q31 hxr;have hk:k.wrap (0-n)=0-n:=ho (inK k (0-n)) (List.mem_singleton.2 rfl);refine q1h h hd rfl ⟨.int k (0-n),?_,.atom rfl (.int _ _)⟩;unfold execOp;rw[hop];refine q7Z ?_;rw[this];simp only[Op.unary,Op.intArith,hk];rfl
  ·simp at he
 |convert src dst x=>
  rw[hop]at hx he;obtain⟨h1,z,hz,hv⟩:=qRp (P:=P) hT h he ho (hx x (by simp[q1L]));refine q1h h hd h1 ⟨z,?_,hv⟩;unfold execOp;rw[hop];exact q7Z hz
 |makeFunc fn first caps=>
  rw[hop]at hx he;cases fn with
  |func f=>
   simp only[q1d]at he;split at he
   ·rename_i hfirst;simp only[ok,Option.some.injEq]at he;subst he;refine q1h h hd rfl ⟨.func (.func f) (first.map a.eval) (caps.map a.eval),?_,?_⟩
    ·unfold execOp;rw[hop];exact q7Z rfl
    ·have:first= #[]:=by rw[←Array.toList_inj];simpa using hfirst
     subst this;simp only[List.map_toArray,List.map_nil];refine .fn (caps.map a.eval) (by simp) fun j hj=>?_;have hj':j<caps.size:=by simpa using hj
     have hm:caps[j]∈caps.toList:=by simp
     have e1:(caps.toList.map fun x=>q1H (q20 s x)).getD j .undef=q1H (q20 s caps[j]):=by simp[List.getD,hj']
     have e2:(caps.map a.eval).getD j Go.undef=a.eval caps[j]:=by simp[hj']
     rw[e1,e2];exact hx _ (by simp only[q1L];exact List.mem_append.2 (.inr hm))
   ·simp at he
  |_=>simp[q1d]at he
 |makeSlice t l c=>
  rw[hop]at hx he;exact qOk hT h hop (hx l (by simp[q1L])) (hx c (by simp[q1L])) hd hf0 he ho
 |slice t x lo hi mx=>
  rw[hop]at hx he;obtain⟨h1,z,hz,hv⟩:=qNF (P:=P) hT h he ho (hx x (by simp[q1L])) (x8m (ev:=a.eval) fun o ho=>hx o (by subst ho;simp[q1L,qBU])) (x8m (ev:=a.eval) fun o ho=>hx o (by subst ho;simp[q1L,qBU]))
   (x8m (ev:=a.eval) fun o ho=>hx o (by subst ho;simp[q1L,qBU])) (by cases mx<;>simp)
  refine q1h h hd h1 ⟨z,?_,hv⟩;unfold execOp;rw[hop];exact q7Z hz
 |fieldAddr st x f=>
  rw[hop]at hx he;obtain⟨h1,z,hz,hv⟩:=qFL (P:=P) hT he (hx x (by simp[q1L]));refine q1h h hd h1 ⟨z,?_,hv⟩;unfold execOp;rw[hop];exact q7Z hz
 |field st x f=>
  rw[hop]at hx he;obtain⟨h1,z,hz,hv⟩:=qPs (P:=P) hT he (hx x (by simp[q1L]));refine q1h h hd h1 ⟨z,?_,hv⟩;unfold execOp;rw[hop];exact q7Z hz
 |indexAddr t x i=>
  rw[hop]at hx he;obtain⟨h1,z,hz,hv⟩:=qFe (P:=P) hT h he ho (hx x (by simp[q1L])) (hx i (by simp[q1L]));refine q1h h hd h1 ⟨z,?_,hv⟩;unfold execOp;rw[hop];exact q7Z hz
 |index t x i=>
  rw[hop]at hx he;have h1:=hx x (by simp[q1L]);have h2:=hx i (by simp[q1L]);simp only[q1d]at he;split at he
  ·rename_i sv k n hv1 hv2 hst;simp only[okO,Option.some.injEq]at he;subst he;rw[hv1]at h1;rw[hv2]at h2;have e1:=q5W h1;have e2:=q31 h2;have hob:=ho _ (List.mem_singleton.2 rfl);refine q1h h hd rfl ⟨_,?_,.atom rfl (.int _ _)⟩;unfold execOp;rw[hop];refine q7Z ?_;rw[e1,e2];exact qFx hT hst hob.1 hob.2
  ·simp at he
 |makeMap t r=>
  rw[hop]at he;cases r with
  |none=>exact qHI h hop hd hf0 he
  |some r=>simp[q1d]at he
 |lookup t x i c=>
  rw[hop]at hx he;obtain⟨h1,z,hz,hv⟩:=qMj (P:=P) hT h (hx x (by simp[q1L])) (hx i (by simp[q1L])) he;refine q1h h hd h1 ⟨z,?_,hv⟩;unfold execOp;rw[hop];exact q7Z hz
 |mapUpdate t x i v=>
  rw[hop]at hx he;exact qDs hT h hop hd (hx x (by simp[q1L])) (hx i (by simp[q1L])) (hx v (by simp[q1L])) he
 |extract x i=>
  rw[hop]at hx he;have h1:=hx x (by simp[q1L]);simp only[q1d]at he;split at he
  ·rename_i vs hv;split at he
   ·rename_i v hvi;simp only[ok,Option.some.injEq]at he;subst he;rw[hv]at h1;generalize hvx:a.eval x=vx at h1;cases h1 with
    |atom hv _=>simp[isP]at hv
    |tup arr hs hr=>
     have hi:i<vs.length:=(List.getElem?_eq_some_iff.1 hvi).1;have e1:vs.getD i .undef=v:=by simp[List.getD,hvi]
     refine q1h h hd rfl ⟨arr.getD i Go.undef,?_,by have:=hr i hi;rw[e1]at this;exact this⟩;unfold execOp;rw[hop];refine q7Z ?_;rw[hvx];have hi':i<arr.size:=by omega
     simp[Instr.extract,hi']
   ·simp at he
  ·simp at he
 |call c=>
  rw[hop]at hx he;simp only[q1d]at he;split at he
  ·
   rename_i hcal;split at he
   ·rename_i x t rest hargs hty;obtain⟨h1,z,hz,hv⟩:=qU5 (P:=P) hT (rt:=o.type) rest he (hx x (by simp only[q1L];exact List.mem_append.2 (.inr (by rw[hargs];simp))));refine q1h h hd h1 ⟨z,?_,hv⟩;have ha:c.args= #[x]:=by rw[←Array.toList_inj];simpa using hargs
    have ht:c.argTypes=(t::rest).toArray:=by rw[←hty]
    unfold execOp;rw[hop];simp only[resolve,hcal,ha,ht,invoke,builtin,Sem.run_bind,Sem.run_pure,Result.andThen_ok,List.map_toArray,List.map_cons,List.map_nil,hz]
   ·simp at he
  ·
   rename_i hcal;split at he
   ·rename_i x y t u rest hargs hty;split at he
    ·rename_i tiu htiu;have ha:c.args= #[x,y]:=by rw[←Array.toList_inj];simpa using hargs
     exact qIh hT h hop hcal ha hty ⟨_,htiu⟩ (hx x (by simp only[q1L];exact List.mem_append.2 (.inr (by rw[hargs];simp)))) (hx y (by simp only[q1L];exact List.mem_append.2 (.inr (by rw[hargs];simp)))) hd hf0 he ho
    ·split at he
     ·rename_i hint;have ha:c.args= #[x,y]:=by rw[←Array.toList_inj];simpa using hargs
      exact qHo hT h hop hcal ha hty hint (hx x (by simp only[q1L];exact List.mem_append.2 (.inr (by rw[hargs];simp)))) (hx y (by simp only[q1L];exact List.mem_append.2 (.inr (by rw[hargs];simp)))) hd hf0 he ho
     ·simp at he
   ·simp at he
  ·
   rename_i hcal;split at he
   ·rename_i x t rest hargs hty;have hxx:=hx x (by simp only[q1L];exact List.mem_append.2 (.inr (by rw[hargs];simp)));unfold xDz at he;split at he
    ·rename_i id lo n cc hxe hsl;simp only[ok,Option.some.injEq]at he;subst he;rw[hxe]at hxx;obtain⟨el,ti,hti,hu,hel⟩:=q9X (P:=P) hT hsl w;have hv:∃a0 l0,a.eval x=.slice a0 l0 cc:=by
      generalize a.eval x=vx at hxx;cases hxx with
      |atom hv _=>simp[isP]at hv
      |oss hi hn hc hcc hxq hs hcs=>rw[hxq rfl];exact⟨_,_,rfl⟩
      |oss0 a0 h0=>exact⟨_,_,rfl⟩
     obtain⟨a0,l0,hv⟩:=hv;refine q1h h hd rfl ⟨.int .i64 cc,?_,.atom rfl (.int _ _)⟩;have ha:c.args= #[x]:=by rw[←Array.toList_inj];simpa using hargs
     have ht:c.argTypes=(t::rest).toArray:=by rw[←hty]
     unfold execOp;rw[hop];simp only[resolve,hcal,ha,ht,invoke,builtin,Sem.run_bind,Sem.run_pure,Result.andThen_ok,List.map_toArray,List.map_cons,List.map_nil,hv];unfold Builtin.cap_;simp[hu,goInt]
    ·simp at he
   ·simp at he
  ·
   rename_i hcal;split at he
   ·rename_i x y t u rest hargs hty;split at he
    ·rename_i tiu htiu;have ha:c.args= #[x,y]:=by rw[←Array.toList_inj];simpa using hargs
     exact qOT hT h hop hcal ha hty ⟨_,htiu⟩ (hx x (by simp only[q1L];exact List.mem_append.2 (.inr (by rw[hargs];simp)))) (hx y (by simp only[q1L];exact List.mem_append.2 (.inr (by rw[hargs];simp)))) hd he ho
    ·simp at he
   ·simp at he
  ·
   rename_i hcal;split at he
   ·rename_i x t rest hargs hty;have ha:c.args= #[x]:=by rw[←Array.toList_inj];simpa using hargs
    exact qMR hT h hop hcal ha hty (hx x (by simp only[q1L];exact List.mem_append.2 (.inr (by rw[hargs];simp)))) hd he ho
   ·simp at he
  ·
   rename_i hcal;split at he
   ·rename_i x r hargs;unfold okV at he;split at he
    ·rename_i v hv;simp only[ok,Option.some.injEq]at he;subst he;have hall:∀y∈x::r,q0e w Fr ι (q1H (q20 s y)) (a.eval y):=fun y hy=>hx y (by simp only[q1L];exact List.mem_append.2 (.inr (by rw[hargs];exact hy)));obtain⟨u,hu,hur⟩:=qFZ (P:=P) (fun x y z vx vy h1 h2 h3=>qT4 (P:=P) h1 h2 h3) (r.map fun y=>q1H (q20 s y)) (r.map a.eval) _ v _ hv (hall x (List.mem_cons_self ..)) (by simp) (fun j hj=>by
      have hj':j<r.length:=by simpa using hj
      have e1:(r.map fun y=>q1H (q20 s y)).getD j .undef=q1H (q20 s r[j]):=by simp[List.getD,hj']
      have e2:(r.map a.eval).getD j Go.undef=a.eval r[j]:=by simp[List.getD,hj']
      rw[e1,e2];exact hall _ (List.mem_cons_of_mem _ (List.getElem_mem hj')))
     refine q1h h hd rfl ⟨u,?_,hur⟩;have ha:c.args=(x::r).toArray:=by rw[←Array.toList_inj];simpa using hargs
     unfold execOp;rw[hop];simp only[resolve,hcal,ha,invoke,builtin,Sem.run_bind,Sem.run_pure,Result.andThen_ok,Builtin.max_,List.map_toArray,List.map_cons,hu]
    ·simp at he
   ·simp at he
  ·
   rename_i hcal;split at he
   ·rename_i x r hargs;unfold okV at he;split at he
    ·rename_i v hv;simp only[ok,Option.some.injEq]at he;subst he;have hall:∀y∈x::r,q0e w Fr ι (q1H (q20 s y)) (a.eval y):=fun y hy=>hx y (by simp only[q1L];exact List.mem_append.2 (.inr (by rw[hargs];exact hy)));obtain⟨u,hu,hur⟩:=qFZ (P:=P) (fun x y z vx vy h1 h2 h3=>qSQ (P:=P) h1 h2 h3) (r.map fun y=>q1H (q20 s y)) (r.map a.eval) _ v _ hv (hall x (List.mem_cons_self ..)) (by simp) (fun j hj=>by
      have hj':j<r.length:=by simpa using hj
      have e1:(r.map fun y=>q1H (q20 s y)).getD j .undef=q1H (q20 s r[j]):=by simp[List.getD,hj']
      have e2:(r.map a.eval).getD j Go.undef=a.eval r[j]:=by simp[List.getD,hj']
      rw[e1,e2];exact hall _ (List.mem_cons_of_mem _ (List.getElem_mem hj')))
     refine q1h h hd rfl ⟨u,?_,hur⟩;have ha:c.args=(x::r).toArray:=by rw[←Array.toList_inj];simpa using hargs
     unfold execOp;rw[hop];simp only[resolve,hcal,ha,invoke,builtin,Sem.run_bind,Sem.run_pure,Result.andThen_ok,Builtin.min_,List.map_toArray,List.map_cons,hu]
    ·simp at he
   ·simp at he
  ·
   rename_i f hcal;split at he
   ·rename_i n caps hv;have hmf:f∈q1L (.call c):=by simp only[q1L,hcal,qJh];exact List.mem_append.2 (.inl (by simp))
    exact qNj hD h hop hcal hv (hx f hmf) (fun x hxm=>hx x (by simp only[q1L];exact List.mem_append.2 (.inr hxm))) hd hfresh he ho
   ·simp at he
  ·simp at he
 |_=>rw[hop]at he;simp[q1d]at he
end
section
variable {P:Program} {cx:Cx} (hT:q4K P cx.tt) (hD:q0C P cx.D)
theorem qEA {w:World} {Fr:Nat→Nat→Prop} {ι:q1K} {v:V} {x:Value} (h:q0e w Fr ι v x) {gd:Bool} (hg:gd=true) (ho:∀p∈qCQ gd v,p):q0e w Fr ι (q1H v) x:=by
 cases v with
 |cnd c u=>
  have hc:c=true:=ho _ (List.mem_singleton.2 rfl) hg;cases h with
  |atom hv _=>simp[isP]at hv
  |cnd ht hf=>exact ht hc
 |_=>exact h
theorem qAm {l:List Prop} {x:Option Ef} {e:Ef} (h:qNA l x=some e):∃e',x=some e'∧e={ e' with ob:=l++e'.ob }:=by
 cases x with
 |none=>simp[qNA]at h
 |some e'=>exact⟨e',rfl,(Option.some.inj h).symm⟩
theorem qOc {w:World} {Fr:Nat→Nat→Prop} {ι:q1K} {gd cb:Bool} {va vb:V} {x y:Value} {e:Ef} (he:qYc gd cb va vb=some e) (hg:gd=true) (ho:∀p∈e.ob,p)
  (h1:q0e w Fr ι va x) (h2:q0e w Fr ι vb y):e.upd=[]∧q0e w Fr ι e.v (if cb then x else y):=by
 unfold qYc at he;split at he
 ·rename_i p q;simp only[ok,Option.some.injEq]at he;subst he;refine⟨rfl,?_⟩;cases cb
  ·exact h2
  ·exact h1
 ·rename_i c p q;simp only[okO,Option.some.injEq]at he;subst he;refine⟨rfl,?_⟩;cases cb
  ·exact h2
  ·have hc:c=true:=ho _ (List.mem_singleton.2 rfl) hg rfl;cases h1 with
   |atom hv _=>simp[isP]at hv
   |cnd ht hf=>exact ht hc
 ·rename_i p c q;simp only[okO,Option.some.injEq]at he;subst he;refine⟨rfl,?_⟩;cases cb
  ·have hc:c=true:=ho _ (List.mem_singleton.2 rfl) hg rfl;cases h2 with
   |atom hv _=>simp[isP]at hv
   |cnd ht hf=>exact ht hc
  ·exact h1
 ·simp at he
include hT hD in
theorem qK7 {g:G} {s:AS} {a:Act} {w:World} {ι:q1K} {Fr:Nat→Nat→Prop} (h:Rel g s a w ι Fr) {o:Oper} {d:Nat} {gd:Bool} (hg:gd=true)
  (hd:q4Z g.nt o=true) (hfresh:∀id,id/64=d+1→q17 s id) {e:Ef} (he:opE cx s gd d o.op=some e) (ho:∀p∈e.ob,p):q90 P g (s.app o.dst e) a w o:=by
 have key:(∃c x y,o.op=.pick c x y)∨opE cx s gd d o.op=qNA ((q1L o.op).flatMap fun x=>qCQ gd (q20 s x)) (q1d cx s.S d (fun x=>q1H (q20 s x)) o.op):=by
  cases o.op<;>first|exact .inl ⟨_,_,_,rfl⟩|exact .inr rfl
 rcases key with⟨c,x,y,hop⟩|key
 ·rw[hop]at he;simp only[opE]at he;split at he
  ·rename_i cb hcb;obtain⟨e',he',rfl⟩:=qAm he;obtain⟨h1,h2⟩:=qOc (w:=w) (Fr:=Fr) (ι:=ι) (x:=a.eval x) (y:=a.eval y) he' hg (fun p hp=>ho p (List.mem_append.2 (.inr hp))) (q63 h x) (q63 h y);have hc:=qEA (q63 h c) hg (fun p hp=>ho p (List.mem_append.2 (.inl hp)));rw[hcb]at hc;have hcv:=q52 hc;refine q1h h hd h1 ⟨_,?_,h2⟩;unfold execOp;rw[hop];simp only[hcv,asBool,Sem.run_bind,Sem.run_pure,Result.andThen_ok]
  ·simp at he
 ·rw[key]at he;obtain⟨e',he',rfl⟩:=qAm he;exact qSE (e:=e') hT hD h (fun x hx=>qEA (q63 h x) hg fun p hp=>ho p (List.mem_append.2 (.inl (List.mem_flatMap.2 ⟨x,hx,hp⟩)))) hd hfresh he' (fun p (hp:p∈e'.ob)=>ho p (List.mem_append.2 (.inr hp)))
theorem Rel.cond {g:G} {a:Act} {w:World} {ι:q1K} {Fr:Nat→Nat→Prop} {d:Nat} {v:V} {T:List (Nat×V)} {S:List (Nat×Blk)} {gd:Bool} (hg:gd=true) (h:Rel g ⟨Go.Av.put T d v,S⟩ a w ι Fr):
  Rel g ⟨Go.Av.put T d (V.cnd gd v),S⟩ a w ι Fr:=
 {h with
  tmp:=fun t u ht=>by
   simp only[q1i]at ht;by_cases e:t=d
   ·simp only[e,if_true,Option.some.injEq]at ht;subst ht;refine .cnd (fun _=>h.tmp t v (by simp[q1i,e])) (fun hf=>by rw[hg]at hf;simp at hf)
   ·simp only[e,if_false]at ht;exact h.tmp t u (by simp[q1i,e,ht]) }
theorem qDS {gd:Bool}:∀{old new m:List V} {ps:List Prop},q5q gd old new=some (m,ps)→m.length=new.length∧m.length=old.length
 |[],[],m,ps,h=>by simp only[q5q,Option.some.injEq,Prod.mk.injEq]at h;simp[←h.1]
 |a::r,b::r',m,ps,h=>by
  simp only[q5q]at h;split at h
  ·rename_i c p cs ps' h1 h2;simp only[Option.some.injEq,Prod.mk.injEq]at h;obtain⟨e1,e2⟩:=qDS h2;rw[←h.1];simp[e1,e2];omega
  ·simp at h
 |[],_::_,_,_,h=>by simp[q5q]at h
 |_::_,[],_,_,h=>by simp[q5q]at h
theorem qMe {gd:Bool} {a b c:V} {ps:List Prop} (h:qQT gd a b=some (c,ps)) (ho:∀p∈ps,p) {w:World} {Fr:Nat→Nat→Prop} {ι:q1K} {x:Value} (h0:∀t b,Fr t b→Fr 0 b)
  (hx:q0e w Fr ι (if gd=true then b else a) x):q0e w Fr ι c x:=by
 have tg:∀{n:Nat} {f:Nat→V} {t t':Nat},(t'=t∨t'=0)→q0e w Fr ι (.sl n f t) x→q0e w Fr ι (.sl n f t') x:=by
  intro n f t t' ht hx;rcases ht with rfl|rfl
  ·exact hx
  ·cases hx with
   |atom hp hr=>
    have hr':=hr.weaken (A':=Fr 0) fun b hb=>h0 _ b hb;refine .atom rfl ?_;cases hr' with
    |sl0=>exact .sl0 _ _ _ _
    |sl cv hA hcap hsz hc hr2=>exact .sl cv hA hcap hsz hc hr2
 unfold qQT at h;split at h
 ·split at h
  ·rename_i k a' k' b' _ hk;have hk':k=k':=of_decide_eq_true hk;subst hk';simp only[Option.some.injEq,Prod.mk.injEq]at h;rw[←h.1];cases gd with
   |true=>simpa using hx
   |false=>simpa using hx
  ·simp at h
 ·rename_i n f t n' f' t';simp only[Option.some.injEq,Prod.mk.injEq]at h;obtain⟨rfl,rfl⟩:=h;have htt:(match Nat.beq t t' with|true=>t'|false=>0)=t'∨(match Nat.beq t t' with|true=>t'|false=>0)=0:=by
   cases Nat.beq t t'<;>simp
  have htt2:(match Nat.beq t t' with|true=>t'|false=>0)=t∨(match Nat.beq t t' with|true=>t'|false=>0)=0:=by
   cases hb:Nat.beq t t' with
   |true=>exact .inl (q0y.1 hb).symm
   |false=>exact .inr rfl
  cases gd with
  |true=>
   simp only[if_true]at hx;exact tg htt hx
  |false=>
   have e:=ho _ (List.mem_singleton.2 rfl) rfl;simp only[V.sl.injEq,and_true]at e;obtain⟨rfl,rfl⟩:=e;simp only[Bool.false_eq_true,if_false]at hx;exact tg htt2 hx
 ·simp at h
theorem q9d {gd:Bool} {w:World} {Fr:Nat→Nat→Prop} {ι:q1K} (h0:∀t b,Fr t b→Fr 0 b):∀{old new m:List V} {ps:List Prop},q5q gd old new=some (m,ps)→(∀p∈ps,p)→∀{x:Value} {j:Nat},
  q0e w Fr ι ((if gd=true then new else old).getD j .undef) x→j<m.length→q0e w Fr ι (m.getD j .undef) x
 |[],[],m,ps,h,_,x,j,_,hj=>by simp only[q5q,Option.some.injEq,Prod.mk.injEq]at h;rw[←h.1]at hj;simp at hj
 |a::r,b::r',m,ps,h,ho,x,j,hx,hj=>by
  simp only[q5q]at h;split at h
  ·rename_i c p cs ps' h1 h2;simp only[Option.some.injEq,Prod.mk.injEq]at h;obtain⟨rfl,rfl⟩:=h;cases j with
   |zero=>
    refine qMe h1 (fun q hq=>ho q (List.mem_append.2 (.inl hq))) h0 ?_;cases gd<;>simpa using hx
   |succ j=>
    refine q9d h0 h2 (fun q hq=>ho q (List.mem_append.2 (.inr hq))) (j:=j) ?_ (by simpa using hj);cases gd<;>simpa using hx
  ·simp at h
 |[],_::_,_,_,h,_,_,_,_,_=>by simp[q5q]at h
 |_::_,[],_,_,h,_,_,_,_,_=>by simp[q5q]at h
theorem Rel.rebox {g:G} {a:Act} {w:World} {ι:q1K} {Fr:Nat→Nat→Prop} {T:List (Nat×V)} {S:List (Nat×Blk)} {id:Nat} {cs m:List V} (h:Rel g ⟨T,S⟩ a w ι Fr) (hl:lk S id=some (.box cs))
  (hlen:m.length=cs.length) (hm:∀j,j<m.length→∀x,q0e w Fr ι (cs.getD j .undef) x→q0e w Fr ι (m.getD j .undef) x):Rel g ⟨T,Go.Av.put S id (.box m)⟩ a w ι Fr:=by
 have key:∀k blk,lk (Go.Av.put S id (.box m)) k=some blk→(k=id∧blk=.box m)∨(k≠id∧lk S k=some blk):=by
  intro k blk hk;rw[q1i]at hk;by_cases e:k=id
  ·rw[if_pos e]at hk;exact .inl ⟨e,(Option.some.inj hk).symm⟩
  ·rw[if_neg e]at hk;exact .inr ⟨e,hk⟩
 have was:∀k blk,lk (Go.Av.put S id (.box m)) k=some blk→∃blk',lk S k=some blk':=by
  intro k blk hk;rcases key k blk hk with⟨rfl,_⟩|⟨_,h⟩
  ·exact⟨_,hl⟩
  ·exact⟨_,h⟩
 exact{ h with
  own:=fun k blk b sz n hk hi=>by
   rcases key k blk hk with⟨rfl,rfl⟩|⟨_,h1⟩
   ·obtain⟨⟨cells,e,hh,hsz,hr⟩,h3⟩:=h.own k _ b sz n hl hi;exact⟨⟨cells,e,hh,by omega,fun j hj=>hm j hj _ (hr j (by omega))⟩,h3⟩
   ·exact h.own k blk b sz n h1 hi
  nob:=fun k blk hk hi=>by
   rcases key k blk hk with⟨rfl,rfl⟩|⟨_,h1⟩
   ·obtain⟨_,_,_,e⟩:=h.nob k _ hl hi;simp at e
   ·exact h.nob k blk h1 hi
  inj:=fun k k' blk blk' r r' h1 h2 h3 h4 h5=>by
   obtain⟨b1,g1⟩:=was k blk h1;obtain⟨b2,g2⟩:=was k' blk' h2;exact h.inj k k' b1 b2 r r' g1 g2 h3 h4 h5
  fr:=fun t b hb=>⟨(h.fr t b hb).1,(h.fr t b hb).2.1,fun k blk r hk hi=>by
   obtain⟨b1,g1⟩:=was k blk hk;exact(h.fr t b hb).2.2 k b1 r g1 hi⟩ }
theorem qMp {g:G} {s:AS} {a:Act} {w:World} {ι:q1K} {Fr:Nat→Nat→Prop} (h:Rel g s a w ι Fr) {ops:List Oper} {j t:Nat} {oj:Oper} {v:V} (hj:ops[j]?=some oj) (ht:oj.dst=some t) (hl:lk s.T t=some v):
  (∀b,v=.bool b→yielded ops.toArray a.tmps j=some b)∧(∀c b,v=.cnd c (.bool b)→yielded ops.toArray a.tmps j=if c then some b else none):=by
 have hr:=h.tmp t v hl;have hy:∀b,a.tmps.getD t Go.undef=.bool b→yielded ops.toArray a.tmps j=some b:=by
  intro b hb;unfold yielded;have:a.tmps[t]?=some (.bool b):=by
   cases hq:a.tmps[t]? with
   |none=>simp[Array.getD_eq_getD_getElem?,hq,Go.undef]at hb
   |some u=>simp[Array.getD_eq_getD_getElem?,hq]at hb;rw[hb]
  simp[hj,ht,this]
 constructor
 ·rintro b rfl;exact hy b (q52 hr)
 ·rintro c b rfl;cases hr with
  |atom hv _=>simp[isP]at hv
  |cnd hct hcf=>
   cases c with
   |true=>exact hy b (q52 (hct rfl))
   |false=>
    have hu:=hcf rfl;unfold yielded;cases hq:a.tmps[t]? with
    |none=>simp[hj,ht,hq]
    |some u=>
     simp[Array.getD_eq_getD_getElem?,hq]at hu;subst hu;simp[hj,ht,hq,Go.undef]
theorem qTb {g:G} {s:AS} {a:Act} {w:World} {ι:q1K} {Fr:Nat→Nat→Prop} (h:Rel g s a w ι Fr) {ops:List Oper} {o:Oper}:
  (q9O ops s o=some none→Region.wanted o (yielded ops.toArray a.tmps)=true)∧
  (∀b,q9O ops s o=some (some b)→Region.wanted o (yielded ops.toArray a.tmps)=b):=by
 unfold q9O Region.wanted;cases hgd:o.guard with
 |none=>exact⟨fun _=>rfl,fun b hb=>by simp at hb⟩
 |some jw=>
  obtain⟨j,want⟩:=jw;simp only[];cases hj:ops[j]? with
  |none=>exact⟨fun hb=>by simp at hb,fun b hb=>by simp at hb⟩
  |some oj=>
   cases ht:oj.dst with
   |none=>exact⟨fun hb=>by simp[ht]at hb,fun b hb=>by simp[ht]at hb⟩
   |some t=>
    cases hl:lk s.T t with
    |none=>exact⟨fun hb=>by simp[ht,hl]at hb,fun b hb=>by simp[ht,hl]at hb⟩
    |some v=>
     have hy:=qMp h hj ht hl;simp only[ht,hl];constructor
     ·intro hb;split at hb<;>first|(cases want<;>simp at hb;done)|simp at hb
     ·intro b hb;split at hb
      ·rename_i b' hv;rw[hy.1 b' (Option.some.inj hv)];cases want<;>cases b'<;>simp at hb⊢<;>exact hb
      ·rename_i c b' hv;rw[hy.2 c b' (Option.some.inj hv)];cases want<;>cases b'<;>cases c<;>simp at hb⊢<;>exact hb
      ·simp at hb
include hT hD in
theorem qGa {g:G} {s:AS} {a:Act} {w:World} {ι:q1K} {Fr:Nat→Nat→Prop} (h:Rel g s a w ι Fr) {ops:List Oper} {o:Oper} (hnt:cx.nt=g.nt)
  (hfresh:∀id,id/64=qNb cx.nt o+1→q17 s id) {e:Ef} (he:qDr cx ops s o=some e) (ho:∀p∈e.ob,p) {next:Act→World→Prop} {Q:Exit→Act→World→Prop}
  (hn:∀a' w' ι' Fr',Rel g (s.app o.dst e) a' w' ι' Fr'→next a' w'):
  if Region.wanted o (yielded ops.toArray a.tmps)then o.wp P a w next Q else next (a.put o.dst undef) w:=by
 have hgd:=qTb h (ops:=ops) (o:=o);unfold qDr at he;split at he
 ·rename_i hg hd;rw[hnt]at hd;rw[hgd.1 hg,if_pos rfl];exact qK7 hT hD h rfl hd hfresh he ho next Q hn
 ·rename_i gd hg hd;rw[hnt]at hd;rw[hgd.2 gd hg];split at he
  ·rename_i v rd ob hop;simp only[Option.some.injEq]at he;subst he;cases gd with
   |true=>
    rw[if_pos rfl];have hob:∀p∈ob,p:=fun p hp=>ho (true=true→p) (List.mem_map.2 ⟨p,hp,rfl⟩) rfl;refine qK7 hT hD h rfl hd hfresh hop hob next Q fun a' w' ι' Fr' hr=>hn a' w' ι' Fr' ?_
    cases hdst:o.dst with
    |none=>rw[hdst]at hr;exact hr
    |some d=>
     rw[hdst]at hr;exact Rel.cond (gd:=true) rfl hr
   |false=>
    simp only[Bool.false_eq_true,if_false];cases hdst:o.dst with
    |none=>
     refine hn _ _ ι Fr ?_;rw[hdst];exact h
    |some d=>
     have hlt:d<g.nt:=by
      unfold q4Z at hd;rw[hdst]at hd;exact Nat.le_of_ble_eq_true hd
     refine hn _ _ ι Fr ?_;rw[hdst];exact h.put hlt (.cnd (fun hc=>by simp at hc) fun _=>rfl)
  ·rename_i v id new rd ob hop;split at he
   ·rename_i old hold;split at he
    ·rename_i m ps hmerge;simp only[Option.some.injEq]at he;subst he;have hps:∀p∈ps,p:=fun p hp=>ho p (List.mem_append.2 (.inr hp));obtain⟨l1,l2⟩:=qDS hmerge;have hcond:∀{a':Act} {w':World} {ι':q1K} {Fr':Nat→Nat→Prop} {S':List (Nat×Blk)} {d:Option Tmp},gd=true→Rel g ⟨(match d with|some d=>Go.Av.put s.T d v|none=>s.T),S'⟩ a' w' ι' Fr'→Rel g ⟨(match d with|some d=>Go.Av.put s.T d (.cnd gd v)|none=>s.T),S'⟩ a' w' ι' Fr':=by
      intro a' w' ι' Fr' S' d hgd hr;cases d with
      |none=>exact hr
      |some d=>exact Rel.cond hgd hr
     cases gd with
     |true=>
      rw[if_pos rfl];have hob:∀p∈ob,p:=fun p hp=>ho (true=true→p) (List.mem_append.2 (.inl (List.mem_map.2 ⟨p,hp,rfl⟩))) rfl;refine qK7 hT hD h rfl hd hfresh hop hob next Q fun a' w' ι' Fr' hr=>hn a' w' ι' Fr' ?_
      have hr2:=Rel.rebox (id:=id) (cs:=new) (m:=m) hr (by show lk (Go.Av.put s.S id (.box new)) id=_;rw[q1i,if_pos rfl]) l1 fun j hj x hx=>q9d hr.fr0 hmerge hps (j:=j) (by simpa using hx) hj;refine hcond rfl (hr2.congr (fun t=>rfl) fun k=>?_);show lk (Go.Av.put s.S id (.box m)) k=lk (put (Go.Av.put s.S id (.box new)) id (.box m)) k;rw[q1i,q1i,q1i];split<;>rfl
     |false=>
      simp only[Bool.false_eq_true,if_false];have hr2:=Rel.rebox (id:=id) (cs:=old) (m:=m) h hold l2 fun j hj x hx=>q9d h.fr0 hmerge hps (j:=j) (by simpa using hx) hj;cases hdst:o.dst with
      |none=>
       refine hn _ _ ι Fr ?_;rw[hdst];exact hr2
      |some d=>
       have hlt:d<g.nt:=by
        unfold q4Z at hd;rw[hdst]at hd;exact Nat.le_of_ble_eq_true hd
       refine hn _ _ ι Fr ?_;rw[hdst];exact hr2.put hlt (.cnd (fun hc=>by simp at hc) fun _=>rfl)
    ·simp at he
   ·simp at he
  ·simp at he
 ·simp at he
mutual
theorem q7O {p:Nat→Bool}:∀{v:V},(∀id∈v.ids,p id=false)→V.ment p v=false
 | .osl id _,h=>h id (by simp[V.ids])
 | .oss id _ _ _ _,h=>h id (by simp[V.ids])
 | .oref id _ _,h=>h id (by simp[V.ids])
 | .omap id,h=>h id (by simp[V.ids])
 | .agg _,h=>q5i h
 | .tup _,h=>q5i h
 | .fn _ _,h=>q5i h
 | .cnd _ v,h=>q7O (v:=v) h
 | .int _ _,_=>rfl
 | .bool _,_=>rfl
 | .str _,_=>rfl
 | .nil,_=>rfl
 | .sl _ _ _,_=>rfl
 | .ptr _ _ _,_=>rfl
 | .undef,_=>rfl
theorem q5i {p:Nat→Bool}:∀{l:List V},(∀id∈V.idsL l,p id=false)→V.mentL p l=false
 |[],_=>rfl
 |v::r,h=>by
  simp only[V.mentL,Bool.or_eq_false_iff];exact⟨q7O (v:=v) fun id hid=>h id (by simp[V.idsL,hid]),q5i (l:=r) fun id hid=>h id (by simp[V.idsL,hid])⟩
end
theorem qCx {p:Nat→Bool} {b:Blk} (h:∀id∈b.ids,p id=false):b.ment p=false:=by
 cases b with
 |mp=>rfl
 |arr=>rfl
 |box cs=>exact q5i h
theorem q4B {upd:List (Nat×Option Blk)}:∀{S:List (Nat×Blk)} {id:Nat},(∀p∈upd,p.1≠id)→lk (q0Y S upd) id=lk S id:=by
 induction upd with
 |nil=>intros;rfl
 |cons p r ih=>
  intro S id h;obtain⟨k,b⟩:=p;have hk:id≠k:=fun e=>h (k,b) (List.mem_cons_self ..) e.symm;have hr:=fun S=>ih (S:=S) (id:=id) fun p hp=>h p (List.mem_cons_of_mem _ hp);cases b with
  |none=>simp only[q0Y];rw[hr,q7y];simp[hk]
  |some b=>simp only[q0Y];rw[hr,q1i];simp[hk]
theorem qBj {upd:List (Nat×Option Blk)}:∀{S:List (Nat×Blk)} {id:Nat} {b:Blk},lk (q0Y S upd) id=some b→lk S id=some b∨(id,some b)∈upd:=by
 induction upd with
 |nil=>intro S id b h;exact .inl h
 |cons p r ih=>
  intro S id b h;obtain⟨k,bk⟩:=p;cases bk with
  |none=>
   simp only[q0Y]at h;rcases ih h with h|h
   ·rw[q7y]at h;split at h
    ·simp at h
    ·exact .inl h
   ·exact .inr (List.mem_cons_of_mem _ h)
  |some bk=>
   simp only[q0Y]at h;rcases ih h with h|h
   ·rw[q1i]at h;split at h
    ·rename_i e;have h2:bk=b:=Option.some.inj h;rw[e,h2];exact .inr (List.mem_cons_self ..)
    ·exact .inl h
   ·exact .inr (List.mem_cons_of_mem _ h)
theorem q17.app {s:AS} {id:Nat} (h:q17 s id) {dst:Option Tmp} {e:Ef} (hn:id∉e.names):q17 (s.app dst e) id:=by
 have hv:id∉e.v.ids:=fun hm=>hn (by unfold Ef.names;simp[hm]);have hu:∀p∈e.upd,p.1≠id∧∀b,p.2=some b→id∉b.ids:=by
  intro p hp;constructor
  ·intro he;exact hn (by unfold Ef.names;refine List.mem_append.2 (.inr (List.mem_flatMap.2 ⟨p,hp,?_⟩));simp[he])
  ·intro b hb hm;exact hn (by unfold Ef.names;refine List.mem_append.2 (.inr (List.mem_flatMap.2 ⟨p,hp,?_⟩));simp[hb,hm])
 have hne:∀{l:List Nat},id∉l→∀k∈l,Nat.beq k id=false:=fun hl k hk=>q1N.2 fun e=>hl (e▸hk);constructor
 ·exact h.ge
 ·show lk (q0Y s.S e.upd) id=none;rw[q4B fun p hp=>(hu p hp).1];exact h.no
 ·intro t v ht;cases dst with
  |none=>exact h.T t v ht
  |some d=>
   have ht':lk (put s.T d e.v) t=some v:=ht;rw[q1i]at ht';split at ht'
   ·simp only[Option.some.injEq]at ht';subst ht';exact q7O (hne hv)
   ·exact h.T t v ht'
 ·intro k blk hk;rcases qBj (show lk (q0Y s.S e.upd) k=some blk from hk)with h'|h'
  ·exact h.S k blk h'
  ·exact qCx (hne ((hu _ h').2 blk rfl))
theorem qI5 {p:Nat→Bool} {s:AS} {t:Nat} {v:V} (h:lk (purge p s).T t=some v):v=.undef∨(lk s.T t=some v∧V.ment p v=false):=by
 unfold purge at h;simp only[]at h;rw[qIe (qDl p)]at h;cases hl:lk s.T t with
 |none=>rw[hl]at h;simp at h
 |some u=>
  rw[hl]at h;simp only[Option.map_some,Option.some.injEq,qDl]at h;cases hm:V.ment p u with
  |true=>rw[hm]at h;exact .inl h.symm
  |false=>rw[hm]at h;subst h;exact .inr ⟨rfl,hm⟩
theorem q5A {p:Nat→Bool} {s:AS} {id:Nat} {b:Blk} (h:lk (purge p s).S id=some b):p id=false∧∃b',lk s.S id=some b'∧b=qC8 p b':=by
 unfold purge at h;simp only[]at h;rw[qIe (qC8 p),q9t (fun k=> !(p k))]at h;cases hp:p id with
 |true=>rw[hp]at h;simp at h
 |false=>
  rw[hp]at h;simp only[Bool.not_false,if_true]at h;cases hl:lk s.S id with
  |none=>rw[hl]at h;simp at h
  |some u=>rw[hl]at h;simp at h;exact⟨rfl,u,rfl,h.symm⟩
theorem qEf {p:Nat→Bool}:∀cs:List V,V.mentL p (cs.map (qDl p))=false
 |[]=>rfl
 |c::r=>by
  simp only[List.map,V.mentL,qEf r,Bool.or_false,qDl];cases h:V.ment p c with
  |true=>rfl
  |false=>exact h
theorem q6M {p:Nat→Bool} {s:AS} {id:Nat} (hp:p id=true) (hge:64≤id):q17 (purge p s) id:=by
 have himp:∀k,p k=false→Nat.beq k id=false:=fun k hk=>q1N.2 fun e=>by subst e;rw[hp]at hk;simp at hk
 have him:∀v,V.ment p v=false→V.ment (fun k=>Nat.beq k id) v=false:=by
  intro v hv;refine q7O fun k hk=>?_;cases hpk:p k with
  |true=>rw[qGg v k hk p hpk]at hv;simp at hv
  |false=>exact himp k hpk
 constructor
 ·exact hge
 ·cases h:lk (purge p s).S id with
  |none=>rfl
  |some b=>have:=(q5A h).1;rw[hp]at this;simp at this
 ·intro t v ht;rcases qI5 ht with rfl|⟨_,hm⟩
  ·rfl
  ·exact him v hm
 ·intro k b hk;obtain⟨_,b',_,rfl⟩:=q5A hk;cases b' with
  |mp=>rfl
  |arr=>rfl
  |box cs=>exact him (.agg _) (qEf cs)
theorem qAT.clear {w:World} {Fr:Nat→Nat→Prop} {ι:q1K} {b sz m:Nat} {blk:Blk} (h:qAT w Fr ι b sz m blk) (p:Nat→Bool):qAT w Fr ι b sz m (qC8 p blk):=by
 cases blk with
 |mp=>exact h
 |arr=>exact h
 |box cs=>
  obtain⟨cells,e,hh,hsz,hr⟩:=h;refine⟨cells,e,hh,by simpa using hsz,fun j hj=>?_⟩;have hj':j<cs.length:=by simpa using hj
  have:=hr j hj';have e1:(cs.map (qDl p)).getD j .undef=qDl p (cs.getD j .undef):=by
   simp[List.getD,hj']
  rw[e1];unfold qDl;cases V.ment p (cs.getD j .undef)with
  |true=>exact .atom rfl (.undef _)
  |false=>exact this
theorem Rel.purge {g:G} {s:AS} {a:Act} {w:World} {ι:q1K} {Fr:Nat→Nat→Prop} (h:Rel g s a w ι Fr) (p:Nat→Bool):Rel g (Go.Av.purge p s) a w ι Fr:=
 {h with
  tmp:=fun t v ht=>by
   rcases qI5 ht with rfl|⟨ht',_⟩
   ·exact .atom rfl (.undef _)
   ·exact h.tmp t v ht'
  own:=fun id blk b sz m hl hi=>by
   obtain⟨_,b',hb',rfl⟩:=q5A hl;have:=h.own id b' b sz m hb' hi;exact⟨this.1.clear p,this.2⟩
  nob:=fun id blk hl hi=>by
   obtain⟨_,b',hb',rfl⟩:=q5A hl;obtain⟨sz,hh,te,rfl⟩:=h.nob id b' hb' hi;exact⟨sz,hh,te,rfl⟩
  inj:=fun id id' blk blk' r r' h1 h2=>by
   obtain⟨_,b1,hb1,_⟩:=q5A h1;obtain⟨_,b2,hb2,_⟩:=q5A h2;exact h.inj id id' b1 b2 r r' hb1 hb2
  fr:=fun t b hb=>⟨(h.fr t b hb).1,(h.fr t b hb).2.1,fun id blk r hl=>by
   obtain⟨_,b',hb',_⟩:=q5A hl;exact(h.fr t b hb).2.2 id b' r hb'⟩ }
theorem Rel.only {g:G} {s:AS} {a:Act} {w:World} {ι:q1K} {Fr:Nat→Nat→Prop} (h:Rel g s a w ι Fr) (keep:List Nat):Rel g (s.only keep) a w ι Fr:=
 h.less (fun t v ht=>by
  have ht':lk (s.T.filter fun e=>mem e.1 keep) t=some v:=ht;rw[q9t (fun k=>mem k keep)]at ht';split at ht'
  ·exact ht'
  ·simp at ht') fun _ _ hl=>hl
theorem qFh {K:Prop}:∀{l:List Prop},obs l K→(∀p∈l,p)∧K
 |[],h=>⟨fun _ hp=>by simp at hp,h⟩
 |p::r,h=>by
  obtain⟨h1,h2⟩:=h;obtain⟨h3,h4⟩:=qFh (l:=r) h2;exact⟨fun q hq=>by
   rcases List.mem_cons.1 hq with rfl|hq
   ·exact h1
   ·exact h3 q hq,h4⟩
theorem qDh {Q:Exit→Act→World→Prop} {ops:Array Oper} (i n:Nat) (a:Act) (w:World):
  wpOps P ops Q (List.range' i (n+1)) a w=match ops[i]? with
   |none=>wpOps P ops Q (List.range' (i+1) n) a w
   |some o=>if Region.wanted o (yielded ops a.tmps)then o.wp P a w (wpOps P ops Q (List.range' (i+1) n)) Q∨(o.asks P a w∧LetsOut Q)
    else wpOps P ops Q (List.range' (i+1) n) (a.put o.dst undef) w:=by
 rw[List.range'_succ];rfl
include hT hD in
theorem qCR {g:G} (hnt:cx.nt=g.nt) {ops:List Oper} {K:AS→List Ef→Prop} {Q:Exit→Act→World→Prop} (hK:∀s' es' a w ι Fr,K s' es'→Rel g s' a w ι Fr→Q .normal a w):
  ∀(r pre:List Oper),ops=pre++r→∀(s:AS) (es:List Ef) (a:Act) (w:World) (ι:q1K) (Fr:Nat→Nat→Prop),Rel g s a w ι Fr→(∀id,q2l (q2x cx.nt r) id=true→q17 s id)→
   qF5 cx ops r s es K→wpOps P ops.toArray Q (List.range' pre.length r.length) a w
 |[],pre,_,s,es,a,w,ι,Fr,h,_,hr=>hK _ _ _ _ _ _ hr h
 |o::r,pre,hops,s,es,a,w,ι,Fr,h,hf,hr=>by
  have ho:ops.toArray[pre.length]?=some o:=by subst hops;simp
  rw[List.length_cons,qDh,ho];simp only[qF5]at hr;split at hr
  ·rename_i e he;split at hr
   ·rename_i hoff;obtain⟨hob,hr⟩:=qFh hr;replace hr:=qG2 hr;have hnames:∀id,q2l (q2x cx.nt r) id=true→id∉e.names:=by
     intro id hid hm;have:=(List.all_eq_true.1 hoff) id hm;rw[hid]at this;simp at this
    have hfr:∀id,id/64=qNb cx.nt o+1→q17 s id:=fun id hid=>hf id (by unfold q2l q2x mem;simp[hid]);have hnext:∀a' w' ι' Fr',Rel g (s.app o.dst e) a' w' ι' Fr'→wpOps P ops.toArray Q (List.range' (pre.length+1) r.length) a' w':=by
     intro a' w' ι' Fr' h';have:=qCR hnt hK r (pre++[o]) (by simp[hops]) (s.app o.dst e) (e::es) a' w' ι' Fr' h' (fun id hid=>(hf id (by
      unfold q2l q2x mem;have:mem (id/64) (q2x cx.nt r)=true:=hid;simp[this])).app (hnames id hid)) hr
     simpa using this
    have:=qGa hT hD h (ops:=ops) hnt hfr he hob (next:=wpOps P ops.toArray Q (List.range' (pre.length+1) r.length)) (Q:=Q) hnext;simp only[];split
    ·rename_i hw;rw[hw,if_pos rfl]at this;exact .inl this
    ·rename_i hw;rw[if_neg hw]at this;exact this
   ·exact hr.elim
  ·exact hr.elim
end
theorem qI9 {cx:Cx} {S:List (Nat×Blk)} {d:Nat} {ρ ρ':Operand→V} {op:Op} (h:∀x∈q1L op,ρ' x=ρ x):q1d cx S d ρ' op=q1d cx S d ρ op:=by
 have pairs:∀ps:Array (Nat×Operand),(∀x∈ps.toList.map (·.2),ρ' x=ρ x)→(ps.toList.map fun p=>(p.1,ρ' p.2))=ps.toList.map fun p=>(p.1,ρ p.2):=by
  intro ps hp;refine List.map_congr_left fun p hm=>?_;rw[hp p.2 (List.mem_map.2 ⟨p,hm,rfl⟩)]
 have lst:∀l:List Operand,(∀x∈l,ρ' x=ρ x)→l.map ρ'=l.map ρ:=fun l hl=>List.map_congr_left fun x hx=>hl x hx;have opt:∀o:Option Operand,(∀x∈qBU o,ρ' x=ρ x)→o.map ρ'=o.map ρ:=by
  intro o ho;cases o with
  |none=>rfl
  |some x=>simp only[Option.map_some];rw[ho x (by simp[qBU])]
 cases op with
 |move x=>simp only[q1d];rw[h x (by simp[q1L])]
 |assign x=>simp only[q1d];rw[h x (by simp[q1L])]
 |box e x=>simp only[q1d];rw[h x (by simp[q1L])]
 |build t ps=>simp only[q1d];rw[pairs ps h]
 |buildSlice t n ps=>simp only[q1d];rw[pairs ps h]
 |load t x=>simp only[q1d];rw[h x (by simp[q1L])]
 |store t x y=>simp only[q1d];rw[h x (by simp[q1L]),h y (by simp[q1L])]
 |nilCheck x=>simp only[q1d];rw[h x (by simp[q1L])]
 |binOp o t x y u=>simp only[q1d];rw[h x (by simp[q1L]),h y (by simp[q1L])]
 |unOp o t x=>simp only[q1d];rw[h x (by simp[q1L])]
 |convert s t x=>simp only[q1d];rw[h x (by simp[q1L])]
 |makeFunc fn first caps=>
  have h2:=lst caps.toList fun x hx=>h x (by simp only[q1L];exact List.mem_append.2 (.inr hx));cases fn<;>simp only[q1d];split<;>first|rfl|rw[h2]
 |makeSlice t x y=>simp only[q1d];rw[h x (by simp[q1L]),h y (by simp[q1L])]
 |slice t x lo hi mx=>
  simp only[q1d];rw[h x (by simp[q1L]),opt lo fun x hx=>h x (by simp[q1L,hx]),opt hi fun x hx=>h x (by simp[q1L,hx]),opt mx fun x hx=>h x (by simp[q1L,hx])]
 |fieldAddr s x f=>simp only[q1d];rw[h x (by simp[q1L])]
 |field s x f=>simp only[q1d];rw[h x (by simp[q1L])]
 |indexAddr t x i=>simp only[q1d];rw[h x (by simp[q1L]),h i (by simp[q1L])]
 |index t x i=>simp only[q1d];rw[h x (by simp[q1L]),h i (by simp[q1L])]
 |makeMap t r=>cases r<;>rfl
 |lookup t x i c=>simp only[q1d];rw[h x (by simp[q1L]),h i (by simp[q1L])]
 |mapUpdate t x i v=>simp only[q1d];rw[h x (by simp[q1L]),h i (by simp[q1L]),h v (by simp[q1L])]
 |extract x i=>simp only[q1d];rw[h x (by simp[q1L])]
 |call c=>
  have hargs:∀x∈c.args.toList,ρ' x=ρ x:=fun x hx=>h x (by simp only[q1L];exact List.mem_append.2 (.inr hx));simp only[q1d];split
  ·split
   ·rename_i x t rest e1 _;rw[hargs x (by rw[e1];simp)]
   ·rfl
  ·split
   ·rename_i x y t u rest e1 _;rw[hargs x (by rw[e1];simp),hargs y (by rw[e1];simp)]
   ·rfl
  ·split
   ·rename_i x t rest e1 _;rw[hargs x (by rw[e1];simp)]
   ·rfl
  ·split
   ·rename_i x y t u rest e1 _;rw[hargs x (by rw[e1];simp),hargs y (by rw[e1];simp)]
   ·rfl
  ·split
   ·rename_i x t rest e1 _;rw[hargs x (by rw[e1];simp)]
   ·rfl
  ·split
   ·rename_i x r e1;rw[hargs x (by rw[e1];simp),lst r fun y hy=>hargs y (by rw[e1];simp[hy])]
   ·rfl
  ·split
   ·rename_i x r e1;rw[hargs x (by rw[e1];simp),lst r fun y hy=>hargs y (by rw[e1];simp[hy])]
   ·rfl
  ·rename_i f hcal;rw[h f (by simp only[q1L,hcal,qJh];exact List.mem_append.2 (.inl (by simp))),lst _ hargs]
  ·rfl
 |_=>rfl
section
variable {S S':List (Nat×Blk)}
theorem qEq {t:Nat} {v:V} (h:∀id∈v.ids,lk S' id=lk S id):q6V S' t v=q6V S t v:=by
 cases v with
 |osl id n=>simp only[q6V];rw[h id (by simp[V.ids])]
 |_=>rfl
theorem qA4 {c:V} {cs:List V} (hc:c∈cs) {id:Nat} (hid:id∈c.ids):id∈V.idsL cs:=by
 induction cs with
 |nil=>simp at hc
 |cons x r ih=>
  simp only[V.idsL,List.mem_append];rcases List.mem_cons.1 hc with rfl|hc
  ·exact .inl hid
  ·exact .inr (ih hc)
theorem qHt {t:Nat} {v:V} (h:∀id∈v.ids,lk S' id=lk S id):frz S' t v=frz S t v:=by
 cases v with
 |agg cs=>simp only[frz];rw[List.map_congr_left fun c hc=>qEq (fun id hid=>h id (qA4 hc hid))]
 |osl id n=>exact qEq h
 |_=>rfl
theorem qJz {ti:TI} {a:V} {e:Ef} (h:qBl S ti a=some e) (hr:∀id∈e.rd,lk S' id=lk S id):qBl S' ti a=some e:=by
 cases a with
 |oref id i off=>
  have hm:id∈e.rd:=by
   simp only[qBl]at h;split at h
   ·split at h
    ·simp only[Option.some.injEq]at h;subst h;simp
    ·simp at h
   ·split at h
    ·simp only[Option.some.injEq]at h;subst h;simp
    ·simp at h
   ·simp at h
  simp only[qBl]at h⊢;rw[hr id hm];exact h
 |_=>exact h
theorem qIl {ti:TI} {a x:V} {e:Ef} (h:qBY S ti a x=some e) (hr:∀id∈e.rd,lk S' id=lk S id):qBY S' ti a x=some e:=by
 cases a with
 |oref id i off=>
  cases hb:Nat.beq x.cells.length ti.size&&q87 x with
  |false=>simp only[qBY,hb]at h;simp at h
  |true=>
   simp only[qBY,hb]at h⊢;cases hl:lk S id with
   |none=>rw[hl]at h;simp at h
   |some b=>
    rw[hl]at h;cases b with
    |mp=>simp at h
    |box cs=>
     have hm:id∈e.rd:=by
      simp only[]at h;split at h
      ·simp only[Option.some.injEq]at h;subst h;simp
      ·simp at h
     rw[hr id hm,hl];exact h
    |arr sz n g te=>
     have hm:id∈e.rd∧∀k∈x.ids,k∈e.rd:=by
      simp only[]at h;split at h
      ·simp only[Option.some.injEq]at h;subst h;exact⟨by simp,fun k hk=>by simp[hk]⟩
      ·simp at h
     rw[hr id hm.1,hl];simp only[];rw[qHt fun k hk=>hr k (hm.2 k hk)];exact h
 |_=>simp[qBY]at h
theorem qBv {tt:TT} {t:Nat} {x i:V} {e:Ef} (h:q3p tt S t x i=some e) (hr:∀id∈e.rd,lk S' id=lk S id):q3p tt S' t x i=some e:=by
 cases hti:q2Q tt t with
 |none=>simp[q3p,hti]at h
 |some ti=>
  cases x with
  |osl id n=>
   cases i with
   |int k j=>
    simp only[q3p,hti]at h⊢;have hm:id∈e.rd:=by
     split at h
     ·split at h
      ·simp only[Option.some.injEq]at h;subst h;simp
      ·simp at h
     ·simp at h
    rw[hr id hm];exact h
   |_=>simp[q3p,hti]at h
  |sl n g tg=>cases i<;>(simp only[q3p,hti]at h⊢;exact h)
  |_=>simp[q3p,hti]at h
theorem q9A {size te:Nat}:∀{parts:List (Nat×V)} {es:List V},(∀id∈parts.flatMap fun p=>p.2.ids,lk S' id=lk S id)→q6f size te S' es parts=q6f size te S es parts
 |[],_,_=>rfl
 |(i,x)::r,es,h=>by
  have e1:frz S' te x=frz S te x:=qHt fun id hid=>h id (by simp[hid]);simp only[q6f,e1];split
  ·exact q9A fun id hid=>h id (by simp only[List.flatMap_cons,List.mem_append];exact .inr hid)
  ·rfl
theorem qBQ {tt:TT} {site t len:Nat} {parts:List (Nat×V)} {e:Ef} (h:q5V tt S site t len parts=some e) (hr:∀id∈e.rd,lk S' id=lk S id):
  q5V tt S' site t len parts=some e:=by
 unfold q5V at h⊢;split at h
 ·rename_i ti h1;split at h
  ·have hrd:e.rd=parts.flatMap fun p=>p.2.ids:=by
    split at h
    ·simp only[Option.some.injEq]at h;subst h;rfl
    ·simp at h
   rw[q9A fun id hid=>hr id (by rw[hrd];exact hid)];exact h
  ·simp at h
 ·simp at h
theorem qAd {x:V} {m:Nat} {h:Nat→V} {th:Nat} {rd:List Nat} (hs:qDt S x=some (m,h,th,rd)) (hr:∀id∈rd,lk S' id=lk S id):qDt S' x=some (m,h,th,rd):=by
 cases x with
 |osl id n=>
  have hm:id∈rd:=by
   simp only[qDt]at hs;split at hs
   ·simp only[Option.some.injEq,Prod.mk.injEq]at hs;rw[←hs.2.2.2];simp
   ·simp at hs
  simp only[qDt]at hs⊢;rw[hr id hm];exact hs
 |_=>exact hs
theorem qFY {tt:TT} {site t:Nat} {s x:V} {e:Ef} (h:q8H tt S site t s x=some e) (hr:∀id∈e.rd,lk S' id=lk S id):q8H tt S' site t s x=some e:=by
 unfold q8H at h⊢;cases hti:q2Q tt t with
 |none=>rw[hti]at h;simp at h
 |some ti=>
  cases hx:qDt S x with
  |none=>rw[hti,hx]at h;simp at h
  |some q=>
   obtain⟨m,f,th,rd⟩:=q;rw[hti,hx]at h;simp only[]at h;have hrd:∀id∈rd,id∈e.rd:=by
    intro id hid;split at h
    ·split at h
     ·simp only[Option.some.injEq]at h;subst h;exact hid
     ·split at h
      ·split at h
       ·split at h
        ·simp only[Option.some.injEq]at h;subst h;exact List.mem_cons_of_mem _ hid
        ·simp at h
       ·simp at h
      ·simp at h
     ·simp at h
    ·simp at h
   rw[qAd hx fun id hid=>hr id (hrd id hid)];simp only[];cases s with
   |osl id n=>
    have hm:id∈e.rd:=by
     split at h
     ·simp only[]at h;split at h
      ·split at h
       ·split at h
        ·simp only[Option.some.injEq]at h;subst h;simp
        ·simp at h
       ·simp at h
      ·simp at h
     ·simp at h
    simp only[]at h⊢;rw[hr id hm];exact h
   |_=>exact h
theorem qFz {tt:TT} {site t:Nat} {s x:V} {e:Ef} (h:q7a tt S site t s x=some e) (hr:∀id∈e.rd,lk S' id=lk S id):q7a tt S' site t s x=some e:=by
 unfold q7a at h⊢;cases hti:q2Q tt t with
 |none=>rw[hti]at h;simp at h
 |some ti=>
  cases hx:qDt S x with
  |none=>rw[hti,hx]at h;simp at h
  |some q=>
   obtain⟨m,f,th,rd⟩:=q;rw[hti,hx]at h;simp only[]at h;have hrd:∀id∈rd,id∈e.rd:=by
    intro id hid;split at h
    ·split at h
     ·simp only[Option.some.injEq]at h;subst h;exact hid
     ·split at h
      ·split at h
       ·split at h
        ·simp only[Option.some.injEq]at h;subst h;exact List.mem_cons_of_mem _ hid
        ·simp at h
       ·simp at h
      ·simp at h
     ·simp at h
    ·simp at h
   rw[qAd hx fun id hid=>hr id (hrd id hid)];simp only[];cases s with
   |osl id n=>
    have hm:id∈e.rd:=by
     split at h
     ·simp only[]at h;split at h
      ·split at h
       ·split at h
        ·simp only[Option.some.injEq]at h;subst h;simp
        ·simp at h
       ·simp at h
      ·simp at h
     ·simp at h
    simp only[]at h⊢;rw[hr id hm];exact h
   |_=>exact h
theorem qEP {x:V} {m th:Nat} {f:Nat→V} {rd:List Nat} (hs:qPJ S x=some (m,f,th,rd)) (hr:∀id∈rd,lk S' id=lk S id):qPJ S' x=some (m,f,th,rd):=by
 cases x with
 |oss id lo n c e=>
  have hm:id∈rd:=by
   simp only[qPJ]at hs;split at hs
   ·simp only[Option.some.injEq,Prod.mk.injEq]at hs;rw[←hs.2.2.2];simp
   ·simp at hs
  simp only[qPJ]at hs⊢;rw[hr id hm];exact hs
 |_=>
  simp only[qPJ]at hs⊢;exact qAd hs hr
theorem qJM {tt:TT} {t:Nat} {x y:V} {e:Ef} (h:qMi tt S t x y=some e) (hr:∀id∈e.rd,lk S' id=lk S id):qMi tt S' t x y=some e:=by
 unfold qMi at h⊢;split at h
 ·rename_i ti id lo n m H th rd hti hp hs;split at h
  ·rename_i sz k g te hl;split at h
   ·rename_i hb;simp only[Option.some.injEq]at h;subst h;have h1:lk S' id=lk S id:=hr id (List.mem_cons_self ..);simp only[hti,hp,qEP hs (fun id hid=>hr id (List.mem_cons_of_mem _ hid)),h1,hl,hb]
   ·simp at h
  ·simp at h
 ·simp at h
theorem qGi {tt:TT} {t:Nat} {x:V} {e:Ef} (h:qEo tt S t x=some e) (hr:∀id∈e.rd,lk S' id=lk S id):qEo tt S' t x=some e:=by
 unfold qEo at h⊢;split at h
 ·rename_i ti id lo n hti hp;split at h
  ·rename_i sz k g te hl;split at h
   ·rename_i hb;simp only[Option.some.injEq]at h;subst h;have h1:lk S' id=lk S id:=hr id (List.mem_cons_self ..);simp only[hti,hp,h1,hl,hb]
   ·simp at h
  ·simp at h
 ·simp at h
theorem qHP {tt:TT} {t:Nat} {x:V} {lo hi mx:Option V} {e:Ef} (h:qEi tt S t x lo hi mx=some e) (hr:∀id∈e.rd,lk S' id=lk S id):qEi tt S' t x lo hi mx=some e:=by
 unfold qEi at h⊢;split at h
 ·rename_i id n l hi' b1 b2;split at h
  ·rename_i ti sz m F te hti hl;split at h
   ·rename_i hb;simp only[Option.some.injEq]at h;subst h;have h1:lk S' id=lk S id:=hr id (List.mem_cons_self ..);simp only[b1,b2,hti,h1,hl,hb]
   ·simp at h
  ·simp at h
 ·rename_i id o n c ee l hi' b1 b2;split at h
  ·rename_i ti sz m F te hti hl;split at h
   ·rename_i hb;simp only[Option.some.injEq]at h;subst h;have h1:lk S' id=lk S id:=hr id (List.mem_cons_self ..);simp only[b1,b2,hti,h1,hl,hb]
   ·simp at h
  ·simp at h
 ·exact h
 ·exact h
theorem qFV {tt:TT} {site t:Nat} {s x:V} {e:Ef} (h:q8U tt S site t s x=some e) (hr:∀id∈e.rd,lk S' id=lk S id):q8U tt S' site t s x=some e:=by
 cases s with
 |oss id o n c ee=>
  simp only[q8U]at h⊢;split at h
  ·exact qFz h hr
  ·split at h
   ·rename_i ti m H th rd sz k g te hti hs hl;split at h
    ·rename_i hb;simp only[Option.some.injEq]at h;subst h;have h1:lk S' id=lk S id:=hr id (List.mem_cons_self ..);simp only[hti,qEP hs (fun id hid=>hr id (List.mem_cons_of_mem _ hid)),h1,hl,hb]
    ·simp at h
   ·simp at h
  ·simp at h
 |_=>
  simp only[q8U]at h⊢;exact qFY h hr
theorem qGX {tt:TT} {site t:Nat} {s x:V} {e:Ef} (h:qAu tt S site t s x=some e) (hr:∀id∈e.rd,lk S' id=lk S id):qAu tt S' site t s x=some e:=by
 unfold qAu at h⊢;split at h
 ·rename_i ti id o n c k m hti;split at h
  ·rename_i sz k g te hl hb;split at h
   ·rename_i hb2;simp only[Option.some.injEq]at h;subst h;have h1:lk S' id=lk S id:=hr id (List.mem_cons_self ..);simp only[hti,h1,hl,hb,hb2]
   ·simp at h
  ·simp at h
 ·simp at h
theorem qBA:∀{ids:List Nat},(∀id∈ids,lk S' id=lk S id)→qUB S' ids=qUB S ids
 |[],_=>rfl
 |id::r,h=>by
  simp only[qUB];rw[h id (List.mem_cons_self ..),qBA fun k hk=>h k (List.mem_cons_of_mem _ hk)]
theorem qIy {cx:Cx} {d f:Nat} {args:List V} {e:Ef} (h:qMC cx S d f args=some e) (hr:∀id∈e.rd,lk S' id=lk S id):qMC cx S' d f args=some e:=by
 unfold qMC at h⊢;cases hD:cx.D f with
 |none=>rw[hD]at h;simp at h
 |some q=>
  obtain⟨io,D⟩:=q;rw[hD]at h;cases io with
  |ro=>
   simp only[]at h⊢;have hrd:e.rd=q3U S args:=by
    split at h
    ·split at h
     ·simp only[Option.some.injEq]at h;subst h;rfl
     ·simp only[Option.some.injEq]at h;subst h;rfl
     ·simp at h
    ·simp at h
   rw[hrd]at hr;have h1:∀id∈V.idsL args,lk S' id=lk S id:=fun id hid=>hr id (by unfold q3U;exact List.mem_append.2 (.inl hid));have h2:∀id∈V.idsL args,∀b,lk S id=some b→∀k∈b.ids,lk S' k=lk S k:=fun id hid b hb k hk=>
    hr k (by unfold q3U;refine List.mem_append.2 (.inr (List.mem_flatMap.2 ⟨id,hid,?_⟩));rw[hb];exact hk)
   have e1:args.map (qJv S')=args.map (qJv S):=List.map_congr_left fun v hv=>qAz (fun k hk=>h1 k (qA4 hv hk)) fun k hk=>h2 k (qA4 hv hk);have e2:q3U S' args=q3U S args:=by
    unfold q3U;congr 1;rw[List.flatMap_def,List.flatMap_def,List.map_congr_left fun k hk=>by rw[h1 k hk]]
   rw[e1,e2];exact h
  |mv=>
   simp only[]at h⊢;have hrd:e.rd=q84 (V.idsL (args.filter qEI))++q3U S args:=by
    split at h
    ·split at h
     ·split at h
      ·simp only[Option.some.injEq]at h;subst h;rfl
      ·simp at h
     ·simp at h
    ·simp at h
   rw[hrd]at hr;have h0:∀id∈q84 (V.idsL (args.filter qEI)),lk S' id=lk S id:=fun id hid=>hr id (List.mem_append.2 (.inl hid));have h1:∀id∈V.idsL args,lk S' id=lk S id:=fun id hid=>hr id (List.mem_append.2 (.inr (by unfold q3U;exact List.mem_append.2 (.inl hid))));have h2:∀id∈V.idsL args,∀b,lk S id=some b→∀k∈b.ids,lk S' k=lk S k:=fun id hid b hb k hk=>
    hr k (List.mem_append.2 (.inr (by unfold q3U;refine List.mem_append.2 (.inr (List.mem_flatMap.2 ⟨id,hid,?_⟩));rw[hb];exact hk)))
   have e2:q3U S' args=q3U S args:=by
    unfold q3U;congr 1;rw[List.flatMap_def,List.flatMap_def,List.map_congr_left fun k hk=>by rw[h1 k hk]]
   have e3:∀ids:List Nat,args.map (mvA (q0Y S' (ids.map fun id=>(id,none))) ids)=args.map (mvA (q0Y S (ids.map fun id=>(id,none))) ids):=fun ids=>
    List.map_congr_left fun v hv=>by
     have hl:qJv (q0Y S' (ids.map fun id=>(id,none))) v=qJv (q0Y S (ids.map fun id=>(id,none))) v:=
      qAz (fun k hk=>by rw[q2b,q2b,h1 k (qA4 hv hk)]) fun k hk b hb k2 hk2=>by
       rw[q2b,q2b];rw[q2b]at hb;by_cases e:k∈ids
       ·simp[e]at hb
       ·simp only[e,if_false]at hb;rw[h2 k (qA4 hv hk) b hb k2 hk2]
     cases v<;>first|rfl|exact hl
   rw[qBA h0,e2,e3];exact h
  |rw=>
   simp only[]at h⊢;have hrd:e.rd=q84 (V.idsL args):=by
    split at h
    ·split at h
     ·split at h
      ·simp only[Option.some.injEq]at h;subst h;rfl
      ·simp at h
     ·simp at h
    ·simp at h
   rw[qBA fun id hid=>hr id (by rw[hrd];exact hid)];exact h
theorem qGC {tt:TT} {t:Nat} {x ix:V} {c:Bool} {e:Ef} (h:qBO tt S t x ix c=some e) (hr:∀id∈e.rd,lk S' id=lk S id):qBO tt S' t x ix c=some e:=by
 unfold qBO at h⊢;split at h
 ·rename_i ti id k n hti;have hm:id∈e.rd:=by
   split at h
   ·split at h
    ·simp only[Option.some.injEq]at h;subst h;simp
    ·simp at h
   ·simp at h
  rw[hr id hm];exact h
 ·simp at h
theorem qBo {tt:TT} {t:Nat} {x ix v:V} {e:Ef} (h:q68 tt S t x ix v=some e) (hr:∀id∈e.rd,lk S' id=lk S id):q68 tt S' t x ix v=some e:=by
 unfold q68 at h⊢;split at h
 ·rename_i ti id k n hti;have hm:id∈e.rd:=by
   split at h
   ·simp only[Option.some.injEq]at h;subst h;simp
   ·simp at h
  rw[hr id hm];exact h
 ·simp at h
theorem qJL {tt:TT} {src dst:Nat} {x:V} {e:Ef} (h:qMD tt S src dst x=some e) (hr:∀id∈e.rd,lk S' id=lk S id):qMD tt S' src dst x=some e:=by
 unfold qMD at h⊢;cases x with
 |osl id n=>
  simp only at h⊢;have hm:id∈e.rd:=by
   split at h
   ·split at h
    ·simp only[Option.some.injEq]at h;subst h;simp
    ·simp at h
   ·simp at h
  rw[hr id hm];exact h
 |_=>exact h
theorem qGj {cx:Cx} {d:Nat} {ρ:Operand→V} {op:Op} {e:Ef} (h:q1d cx S d ρ op=some e) (hr:∀id∈e.rd,lk S' id=lk S id):q1d cx S' d ρ op=some e:=by
 cases op with
 |buildSlice t n ps=>exact qBQ h hr
 |load t x=>
  simp only[q1d]at h⊢;split at h
  ·exact qJz h hr
  ·simp at h
 |store t x y=>
  simp only[q1d]at h⊢;split at h
  ·exact qIl h hr
  ·simp at h
 |indexAddr t x i=>exact qBv h hr
 |slice t x lo hi mx=>exact qHP h hr
 |convert a b x=>exact qJL h hr
 |makeMap t r=>cases r<;>exact h
 |lookup t x i c=>exact qGC h hr
 |mapUpdate t x i v=>exact qBo h hr
 |call c=>
  simp only[q1d]at h⊢;split at h
  ·exact h
  ·split at h
   ·split at h
    ·exact qFV h hr
    ·split at h
     ·exact qGX h hr
     ·simp at h
   ·simp at h
  ·exact h
  ·split at h
   ·split at h
    ·exact qJM h hr
    ·simp at h
   ·simp at h
  ·split at h
   ·exact qGi h hr
   ·simp at h
  ·exact h
  ·exact h
  ·split at h
   ·exact qIy h hr
   ·simp at h
  ·simp at h
 |makeFunc fn first caps=>cases fn<;>exact h
 |_=>exact h
end
theorem q8u {s s':AS} {x:Operand} (h:∀t,x=.tmp t→lk s'.T t=lk s.T t):q20 s' x=q20 s x:=by
 cases x with
 |tmp t=>simp only[q20];rw[h t rfl]
 |_=>rfl
theorem qCH {cx:Cx} {s s':AS} {gd:Bool} {d:Nat} {op:Op} {e:Ef} (h:opE cx s gd d op=some e)
  (hT:∀t,.tmp t∈qJ0 op→lk s'.T t=lk s.T t) (hS:∀id∈e.rd,lk s'.S id=lk s.S id):opE cx s' gd d op=some e:=by
 have key:(∃c x y,op=.pick c x y)∨(qJ0 op=q1L op∧∀s:AS,opE cx s gd d op=qNA ((q1L op).flatMap fun x=>qCQ gd (q20 s x)) (q1d cx s.S d (fun x=>q1H (q20 s x)) op)):=by
  cases op<;>first|exact .inl ⟨_,_,_,rfl⟩|exact .inr ⟨rfl,fun _=>rfl⟩
 rcases key with⟨c,x,y,rfl⟩|⟨hk,key⟩
 ·have h1:q20 s' c=q20 s c:=q8u fun t ht=>hT t (by simp[qJ0,ht]);have h2:q20 s' x=q20 s x:=q8u fun t ht=>hT t (by simp[qJ0,ht]);have h3:q20 s' y=q20 s y:=q8u fun t ht=>hT t (by simp[qJ0,ht]);simp only[opE]at h⊢;rw[h1,h2,h3];exact h
 ·rw[hk]at hT;rw[key]at h⊢;have ha:∀x∈q1L op,q20 s' x=q20 s x:=fun x hx=>q8u fun t ht=>hT t (ht▸hx);have e1:((q1L op).flatMap fun x=>qCQ gd (q20 s' x))=(q1L op).flatMap fun x=>qCQ gd (q20 s x):=by
   rw[List.flatMap_def,List.flatMap_def,List.map_congr_left fun x hx=>by rw[ha x hx]]
  rw[e1];obtain⟨e',he',rfl⟩:=qAm h;rw[qI9 (ρ:=fun x=>q1H (q20 s x)) fun x hx=>by rw[ha x hx],qGj he' hS];rfl
theorem qIt {cx:Cx} {ops:List Oper} {s s':AS} {o:Oper} {e:Ef} (h:qDr cx ops s o=some e) (hT:∀t∈q9N ops o,lk s'.T t=lk s.T t) (hS:∀id∈e.rd,lk s'.S id=lk s.S id):
  qDr cx ops s' o=some e:=by
 have hop:∀t,.tmp t∈qJ0 o.op→lk s'.T t=lk s.T t:=by
  intro t ht;refine hT t ?_;unfold q9N;refine List.mem_append.2 (.inl ?_);unfold qUS;exact List.mem_filterMap.2 ⟨_,ht,rfl⟩
 have hgd:q9O ops s' o=q9O ops s o:=by
  unfold q9O;cases hg:o.guard with
  |none=>rfl
  |some jw=>
   obtain⟨j,want⟩:=jw;simp only[];cases hj:ops[j]? with
   |none=>rfl
   |some oj=>
    simp only[];cases ht:oj.dst with
    |none=>rfl
    |some t=>
     simp only[];rw[hT t (by unfold q9N;refine List.mem_append.2 (.inr ?_);rw[hg];simp[hj,ht])]
 unfold qDr at h⊢;rw[hgd];split at h
 ·exact qCH h hop hS
 ·rename_i gd hg hd;split at h
  ·rename_i v rd ob he;simp only[Option.some.injEq]at h;subst h;rw[qCH he hop hS]
  ·rename_i v id new rd ob he;split at h
   ·rename_i old hold;split at h
    ·rename_i m ps hmerge;simp only[Option.some.injEq]at h;subst h;rw[qCH he hop fun k hk=>hS k (List.mem_cons_of_mem _ hk)];simp only[];rw[hS id (List.mem_cons_self ..),hold];simp only[];rw[hmerge]
    ·simp at h
   ·simp at h
  ·simp at h
 ·simp at h
def qGh (s s':AS):Prop:=(∀t,lk s.T t=lk s'.T t)∧∀id,lk s.S id=lk s'.S id
theorem qGh.rfl' {s:AS}:qGh s s:=⟨fun _=>rfl,fun _=>rfl⟩
theorem qGh.trans {s s' s'':AS} (h:qGh s s') (h':qGh s' s''):qGh s s'':=⟨fun t=>(h.1 t).trans (h'.1 t),fun t=>(h.2 t).trans (h'.2 t)⟩
theorem qGh.symm {s s':AS} (h:qGh s s'):qGh s' s:=⟨fun t=>(h.1 t).symm,fun t=>(h.2 t).symm⟩
theorem q3Q {upd:List (Nat×Option Blk)}:∀{S S':List (Nat×Blk)} {id:Nat},lk S id=lk S' id→lk (q0Y S upd) id=lk (q0Y S' upd) id:=by
 induction upd with
 |nil=>intro S S' id h;exact h
 |cons p r ih=>
  intro S S' id h;obtain⟨k,b⟩:=p;cases b with
  |none=>exact ih (by rw[q7y,q7y,h])
  |some b=>exact ih (by rw[q1i,q1i,h])
theorem qE0 {upd:List (Nat×Option Blk)}:∀{S S':List (Nat×Blk)} {id:Nat},(∃p∈upd,p.1=id)→lk (q0Y S upd) id=lk (q0Y S' upd) id:=by
 induction upd with
 |nil=>rintro S S' id ⟨p,hp,_⟩;simp at hp
 |cons q r ih=>
  intro S S' id h;obtain⟨k,b⟩:=q;by_cases hk:id=k
  ·cases b with
   |none=>exact q3Q (S:=del S k) (S':=del S' k) (by rw[q7y,q7y];simp[hk])
   |some b=>exact q3Q (S:=put S k b) (S':=put S' k b) (by rw[q1i,q1i];simp[hk])
  ·have hr:∃p∈r,p.1=id:=by
    obtain⟨p,hp,he⟩:=h;rcases List.mem_cons.1 hp with rfl|hp
    ·exact absurd he.symm hk
    ·exact⟨p,hp,he⟩
   cases b with
   |none=>exact ih hr
   |some b=>exact ih hr
theorem qGh.app {s s':AS} (h:qGh s s') (dst:Option Tmp) (e:Ef):qGh (s.app dst e) (s'.app dst e):=by
 refine⟨fun t=>?_,fun id=>q3Q (h.2 id)⟩;cases dst with
 |none=>exact h.1 t
 |some d=>
  show lk (put s.T d e.v) t=lk (put s'.T d e.v) t;rw[q1i,q1i,h.1 t]
structure qTy (o:Oper) (e:Ef) (o':Oper) (e':Ef):Prop where
 dst:∀d,o.dst=some d→o'.dst≠some d
 upd:∀p∈e.upd,∀q∈e'.upd,p.1≠q.1
theorem qS0 {s:AS} {o o':Oper} {e e':Ef} (h:qTy o e o' e'):qGh ((s.app o.dst e).app o'.dst e') ((s.app o'.dst e').app o.dst e):=by
 constructor
 ·intro t;cases h1:o.dst with
  |none=>rfl
  |some d=>
   cases h2:o'.dst with
   |none=>rfl
   |some d'=>
    have hne:d≠d':=fun he=>h.dst d h1 (by rw[h2,he]);show lk (put (put s.T d e.v) d' e'.v) t=lk (put (put s.T d' e'.v) d e.v) t;simp only[q1i];by_cases a:t=d'<;>by_cases b:t=d<;>simp[a,b]
    ·exact absurd (b.symm.trans a) hne
    ·intro hh;exact absurd hh.symm hne
    ·intro hh;exact absurd hh hne
 ·intro id;show lk (q0Y (q0Y s.S e.upd) e'.upd) id=lk (q0Y (q0Y s.S e'.upd) e.upd) id;by_cases h1:∃p∈e.upd,p.1=id
  ·obtain⟨p,hp,he⟩:=h1;rw[q4B (S:=q0Y s.S e.upd) (upd:=e'.upd) fun q hq hqe=>h.upd p hp q hq (he.trans hqe.symm)];exact qE0 ⟨p,hp,he⟩
  ·rw[q4B (upd:=e.upd) fun p hp he=>h1 ⟨p,hp,he⟩];exact q3Q (q4B fun p hp he=>h1 ⟨p,hp,he⟩)
def q3k (D:Nat→Bool):List (Oper×Ef)→Nat→AS→AS
 |[],_,s=>s
 |p::r,i,s=>q3k D r (i+1) (if D i then s.app p.1.dst p.2 else s)
theorem q9P {D D':Nat→Bool}:∀{L:List (Oper×Ef)} {k:Nat} {s:AS},(∀j,k≤j→j<k+L.length→D j=D' j)→q3k D L k s=q3k D' L k s
 |[],_,_,_=>rfl
 |p::r,k,s,h=>by
  simp only[q3k];rw[h k (Nat.le_refl _) (by simp),q9P fun j h1 h2=>h j (by omega) (by simp only[List.length_cons];omega)]
theorem qF3 {D:Nat→Bool}:∀{L:List (Oper×Ef)} {k:Nat} {s s':AS},qGh s s'→qGh (q3k D L k s) (q3k D L k s')
 |[],_,_,_,h=>h
 |p::r,k,s,s',h=>by
  simp only[q3k];refine qF3 ?_;split
  ·exact h.app _ _
  ·exact h
theorem qBD {D:Nat→Bool}:∀{L:List (Oper×Ef)} {k:Nat} {s:AS},(∀j,k≤j→D j=false)→q3k D L k s=s
 |[],_,_,_=>rfl
 |p::r,k,s,h=>by
  simp only[q3k,h k (Nat.le_refl _)];exact qBD fun j hj=>h j (by omega)
theorem q9H {D:Nat→Bool}:∀{L:List (Oper×Ef)} {k:Nat} {s:AS},q3k D L (k+1) s=q3k (fun j=>D (j+1)) L k s
 |[],_,_=>rfl
 |p::r,k,s=>by simp only[q3k];exact q9H
theorem qE6 {D:Nat→Bool} {o:Oper} {e:Ef}:∀{L:List (Oper×Ef)} {k:Nat} {s:AS},(∀j p,L[j]?=some p→D (k+j)=true→qTy o e p.1 p.2)→
  qGh (q3k D L k (s.app o.dst e)) ((q3k D L k s).app o.dst e)
 |[],_,_,_=>qGh.rfl'
 |p::r,k,s,h=>by
  have ih:=fun s=>qE6 (D:=D) (o:=o) (e:=e) (L:=r) (k:=k+1) (s:=s) fun j q hj hd=>h (j+1) q (by simpa using hj) (by rw[←hd];congr 1;omega);simp only[q3k];cases hd:D k with
  |true=>
   have:=qS0 (s:=s) (h 0 p (by simp) (by simpa using hd));exact(qF3 this).trans (ih _)
  |false=>exact ih _
theorem qHS {D:Nat→Bool} {o:Oper} {e:Ef} {i:Nat}:∀{L:List (Oper×Ef)} {k j:Nat} {s:AS},i=k+j→L[j]?=some (o,e)→D i=false→
  (∀j' p,L[j']?=some p→i<k+j'→D (k+j')=true→qTy o e p.1 p.2)→qGh (q3k (fun x=>D x||Nat.beq x i) L k s) ((q3k D L k s).app o.dst e)
 |[],_,_,_,_,h,_,_=>by simp at h
 |p::r,k,0,s,hi,hp,hD,ha=>by
  have hp':p=(o,e):=by simpa using hp
  subst hp';have hik:i=k:=by omega
  subst hik;simp only[q3k,hD,q0y.2 rfl,Bool.false_or,if_true,Bool.false_eq_true,if_false];rw[q9P (D':=D) fun j h1 _=>by rw[q1N.2 (by omega:j≠i)];simp];exact qE6 fun j q hq hd=>ha (j+1) q (by simpa using hq) (by omega) (by rw[←hd];congr 1;omega)
 |p::r,k,j+1,s,hi,hp,hD,ha=>by
  have hk:Nat.beq k i=false:=q1N.2 (by omega);simp only[q3k,hk,Bool.or_false];exact qHS (j:=j) (by omega) (by simpa using hp) hD fun j' q hq hlt hd=>ha (j'+1) q (by simpa using hq) (by omega) (by rw[←hd];congr 1;omega)
theorem qRe {D D':Nat→Bool} {t:Nat}:∀{L:List (Oper×Ef)} {k:Nat} {s s':AS},lk s.T t=lk s'.T t→(∀j p,L[j]?=some p→D (k+j)≠D' (k+j)→p.1.dst≠some t)→
  lk (q3k D L k s).T t=lk (q3k D' L k s').T t
 |[],_,_,_,h,_=>h
 |p::r,k,s,s',h,ha=>by
  simp only[q3k];refine qRe ?_ fun j q hq hne=>ha (j+1) q (by simpa using hq) (by rw[show k+(j+1)=k+1+j by omega];exact hne);have hone:∀s:AS,p.1.dst≠some t→lk (s.app p.1.dst p.2).T t=lk s.T t:=by
   intro s hne;cases hd:p.1.dst with
   |none=>rfl
   |some d=>
    show lk (put s.T d p.2.v) t=lk s.T t;rw[q1i];have:t≠d:=fun e=>hne (by rw[hd,e]);simp[this]
  have hboth:lk (s.app p.1.dst p.2).T t=lk (s'.app p.1.dst p.2).T t:=by
   cases hd:p.1.dst with
   |none=>exact h
   |some d=>
    show lk (put s.T d p.2.v) t=lk (put s'.T d p.2.v) t;rw[q1i,q1i,h]
  have hk:=ha 0 p (by simp);rw[Nat.add_zero]at hk;cases h1:D k<;>cases h2:D' k<;>simp only[if_true,Bool.false_eq_true,if_false]
  ·exact h
  ·rw[hone s' (hk (by rw[h1,h2];simp))];exact h
  ·rw[hone s (hk (by rw[h1,h2];simp))];exact h
  ·exact hboth
theorem qP1 {D D':Nat→Bool} {id:Nat}:∀{L:List (Oper×Ef)} {k:Nat} {s s':AS},lk s.S id=lk s'.S id→(∀j p,L[j]?=some p→D (k+j)≠D' (k+j)→∀q∈p.2.upd,q.1≠id)→
  lk (q3k D L k s).S id=lk (q3k D' L k s').S id
 |[],_,_,_,h,_=>h
 |p::r,k,s,s',h,ha=>by
  simp only[q3k];refine qP1 ?_ fun j q hq hne=>ha (j+1) q (by simpa using hq) (by rw[show k+(j+1)=k+1+j by omega];exact hne);have hone:∀s:AS,(∀q∈p.2.upd,q.1≠id)→lk (s.app p.1.dst p.2).S id=lk s.S id:=fun s hne=>q4B hne;have hboth:lk (s.app p.1.dst p.2).S id=lk (s'.app p.1.dst p.2).S id:=q3Q h;have hk:=ha 0 p (by simp);rw[Nat.add_zero]at hk;cases h1:D k<;>cases h2:D' k<;>simp only[if_true,Bool.false_eq_true,if_false]
  ·exact h
  ·rw[hone s' (hk (by rw[h1,h2];simp))];exact h
  ·rw[hone s (hk (by rw[h1,h2];simp))];exact h
  ·exact hboth
theorem qDB {D:Nat→Bool} {id:Nat}:∀{L:List (Oper×Ef)} {k:Nat} {s:AS},q17 s id→(∀j p,L[j]?=some p→D (k+j)=true→id∉p.2.names)→q17 (q3k D L k s) id
 |[],_,_,h,_=>h
 |p::r,k,s,h,ha=>by
  simp only[q3k];refine qDB ?_ fun j q hq hd=>ha (j+1) q (by simpa using hq) (by rw[←hd];congr 1;omega);split
  ·rename_i hd;exact h.app (ha 0 p (by simp) (by simpa using hd))
  ·exact h
theorem qBX {cx:Cx} {ops:List Oper} {K:AS→List Ef→Prop}:∀{r:List Oper} {s:AS} {es:List Ef},qF5 cx ops r s es K→
  ∃L:List (Oper×Ef),L.map (·.1)=r∧(∀i p,L[i]?=some p→qDr cx ops (q3k (fun j=>decide (j<i)) L 0 s) p.1=some p.2∧(∀q∈p.2.ob,q)∧qBy cx.nt (r.drop (i+1)) p.2=true)∧
   K (q3k (fun _=>true) L 0 s) ((L.map (·.2)).reverse++es)
 |[],s,es,h=>⟨[],rfl,fun i p hp=>by simp at hp,h⟩
 |o::r,s,es,h=>by
  simp only[qF5]at h;split at h
  ·rename_i e he;split at h
   ·rename_i hoff;obtain⟨hob,h⟩:=qFh h;replace h:=qG2 h;obtain⟨L,hL,hf,hK⟩:=qBX h;refine⟨(o,e)::L,by simp[hL],fun i p hp=>?_,?_⟩
    ·cases i with
     |zero=>
      have hp':(o,e)=p:=by simpa using hp
      subst hp';rw[qBD fun j _=>by simp];exact⟨he,hob,by simpa using hoff⟩
     |succ i=>
      have:=hf i p (by simpa using hp);refine⟨?_,this.2.1,by simpa using this.2.2⟩;simp only[q3k];rw[q9H];simp only[Nat.zero_lt_succ,decide_true,if_true,Nat.add_lt_add_iff_right];exact this.1
    ·simp only[q3k,if_true];rw[q9H];simpa using hK
   ·exact h.elim
  ·exact h.elim
theorem q8N:∀(r:List Oper) (acc:List (List Nat)) (j:Nat),j<acc.length→(q50 r acc).getD j []=acc.getD j []
 |[],_,_,_=>rfl
 |o::r,acc,j,h=>by
  simp only[q50];rw[q8N r _ j (by simp;omega)];simp[List.getD,List.getElem?_append_left h]
theorem qDj {k:Nat}:∀{l:List Nat},k∈q84 l→k∈l
 |[],h=>h
 |x::r,h=>by
  simp only[q84]at h;split at h
  ·exact List.mem_cons_of_mem _ (qDj h)
  ·rcases List.mem_cons.1 h with rfl|h
   ·exact List.mem_cons_self ..
   ·exact List.mem_cons_of_mem _ (qDj h)
theorem qAH:∀{r:List Oper} {acc:List (List Nat)} {i:Nat} {o:Oper},r[i]?=some o→∀k∈(q50 r acc).getD (acc.length+i) [],
  k∈q4A o∨∃j∈q4A o,k∈(q50 r acc).getD j []
 |[],_,_,_,h,_,_=>by simp at h
 |o::r,acc,0,o',h,k,hk=>by
  have ho:o=o':=by simpa using h
  subst ho;simp only[q50]at hk⊢;rw[q8N r _ _ (by simp)]at hk;have e1:(acc++[q84 (q4A o++(q4A o).flatMap fun i=>acc.getD i [])]).getD (acc.length+0) []=q84 (q4A o++(q4A o).flatMap fun i=>acc.getD i []):=by simp[List.getD]
  rw[e1]at hk;rcases List.mem_append.1 (qDj hk)with hk|hk
  ·exact .inl hk
  ·obtain⟨j,hj,hkj⟩:=List.mem_flatMap.1 hk;refine .inr ⟨j,hj,?_⟩;have hlt:j<acc.length:=by
    rcases Nat.lt_or_ge j acc.length with h|h
    ·exact h
    ·simp[List.getD,List.getElem?_eq_none h]at hkj
   rw[q8N r _ _ (by simp;omega)];simpa[List.getD,List.getElem?_append_left hlt]using hkj
 |o::r,acc,i+1,o',h,k,hk=>by
  simp only[q50]at hk⊢;refine qAH (i:=i) (by simpa using h) k ?_;have:(acc++[q84 (q4A o++(q4A o).flatMap fun i=>acc.getD i [])]).length+i=acc.length+(i+1):=by simp;omega
  rw[this];exact hk
theorem qJN {o:Oper} {e:Edge} (he:e∈o.after) (hb:Region.binds .any e=true):e.on∈q4A o:=by
 unfold q4A;exact List.mem_filterMap.2 ⟨e,by simpa using he,by simp[hb]⟩
theorem qHf {o:Oper} {j:Nat} (h:j∈q4A o):∃e∈o.after,Region.binds .any e=true∧e.on=j:=by
 unfold q4A at h;obtain⟨e,he,hj⟩:=List.mem_filterMap.1 h;refine⟨e,by simpa using he,?_⟩;cases hb:Region.binds .any e with
 |true=>rw[hb]at hj;exact⟨rfl,by simpa using hj⟩
 |false=>rw[hb]at hj;simp at hj
theorem qBc:∀{r:List Oper} {k i:Nat} {o:Oper},q7C r k=true→r[i]?=some o→∀j∈q4A o,j<k+i
 |[],_,_,_,_,h,_,_=>by simp at h
 |o::r,k,0,o',h,ho,j,hj=>by
  have ho:o=o':=by simpa using ho
  subst ho;simp only[q7C,Bool.and_eq_true]at h;exact Nat.le_of_ble_eq_true (List.all_eq_true.1 h.1 j hj)
 |o::r,k,i+1,o',h,ho,j,hj=>by
  simp only[q7C,Bool.and_eq_true]at h;have:=qBc (i:=i) h.2 (by simpa using ho) j hj;omega
theorem qCS {nt:Nat} {ops:List Oper} {o:Oper} {e:Ef} {cl:List Nat}:∀{l:List (Oper×Ef)} {k j:Nat} {p:Oper×Ef},qAC nt ops o e cl l k=true→l[j]?=some p→
  k+j∈cl∨qHW nt ops o e p.1 p.2=true
 |[],_,_,_,_,h=>by simp at h
 |q::r,k,0,p,h,hp=>by
  have hp:q=p:=by simpa using hp
  subst hp;simp only[qAC,Bool.and_eq_true,Bool.or_eq_true]at h;rcases h.1 with h|h
  ·exact .inl (q6K.1 h)
  ·exact .inr h
 |q::r,k,j+1,p,h,hp=>by
  simp only[qAC,Bool.and_eq_true]at h;have:=qCS (j:=j) h.2 (by simpa using hp);rw[show k+(j+1)=k+1+j by omega];exact this
theorem q9T {nt:Nat} {ops:List Oper} {cls:List (List Nat)}:∀{l past:List (Oper×Ef)} {i j:Nat} {p q:Oper×Ef},q9w nt ops cls past l past.length=true→
  (past++l)[i]?=some p→(past++l)[j]?=some q→past.length≤i→j<i→j∈cls.getD i []∨qHW nt ops p.1 p.2 q.1 q.2=true
 |[],past,i,j,p,q,_,hp,_,hle,_=>by
  rw[List.append_nil,List.getElem?_eq_none hle]at hp;simp at hp
 |x::l,past,i,j,p,q,h,hp,hq,hle,hlt=>by
  simp only[q9w,Bool.and_eq_true]at h;rcases Nat.lt_or_ge past.length i with hi|hi
  ·refine q9T (past:=past++[x]) (l:=l) (i:=i) (j:=j) (by simpa using h.2) (by simpa using hp) (by simpa using hq) (by simp;omega) hlt
  ·have hi:i=past.length:=by omega
   subst hi;have hx:x=p:=by simpa using hp
   subst hx;have hq':past[j]?=some q:=by rw[List.getElem?_append_left hlt]at hq;exact hq
   have:=qCS h.1 hq'
   rwa [Nat.zero_add]at this
theorem q6F:∀{l m:List Nat},qDJ l m=true→∀k∈l,k∉m
 |[],_,_,_,hk=>by simp at hk
 |x::r,m,h,k,hk=>by
  simp only[qDJ,Bool.and_eq_true]at h;rcases List.mem_cons.1 hk with rfl|hk
  ·exact qAJ.1 (by simpa using h.1)
  ·exact q6F h.2 k hk
structure qUK (nt:Nat) (ops:List Oper) (a:Oper) (ea:Ef) (b:Oper) (eb:Ef):Prop where
 dd:∀d,a.dst=some d→b.dst≠some d
 ab:∀d,a.dst=some d→d∉q9N ops b
 ba:∀d,b.dst=some d→d∉q9N ops a
 uab:∀p∈ea.upd,p.1∉eb.touch
 uba:∀p∈eb.upd,p.1∉ea.touch
 sab:∀id∈eb.names,id/64≠qNb nt a+1
 sba:∀id∈ea.names,id/64≠qNb nt b+1
theorem qUK.symm {nt:Nat} {ops:List Oper} {a b:Oper} {ea eb:Ef} (h:qUK nt ops a ea b eb):qUK nt ops b eb a ea:=
 ⟨fun d hd he=>h.dd d he hd,h.ba,h.ab,h.uba,h.uab,h.sba,h.sab⟩
theorem qQp {e:Ef} {p:Nat×Option Blk} (h:p∈e.upd):p.1∈e.touch:=List.mem_append.2 (.inr (List.mem_map.2 ⟨p,h,rfl⟩))
theorem qUK.apart {nt:Nat} {ops:List Oper} {a b:Oper} {ea eb:Ef} (h:qUK nt ops a ea b eb):qTy a ea b eb:=
 ⟨h.dd,fun p hp q hq he=>h.uab p hp (he▸qQp hq)⟩
theorem qEh {nt:Nat} {o:Oper} {e:Ef} (h:qK1 nt o e=true):∀id∈e.names,id/64≠qNb nt o+1:=by
 intro id hid he;have:=List.all_eq_true.1 h id hid;rw[q0y.2 he]at this;simp at this
theorem qPL {nt:Nat} {ops:List Oper} {a b:Oper} {ea eb:Ef} (h:qHW nt ops a ea b eb=true):qUK nt ops a ea b eb:=by
 unfold qHW at h;simp only[Bool.and_eq_true]at h;obtain⟨⟨⟨⟨⟨h1,h2⟩,h3⟩,h4⟩,h5⟩,h6⟩:=h;have ha:∀{o:Oper} {d:Nat},o.dst=some d→d∈x2f o:=fun hd=>by unfold x2f;rw[hd];simp
 exact
  {dd:=fun d hd he=>q6F h1 d (ha hd) (List.mem_append.2 (.inl (ha he)))
   ab:=fun d hd hm=>q6F h1 d (ha hd) (List.mem_append.2 (.inr hm))
   ba:=fun d hd=>q6F h2 d (ha hd)
   uab:=fun p hp=>q6F h3 p.1 (List.mem_map.2 ⟨p,hp,rfl⟩)
   uba:=fun p hp=>q6F h4 p.1 (List.mem_map.2 ⟨p,hp,rfl⟩)
   sab:=qEh h5
   sba:=qEh h6 }
def q7u (D:Nat→Bool):Nat→Nat
 |0=>0
 |n+1=>q7u D n+if D n then 0 else 1
theorem qBe {D D':Nat→Bool}:∀{n:Nat},(∀j,j<n→D j=D' j)→q7u D n=q7u D' n
 |0,_=>rfl
 |n+1,h=>by simp only[q7u];rw[qBe fun j hj=>h j (by omega),h n (by omega)]
theorem qEV {D:Nat→Bool} {i:Nat}:∀{n:Nat},i<n→D i=false→q7u (fun x=>D x||Nat.beq x i) n+1=q7u D n
 |0,h,_=>by omega
 |n+1,h,hD=>by
  simp only[q7u];by_cases hi:i=n
  ·subst hi;rw[qBe (D':=D) fun j hj=>by rw[q1N.2 (by omega:j≠i)];simp];simp[hD,q0y.2 rfl]
  ·have:=qEV (D:=D) (i:=i) (n:=n) (by omega) hD;have hb:(D n||Nat.beq n i)=D n:=by rw[q1N.2 (fun e=>hi e.symm:n≠i),Bool.or_false]
   simp only[hb];omega
theorem qCt {D:Nat→Bool}:∀{n:Nat},q7u D n=0→∀j,j<n→D j=true
 |0,_,j,h=>by omega
 |n+1,h,j,hj=>by
  simp only[q7u]at h;by_cases hn:D n=true
  ·rcases Nat.lt_or_ge j n with h'|h'
   ·exact qCt (n:=n) (by omega) j h'
   ·rw[show j=n by omega];exact hn
  ·simp[hn]at h
section
variable {P:Program} {cx:Cx} (hT:q4K P cx.tt) (hD:q0C P cx.D)
include hT hD in
theorem qMx {g:G} (hnt:cx.nt=g.nt) {ops:List Oper} {L:List (Oper×Ef)} {s0:AS} {Q:Exit→Act→World→Prop}
  (hL:L.map (·.1)=ops) (hf:∀i p,L[i]?=some p→qDr cx ops (q3k (fun j=>decide (j<i)) L 0 s0) p.1=some p.2∧(∀q∈p.2.ob,q)∧qBy cx.nt (ops.drop (i+1)) p.2=true)
  (hfresh:∀id,q2l (q2x cx.nt ops) id=true→q17 s0 id) (hback:q7C ops 0=true) (hind:q9w cx.nt ops (q50 ops []) [] L 0=true)
  (hQ:∀a w ι Fr,Rel g (q3k (fun _=>true) L 0 s0) a w ι Fr→Q .normal a w):
  ∀(fuel:Nat) (listed:Array Bool) (a:Act) (w:World) (ι:q1K) (Fr:Nat→Nat→Prop),listed.size=ops.length→q7u (fun i=>listed.getD i false) ops.length≤fuel→
   (∀i,listed.getD i false=true→∀j∈(q50 ops []).getD i [],listed.getD j false=true)→
   Rel g (q3k (fun i=>listed.getD i false) L 0 s0) a w ι Fr→wpAny P .any ops.toArray Q fuel listed a w:=by
 have hlen:L.length=ops.length:=by rw[←hL,List.length_map]
 have hop:∀(i:Nat) (p:Oper×Ef),L[i]?=some p→ops[i]?=some p.1:=fun i p hp=>by rw[←hL,List.getElem?_map,hp];rfl
 have hready:∀listed:Array Bool,listed.size=ops.length→∀i,i∈Region.ready .any ops.toArray listed→
   ∃p:Oper×Ef,L[i]?=some p∧listed.getD i false=false∧∀j∈q4A p.1,listed.getD j false=true:=by
  intro listed hsz i hi;unfold Region.ready at hi;simp only[List.size_toArray,List.mem_filter,List.mem_range,Bool.and_eq_true]at hi;obtain⟨hlt,hnl,hall⟩:=hi;have hi':i<L.length:=by omega
  refine⟨L[i],List.getElem?_eq_getElem hi',?_,?_⟩
  ·have:i<listed.size:=by omega
   simp[Array.getD,this]at hnl⊢;exact hnl
  ·intro j hj;obtain⟨e,he,hb,rfl⟩:=qHf hj;have ho:ops.toArray[i]?=some L[i].1:=by rw[List.getElem?_toArray];exact hop i _ (List.getElem?_eq_getElem hi')
   rw[ho]at hall;simp only[Option.map_some,Option.getD_some]at hall;have:=(Array.all_eq_true_iff_forall_mem.1 hall) e he;simpa[hb]using this
 have hempty:∀listed:Array Bool,listed.size=ops.length→Region.ready .any ops.toArray listed=[]→∀i,i<ops.length→listed.getD i false=true:=by
  intro listed hsz hnil i;induction i using Nat.strongRecOn with
  |_ i ih=>
   intro hi;have hnot:i∉Region.ready .any ops.toArray listed:=by rw[hnil];simp
   have hi':i<L.length:=by omega
   have ho:ops[i]?=some L[i].1:=hop i _ (List.getElem?_eq_getElem hi');cases hd:listed.getD i false with
   |true=>rfl
   |false=>
    refine absurd ?_ hnot;unfold Region.ready;simp only[List.size_toArray,List.mem_filter,List.mem_range,Bool.and_eq_true];have hsz':i<listed.size:=by omega
    refine⟨hi,by simp[Array.getD,hsz']at hd⊢;exact hd,?_⟩;rw[List.getElem?_toArray,ho];simp only[Option.map_some,Option.getD_some];refine Array.all_eq_true_iff_forall_mem.2 fun e he=>?_;cases hb:Region.binds .any e with
    |false=>simp
    |true=>
     have hlt:=qBc hback ho e.on (qJN he hb);have:=ih e.on (by omega) (by omega);simp[this]
 have hall:∀listed:Array Bool,(∀i,i<ops.length→listed.getD i false=true)→∀{a w ι Fr},Rel g (q3k (fun i=>listed.getD i false) L 0 s0) a w ι Fr→Q .normal a w:=by
  intro listed h a w ι Fr hr;rw[q9P (D':=fun _=>true) fun j _ hj=>h j (by omega)]at hr;exact hQ _ _ _ _ hr
 intro fuel;induction fuel with
 |zero=>
  intro listed a w ι Fr hsz hun hcl hr;have hdone:=qCt (Nat.le_zero.1 hun);refine⟨?_,hall listed hdone hr⟩;unfold Region.ready;rw[List.filter_eq_nil_iff];intro i hi hc;simp only[List.size_toArray,List.mem_range]at hi;have:=hdone i hi;have hsz':i<listed.size:=by omega
  simp[Array.getD,hsz']at this hc;rw[this]at hc;simp at hc
 |succ fuel ih=>
  intro listed a w ι Fr hsz hun hcl hr;refine⟨fun hnil=>hall listed (hempty listed hsz hnil) hr,fun i hi=>?_⟩;obtain⟨p,hp,hnl,hed⟩:=hready listed hsz i hi;have ho:=hop i p hp;have hi':i<ops.length:=(List.getElem?_eq_some_iff.1 ho).1;have hcli:∀j∈(q50 ops []).getD i [],listed.getD j false=true:=by
   intro j hj;rcases qAH (acc:=[]) (i:=i) ho j (by simpa using hj)with h|⟨k,hk,hjk⟩
   ·exact hed j h
   ·exact hcl k (hed k hk) j hjk
  obtain⟨hope,hob,hoff⟩:=hf i p hp;have hfree:∀j q,L[j]?=some q→j≠i→listed.getD j false≠decide (j<i)→qUK cx.nt ops p.1 p.2 q.1 q.2:=by
   intro j q hq hne hd;cases hj:listed.getD j false with
   |true=>
    rw[hj]at hd;have hlt:i<j:=by
     rcases Nat.lt_or_ge j i with h|h
     ·simp[h]at hd
     ·omega
    rcases q9T (past:=[]) (i:=j) (j:=i) hind (by simpa using hq) (by simpa using hp) (Nat.zero_le _) hlt with h|h
    ·have:=hcl j hj i h;rw[hnl]at this;simp at this
    ·exact(qPL h).symm
   |false=>
    rw[hj]at hd;have hlt:j<i:=by
     rcases Nat.lt_or_ge j i with h|h
     ·exact h
     ·exact absurd (by simp;omega) hd
    rcases q9T (past:=[]) (i:=i) (j:=j) hind (by simpa using hp) (by simpa using hq) (Nat.zero_le _) hlt with h|h
    ·have:=hcli j h;rw[hj]at this;simp at this
    ·exact qPL h
  have hfree':∀j q,L[j]?=some q→listed.getD (0+j) false≠decide (0+j<i)→qUK cx.nt ops p.1 p.2 q.1 q.2:=by
   intro j q hq hd;rw[Nat.zero_add]at hd;refine hfree j q hq (fun e=>?_) hd;subst e;rw[hnl]at hd;simp at hd
  have hope':qDr cx ops (q3k (fun j=>listed.getD j false) L 0 s0) p.1=some p.2:=by
   refine qIt hope (fun t ht=>?_) fun id hid=>?_
   ·exact qRe rfl fun j q hq hd he=>(hfree' j q hq hd).ba t he ht
   ·refine qP1 rfl fun j q hq hd u hu he=>(hfree' j q hq hd).uba u hu ?_;rw[he];exact List.mem_append.2 (.inl hid)
  have hfr:∀id,id/64=qNb cx.nt p.1+1→q17 (q3k (fun j=>listed.getD j false) L 0 s0) id:=by
   intro id hid;refine qDB (hfresh id ?_) fun j q hq hd hm=>?_
   ·unfold q2l;rw[q6K,hid];have hdst:∀{l:List Oper} {o:Oper},o∈l→qNb cx.nt o+1∈q2x cx.nt l:=by
     intro l o hmem;induction l with
     |nil=>simp at hmem
     |cons x r ih=>
      simp only[q2x];rcases List.mem_cons.1 hmem with rfl|h
      ·exact List.mem_cons_self ..
      ·exact List.mem_cons_of_mem _ (ih h)
    exact hdst (List.mem_of_getElem? ho)
   ·rw[Nat.zero_add]at hd;have hne:j≠i:=fun e=>by subst e;rw[hnl]at hd;simp at hd
    rcases Nat.lt_or_ge j i with hlt|hge
    ·have:=(hf j q hq).2.2;have hm':=List.all_eq_true.1 this id hm;have hin:q2l (q2x cx.nt (ops.drop (j+1))) id=true:=by
      unfold q2l;rw[q6K,hid];have hmem:p.1∈ops.drop (j+1):=by
       refine List.mem_of_getElem? (i:=i-(j+1)) ?_;rw[List.getElem?_drop,show j+1+(i-(j+1))=i by omega];exact ho
      generalize ops.drop (j+1)=l at hmem;induction l with
      |nil=>simp at hmem
      |cons x r ih=>
       simp only[q2x];rcases List.mem_cons.1 hmem with rfl|h
       ·exact List.mem_cons_self ..
       ·exact List.mem_cons_of_mem _ (ih h)
     rw[hin]at hm';simp at hm'
    ·refine(hfree j q hq hne ?_).sab id hm hid;rw[hd];simp;omega
  have hset:∀x,(listed.setIfInBounds i true).getD x false=(listed.getD x false||Nat.beq x i):=by
   intro x;have hii:i<listed.size:=by omega
   rw[qFf _ _ _ _ _ hii];by_cases hx:x=i
   ·subst hx;simp[q0y.2 rfl]
   ·simp[hx,q1N.2 hx]
  have hsame:=qHS (D:=fun j=>listed.getD j false) (o:=p.1) (e:=p.2) (i:=i) (L:=L) (k:=0) (j:=i) (s:=s0) (by omega) (by simpa using hp) hnl fun j q hq hlt hd=>by
   rw[Nat.zero_add]at hlt hd;exact(hfree j q hq (by omega) (by rw[hd];simp;omega)).apart
  have hnext:∀a' w' ι' Fr',Rel g ((q3k (fun j=>listed.getD j false) L 0 s0).app p.1.dst p.2) a' w' ι' Fr'→wpAny P .any ops.toArray Q fuel (listed.setIfInBounds i true) a' w':=by
   intro a' w' ι' Fr' hr';have hfun:(fun x=>(listed.setIfInBounds i true).getD x false)=fun x=>listed.getD x false||Nat.beq x i:=funext hset;refine ih (listed.setIfInBounds i true) a' w' ι' Fr' (by simpa using hsz) ?_ ?_ ?_
   ·rw[hfun];have:=qEV (D:=fun j=>listed.getD j false) hi' hnl;omega
   ·intro x hx j hj;rw[hset]at hx⊢;rw[Bool.or_eq_true]at hx⊢;rcases hx with hx|hx
    ·exact .inl (hcl x hx j hj)
    ·have:=q0y.1 hx;subst this;exact .inl (hcli j hj)
   ·rw[hfun];exact hr'.congr (fun t=>hsame.1 t) fun id=>hsame.2 id
  have:=qGa hT hD hr (ops:=ops) hnt hfr hope' hob (next:=wpAny P .any ops.toArray Q fuel (listed.setIfInBounds i true)) (Q:=Q) hnext;unfold wpOp;rw[List.getElem?_toArray,ho];simp only[];split
  ·rename_i hw;rw[hw,if_pos rfl]at this;exact .inl this
  ·rename_i hw;rw[if_neg hw]at this;exact this
end
def x0o:Value→Bool
 | .int _ _=>true
 | .bool _=>true
 | .string _=>true
 |_=>false
structure VW (A:Nat→Prop) (w w':World):Prop where
 os:w'.os=w.os
 tape:w'.tape=w.tape
 output:w'.output=w.output
 size:w.heap.size≤w'.heap.size
 frame:∀b,b<w.heap.size→¬A b→w'.heap[b]?=w.heap[b]?
 cells:∀b arr e,A b→w.heap[b]?=some (.cells arr e (0,0))→∃arr',w'.heap[b]?=some (.cells arr' e (0,0))∧arr'.size=arr.size∧
  ∀j,arr'.getD j Go.undef=arr.getD j Go.undef∨(x0o (arr.getD j Go.undef)=true∧x0o (arr'.getD j Go.undef)=true)
theorem VW.refl (A:Nat→Prop) (w:World):VW A w w:=⟨rfl,rfl,rfl,Nat.le_refl _,fun _ _ _=>rfl,fun _ arr _ _ h=>⟨arr,h,rfl,fun _=>.inl rfl⟩⟩
theorem VW.shape {A:Nat→Prop} {w w':World} (h:VW A w w') (hc:∀b,A b→∃arr e,w.heap[b]?=some (.cells arr e (0,0))):∀b e,w.shape? b=some e→w'.shape? b=some e:=by
 intro b e hs;have hlt:b<w.heap.size:=by
  rcases Nat.lt_or_ge b w.heap.size with h'|h'
  ·exact h'
  ·simp[World.shape?,Array.getElem?_eq_none h']at hs
 by_cases hA:A b
 ·obtain⟨arr,el,hh⟩:=hc b hA;obtain⟨arr',hh',hsz,_⟩:=h.cells b arr el hA hh;unfold World.shape? at hs⊢;rw[hh]at hs;rw[hh'];simpa[hsz]using hs
 ·unfold World.shape? at hs⊢;rw[h.frame b hlt hA];exact hs
structure qYP (P:Program) (f:Nat) (M:qTI):Prop where
 enters:∀vals w,(callFunc f vals).run P w=.ok (.enter f vals) w
 does:∀n g k ob r,M n g k=some (ob,r)→ob→∀(x:Value) (w0 w:World) (A:Nat→Prop),PRep w0 A (.sl n g 1) x→(∀b,A b→∃arr e,w0.heap[b]?=some (.cells arr e (0,0)))→VW A w0 w→
  Calls P f #[x,.int .i64 k] w fun e w'=>e=.returned (.int .i64 r)∧VW A w0 w'
def noM:Nat→Option qTI:=fun _=>none
def q4c (P:Program) (M:Nat→Option qTI):Prop:=∀f S,M f=some S→qYP P f S
theorem q2n {P:Program}:q4c P noM:=fun f S h=>by cases h
theorem qQA {w w':World} {Fr Fr':Nat→Nat→Prop} {ι:q1K} {v:V} {x:Value} (h:q0e w Fr ι v x) (hk:qR4 v=true) (hF:∀b,Fr 1 b→Fr' 1 b∧w'.heap[b]?=w.heap[b]?):
  q0e w' Fr' ι v x:=by
 cases h with
 |atom hv hp=>
  cases hp with
  |int=>exact .atom rfl (.int _ _)
  |bool=>exact .atom rfl (.bool _)
  |str=>exact .atom rfl (.str _)
  |nil=>exact .atom rfl (.nil _)
  |sl0=>exact .atom rfl (.sl0 _ _ _ _)
  |sl cv hA hcap hsz hc hr=>
   have ht:=q0y.1 hk;subst ht;exact .atom rfl ((PRep.sl (t:=1) cv hA hcap hsz hc hr).mono fun b hb=>hF b hb)
  |ptr cv hA hc hr=>
   have ht:=q0y.1 hk;subst ht;exact .atom rfl ((PRep.ptr (t:=1) cv hA hc hr).mono fun b hb=>hF b hb)
  |agg=>simp[isP]at hv
  |tup=>simp[isP]at hv
  |fn=>simp[isP]at hv
  |undef=>exact .atom rfl (.undef _)
 |_=>simp[qR4]at hk
theorem qCJ {w w':World} {Fr Fr':Nat→Nat→Prop} {ι:q1K} {id:Nat} {v:V} {x:Value} (h:q0e w Fr ι v x) (hk:qHk id v=true) (hF:∀b,Fr 1 b→Fr' 1 b∧w'.heap[b]?=w.heap[b]?)
  (hsh:∀b e,w.shape? b=some e→w'.shape? b=some e):q0e w' Fr' ι v x:=by
 cases h with
 |osl hi hn hc hs hcs=>exact .osl hi hn hc (hsh _ _ hs) hcs
 |osl0 a hi=>exact .osl0 a hi
 |oref hi him=>exact .oref hi him
 |atom hv hp=>
  have:qR4 v=true:=by
   cases v<;>first|exact hk|(simp[isP]at hv;done)
  exact qQA (.atom hv hp) this hF
 |_=>simp[qHk,qR4]at hk
theorem qRB {w w':World} {Fr Fr':Nat→Nat→Prop} {ι:q1K} {id:Nat} {v:V} {x:Value} (h:q0e w Fr ι v x) (hk:qXD id v=true) (hF:∀b,Fr 1 b→Fr' 1 b∧w'.heap[b]?=w.heap[b]?)
  (hsh:∀b e,w.shape? b=some e→w'.shape? b=some e):q0e w' Fr' ι v x:=by
 by_cases hag:∃cs,v=.agg cs
 ·obtain⟨cs,rfl⟩:=hag;cases h with
  |atom hv _=>simp[isP]at hv
  |agg arr hs hr=>exact .agg arr hs fun j hj=>qCJ (hr j hj) (q5c (p:=qHk id) hk hj) hF hsh
 ·have:qHk id v=true:=by
   cases v<;>first|exact hk|exact absurd ⟨_,rfl⟩ hag
  exact qCJ h this hF hsh
theorem qEB {id k:Nat} {blk:Blk}:∀{S:List (Nat×Blk)},lk S k=some blk→k∉qCC id S→k≠id∧qNk id blk=true
 |[],h,_=>by simp[lk]at h
 |(j,b)::r,h,hn=>by
  simp only[lk]at h;cases hjk:Nat.beq j k with
  |true=>
   rw[hjk]at h;have e1:=q0y.1 hjk;have e2:b=blk:=Option.some.inj h;subst e1 e2;cases hb: !(Nat.beq j id)&&qNk id b with
   |true=>
    simp only[Bool.and_eq_true,Bool.not_eq_true',q1N]at hb;exact hb
   |false=>
    exfalso;apply hn;simp only[qCC,hb];exact List.mem_cons_self ..
  |false=>
   rw[hjk]at h;refine qEB h fun hm=>hn ?_;simp only[qCC];split
   ·exact hm
   ·exact List.mem_cons_of_mem _ hm
theorem qEy {id t:Nat} {v:V} {s:AS} (h:lk (forget id s).T t=some v):v=.undef∨(lk s.T t=some v∧qXD id v=true):=by
 have h':lk (s.T.map fun e=>(e.1,qM1 id e.2)) t=some v:=h;rw[qIe (qM1 id)]at h';cases hl:lk s.T t with
 |none=>rw[hl]at h';simp at h'
 |some u=>
  rw[hl]at h';simp only[Option.map_some,Option.some.injEq]at h';unfold qM1 at h';split at h'
  ·rename_i hk;subst h';exact .inr ⟨rfl,hk⟩
  ·exact .inl h'.symm
theorem q5Y {id k:Nat} {b:Blk} {s:AS} (h:lk (forget id s).S k=some b):lk s.S k=some b∧k≠id∧qNk id b=true:=by
 have h':lk (q0Y s.S ((qCC id s.S).map fun k=>(k,none))) k=some b:=h;rw[q2b]at h';split at h'
 ·simp at h'
 ·rename_i hn;exact⟨h',qEB h' hn⟩
theorem qHL {id k:Nat} {s:AS} (h:q17 s k):q17 (forget id s) k where
 ge:=h.ge
 no:=by
  cases hl:lk (forget id s).S k with
  |none=>rfl
  |some b=>have:=(q5Y hl).1;rw[h.no]at this;simp at this
 T:=fun t v ht=>by
  rcases qEy ht with rfl|⟨h1,_⟩
  ·rfl
  ·exact h.T t v h1
 S:=fun j b hj=>h.S j b (q5Y hj).1
theorem Rel.forget {g:G} {s:AS} {a:Act} {w w':World} {ι:q1K} {Fr:Nat→Nat→Prop} (h:Rel g s a w ι Fr) {id sz n te:Nat} {f:Nat→V} (hl:lk s.S id=some (.arr sz n f te)) (h64:64≤id)
  (hte:2≤te) {A:Nat→Prop} (hA:∀b,A b→(∃r,ι id=some r∧r.1=b)∨Fr te b) (hos:w'.os=w.os) (ht:w'.tape=w.tape) (ho:w'.output=w.output) (hsz:w.heap.size≤w'.heap.size)
  (hb:∀b,b<w.heap.size→¬A b→w'.heap[b]?=w.heap[b]?) (hsh:∀b e,w.shape? b=some e→w'.shape? b=some e):
  ∃Fr',Rel g (Go.Av.forget id s) a w' ι Fr':=by
 have hnew:∀b,A b→g.New b:=by
  intro b hab;rcases hA b hab with⟨r,hi,rfl⟩|hf
  ·obtain⟨b,z,m⟩:=r;rcases(h.own id _ b z m hl hi).2 with q|⟨_,q⟩
   ·exact q
   ·omega
  ·exact h.fr2 te b hte hf
 let Fr':Nat→Nat→Prop:=fun t b=>(t=0∨t=1)∧Fr t b∧¬A b
 have hF:∀b,Fr 1 b→Fr' 1 b∧w'.heap[b]?=w.heap[b]?:=by
  intro b hf;have hn:¬A b:=fun hab=>h.fr1 b hf (hnew b hab);exact⟨⟨.inr rfl,hf,hn⟩,hb b (h.fr 1 b hf).1 hn⟩
 refine⟨Fr',?_⟩;exact
  {defers:=h.defers
   size:=h.size
   tmp:=fun t v hv=>by
    rcases qEy hv with rfl|⟨h1,h2⟩
    ·exact .atom rfl (.undef _)
    ·exact qRB (h.tmp t v h1) h2 hF hsh
   own:=fun k blk b z m hk hi=>by
    obtain⟨h1,h2,h3⟩:=q5Y hk;obtain⟨h4,h5⟩:=h.own k blk b z m h1 hi;refine⟨?_,h5⟩;have hn:¬A b:=by
     intro hab;rcases hA b hab with⟨r,hi',e⟩|hf
     ·exact h2 (h.inj k id blk _ _ r h1 hl hi hi' e.symm)
     ·exact(h.fr te b hf).2.2 k blk _ h1 hi rfl
    have hbb:=hb b h4.lt hn;cases blk with
    |mp=>exact h4.mapTo hbb
    |arr sz' n' f' te'=>
     obtain⟨e1,e2,cells,e,hh,hs,hlen,hr⟩:=h4;refine⟨e1,e2,cells,e,hbb.trans hh,hs,hlen,fun i j hi hj=>?_⟩;simp only[qNk,Bool.or_eq_true,q0y]at h3;rcases h3 with rfl|rfl
     ·exact(hr i j hi hj).mono fun b hb=>absurd hb (h.frS b)
     ·exact(hr i j hi hj).mono fun b hb=>hF b hb
    |box cs=>
     obtain⟨cells,e,hh,hs,hr⟩:=h4;exact⟨cells,e,hbb.trans hh,hs,fun j hj=>qCJ (hr j hj) (q5c (p:=qHk id) h3 hj) hF hsh⟩
   nob:=fun k blk hk=>h.nob k blk (q5Y hk).1
   inj:=fun k k' c c' r r' h1 h2=>h.inj k k' c c' r r' (q5Y h1).1 (q5Y h2).1
   fr:=fun t b hf=>⟨Nat.lt_of_lt_of_le (h.fr t b hf.2.1).1 hsz,(h.fr t b hf.2.1).2.1,fun k c r hk=>(h.fr t b hf.2.1).2.2 k c r (q5Y hk).1⟩
   frS:=fun b hf=>by rcases hf.1 with e|e<;>exact absurd e (by decide)
   fr0:=fun t b hf=>⟨.inl rfl,h.fr0 t b hf.2.1,hf.2.2⟩
   fr2:=fun t b h2 hf=>by rcases hf.1 with e|e<;>omega
   fr1:=fun b hf=>h.fr1 b hf.2.1
   cl:=fun t b h2 hf=>by rcases hf.1 with e|e<;>omega
   low:=h.low
   x0:=h.x0
   io0:=h.io0
   mvio:=h.mvio
   os:=hos.trans h.os
   tape:=ht.trans h.tape
   output:=ho.trans h.output
   hsize:=Nat.le_trans h.hsize hsz
   frame:=fun b hlt hio=>(hb b (Nat.lt_of_lt_of_le hlt h.hsize) fun hab=>by
    rcases hnew b hab with hq|hq
    ·omega
    ·exact hio (h.mvio b hq)).trans (h.frame b hlt hio)
   shape:=fun b e he=>hsh b e (h.shape b e he) }
theorem qS3 {P:Program} {cx:Cx} (hM:q4c P cx.M) {g:G} (hnt:cx.nt=g.nt) {s s':AS} {a:Act} {w:World} {ι:q1K} {Fr:Nat→Nat→Prop} (h:Rel g s a w ι Fr) {o:Oper} {ob:Prop}
  (he:qIP cx s o=some (ob,s')) (ho:ob):o.guard=none∧q90 P g s' a w o:=by
 unfold qIP at he;split at he
 case h_2=>simp at he
 case h_1 d c hg hdst hop=>
  refine⟨hg,?_⟩;split at he
  case h_2=>simp at he
  case h_1 f x k hcal hargs=>
   split at he
   case h_2=>simp at he
   case h_1 id n m M hx hk hMf=>
    split at he
    case h_2=>simp at he
    case h_1 sz n' f' te hl hc=>
     split at he
     case h_2=>simp at he
     case h_1 ob' r ht hMe=>
      simp only[Option.some.injEq,Prod.mk.injEq]at he;obtain⟨rfl,rfl⟩:=he;simp only[Bool.and_eq_true]at hc;have h64:64≤id:=Nat.le_of_ble_eq_true hc.1;have hd:d<g.nt:=by rw[←hnt];exact Nat.le_of_ble_eq_true hc.2
      have hte:2≤te:=Nat.le_of_ble_eq_true ht;have hS:=hM f M hMf;have hxr:=q63 h x;have hkr:=q63 h k;rw[hx]at hxr;rw[hk]at hkr;have hkv:=q31 hkr;let A:Nat→Prop:=fun b=>(∃r,ι id=some r∧r.1=b)∨Fr te b
      have hp:PRep w A (.sl n f' 1) (a.eval x):=by
       generalize a.eval x=vx at hxr;cases hxr with
       |atom hv _=>simp[isP]at hv
       | @osl _ _ b sz2 m2 cap c' e hi hn2 hcap hsh hcs=>
        obtain⟨rfl,rfl,cells,e',hh,hsz,hlen,hr⟩:=(h.own id _ b sz2 m2 hl hi).1;refine .sl (sz:=sz) (off:=0) (fun i j=>cells.getD (i*sz+j) Go.undef) (.inl ⟨_,hi,rfl⟩) hcap (fun i hin=>hlen i (by omega)) (fun i j hin hj=>?_)
         (fun i j hin hj=>(hr i j (by omega) hj).weaken fun b hb=>.inr hb)
        have e1:i*sz+sz=(i+1)*sz:=by rw[Nat.add_mul,Nat.one_mul]
        have e2:(i+1)*sz≤n'*sz:=Nat.mul_le_mul_right _ (by omega);rw[Nat.zero_add];exact q4Q hh (by omega)
       |osl0 ad hi=>exact .sl0 _ _ _ _
      have hAc:∀b,A b→∃arr e,w.heap[b]?=some (.cells arr e (0,0)):=by
       intro b hab;rcases hab with⟨r,hi,rfl⟩|hf
       ·exact(h.own id _ r.1 r.2.1 r.2.2 hl hi).1.cl rfl
       ·exact h.cl te b hte hf
      have hcall:=hS.does n f' m ob' r hMe ho (a.eval x) w w A hp hAc (VW.refl A w);intro next Q hn
      unfold Oper.wp;have hav:c.args.map a.eval= #[a.eval x,.int .i64 m]:=by
       have:c.args= #[x,k]:=by
        apply Array.ext';rw[hargs]
       rw[this];simp[hkv]
      rw[qQv (capsv:= #[]) hop hcal rfl hS.enters];simp only[Oper.upon,Array.append_empty,hav];refine hcall.mono ?_;rintro e' w' ⟨rfl,hv⟩;obtain⟨Fr',hR⟩:=h.forget hl h64 hte (fun b hb=>hb) hv.os hv.tape hv.output hv.size hv.frame (hv.shape hAc);refine hn _ _ ι Fr' ?_;rw[hdst];exact hR.put hd (.atom rfl (.int _ _))
theorem qH0 {cx:Cx} {s s':AS} {o:Oper} {ob:Prop} (he:qIP cx s o=some (ob,s')) {k:Nat} (hf:q17 s k):q17 s' k:=by
 unfold qIP at he;split at he
 case h_2=>simp at he
 case h_1 d c hg hdst hop=>
  split at he
  case h_2=>simp at he
  case h_1 f x k' hcal hargs=>
   split at he
   case h_2=>simp at he
   case h_1 id n m M hx hk hMf=>
    split at he
    case h_2=>simp at he
    case h_1 sz n' f' te hl hc=>
     split at he
     case h_2=>simp at he
     case h_1 ob' r ht hMe=>
      simp only[Option.some.injEq,Prod.mk.injEq]at he;obtain⟨rfl,rfl⟩:=he;have h1:=qHL (id:=id) hf;refine⟨h1.ge,h1.no,fun t v hv=>?_,h1.S⟩;have hv':lk (put (Go.Av.forget id s).T d (.int .i64 r)) t=some v:=hv;rw[q1i]at hv';split at hv'
      ·have:=Option.some.inj hv';subst this;rfl
      ·exact h1.T t v hv'
theorem qMy {P:Program} {t:Nat} {e:TypeId} {a:Option Addr} {l c:Nat} {w:World} (hu:(underlying t).run P w=.ok (.slice e) w) (D:Nat):
  (Op.equalIn (D+1) t (.slice a l c) (.slice none 0 0)).run P w=.ok a.isNone w:=by
 unfold Op.equalIn;simp only[Sem.run_bind,hu,Result.andThen_ok];cases a<;>simp
theorem qVZ {P:Program} {cx:Cx} (hT:q4K P cx.tt) {g:G} (hnt:cx.nt=g.nt) {s:AS} {a:Act} {w:World} {ι:q1K} {Fr:Nat→Nat→Prop} (h:Rel g s a w ι Fr) {o:Oper} {d n:Nat}
  (he:xAx cx s o=some (d,n)):o.guard=none∧∃b:Bool,(b=true→n=0)∧q90 P g { s with T:=put s.T d (.bool b) } a w o:=by
 unfold xAx at he;split at he
 case h_2=>simp at he
 case h_1 d' t x yt hg hdst hop=>
  refine⟨hg,?_⟩;have key:∀(a':Option Addr) (l c:Nat),a.eval x=.slice a' l c→d'<g.nt→qBL cx.tt t=true→q90 P g { s with T:=put s.T d' (.bool a'.isNone) } a w o:=by
   intro a' l c hv hd ht;obtain⟨e,ti,_,hu,_⟩:=q9X hT ht w;have hz:(do eqGuard .eql t x (.const (.slice none 0 0)) (.slice a' l c) (.slice none 0 0);binOp .eql t (.slice a' l c) (.slice none 0 0):Sem Value).run P w=.ok (.bool a'.isNone) w:=by
    have h1:=qCh (P:=P) (op:=.eql) (t:=t) (x:=x) (y:=.const (.slice none 0 0)) (a:=.slice a' l c) (b:=.slice none 0 0) (w:=w) (fun _ _ h=>by cases h) (by simp);simp only[Sem.run_bind,h1,Result.andThen_ok,binOp,Op.equal];have h2:=qMy (P:=P) (a:=a') (l:=l) (c:=c) hu 9999;have e1:Op.maxDepth=9999+1:=rfl;rw[e1,h2];rfl
   have:=q1h (P:=P) h (o:=o) (e:=⟨.bool a'.isNone,[],[],[]⟩) (by unfold q4Z;rw[hdst];exact Nat.ble_eq_true_of_le hd) rfl ⟨.bool a'.isNone,by
    unfold execOp;rw[hop];refine q7Z ?_;show(do eqGuard .eql t x (.const (.slice none 0 0)) (a.eval x) (.slice none 0 0);binOp .eql t (a.eval x) (.slice none 0 0):Sem Value).run P w=_;rw[hv];exact hz,.atom rfl (.bool _)⟩
   rw[hdst]at this;exact this
  have hxr:=q63 h x;split at he
  ·rename_i g' t' hc hv;simp only[Option.some.injEq,Prod.mk.injEq]at he;obtain⟨rfl,rfl⟩:=he;rw[Bool.and_eq_true]at hc;have hd:d'<g.nt:=by rw[←hnt];exact Nat.le_of_ble_eq_true hc.1
   rw[hv]at hxr;generalize hev:a.eval x=vx at hxr;cases hxr with
   |atom _ hp=>
    cases hp with
    |sl0 a0 cap=>exact⟨_,fun _=>rfl,key _ _ _ hev hd hc.2⟩
    |sl=>exact⟨_,fun h=>by simp at h,key _ _ _ hev hd hc.2⟩
  ·rename_i id hc hv;simp only[Option.some.injEq,Prod.mk.injEq]at he;obtain⟨rfl,rfl⟩:=he;rw[Bool.and_eq_true]at hc;have hd:d'<g.nt:=by rw[←hnt];exact Nat.le_of_ble_eq_true hc.1
   rw[hv]at hxr;generalize hev:a.eval x=vx at hxr;cases hxr with
   |atom hv _=>simp[isP]at hv
   |osl=>exact⟨_,fun h=>by simp at h,key _ _ _ hev hd hc.2⟩
   |osl0 a0=>exact⟨_,fun _=>rfl,key _ _ _ hev hd hc.2⟩
  ·rename_i hc hv;simp only[Option.some.injEq,Prod.mk.injEq]at he;obtain⟨rfl,rfl⟩:=he;rw[Bool.and_eq_true]at hc;have hd:d'<g.nt:=by rw[←hnt];exact Nat.le_of_ble_eq_true hc.1
   rw[hv]at hxr;generalize hev:a.eval x=vx at hxr;cases hxr with
   |atom _ hp=>
    cases hp with
    |nil a0=>exact⟨_,fun _=>rfl,key _ _ _ hev hd hc.2⟩
  ·simp at he
theorem qDu {s:AS} {d:Nat} {b:Bool} {k:Nat} (hf:q17 s k):q17 { s with T:=put s.T d (.bool b) } k:=by
 refine⟨hf.ge,hf.no,fun t v hv=>?_,hf.S⟩;have hv':lk (put s.T d (.bool b)) t=some v:=hv;rw[q1i]at hv';split at hv'
 ·have:=Option.some.inj hv';subst this;rfl
 ·exact hf.T t v hv'
section
variable {P:Program} {cx:Cx} (hT:q4K P cx.tt) (hD:q0C P cx.D) (hM:q4c P cx.M)
include hT hD hM in
theorem q6l {g:G} (hnt:cx.nt=g.nt) {ops:List Oper} {K:AS→Prop} {Q:Exit→Act→World→Prop} (hK:∀s' a w ι Fr,K s'→Rel g s' a w ι Fr→Q .normal a w):
  ∀(r pre:List Oper),ops=pre++r→∀(s:AS) (a:Act) (w:World) (ι:q1K) (Fr:Nat→Nat→Prop),Rel g s a w ι Fr→(∀id,q2l (q2x cx.nt r) id=true→q17 s id)→
   qZ0 cx ops r s K→wpOps P ops.toArray Q (List.range' pre.length r.length) a w
 |[],pre,_,s,a,w,ι,Fr,h,_,hr=>hK _ _ _ _ _ hr h
 |o::r,pre,hops,s,a,w,ι,Fr,h,hf,hr=>by
  have ho:ops.toArray[pre.length]?=some o:=by subst hops;simp
  have hsub:∀id,q2l (q2x cx.nt r) id=true→q17 s id:=fun id hid=>hf id (by
   unfold q2l q2x mem;have:mem (id/64) (q2x cx.nt r)=true:=hid;simp[this])
  rw[List.length_cons,qDh,ho];simp only[qZ0]at hr;split at hr
  ·rename_i ob s1 hm;obtain⟨hob,hr⟩:=hr;obtain⟨hg,hdoes⟩:=qS3 (P:=P) hM hnt h hm hob;have hw:Region.wanted o (yielded ops.toArray a.tmps)=true:=by
    unfold Region.wanted;rw[hg]
   simp only[hw,if_true];left;refine hdoes _ _ fun a' w' ι' Fr' h'=>?_;have:=q6l hnt hK r (pre++[o]) (by simp[hops]) s1 a' w' ι' Fr' h' (fun id hid=>qH0 hm (hsub id hid)) hr;simpa using this
  ·split at hr
   ·rename_i d n hm;obtain⟨hg,b,hb,hdoes⟩:=qVZ (P:=P) hT hnt h hm;have hw:Region.wanted o (yielded ops.toArray a.tmps)=true:=by
     unfold Region.wanted;rw[hg]
    simp only[hw,if_true];left;refine hdoes _ _ fun a' w' ι' Fr' h'=>?_;have:=q6l hnt hK r (pre++[o]) (by simp[hops]) _ a' w' ι' Fr' h' (fun id hid=>qDu (hsub id hid)) (hr b hb);simpa using this
   split at hr
   ·rename_i e he;split at hr
    ·rename_i hoff;obtain⟨hob,hr⟩:=qFh hr;replace hr:=qG2 hr;have hnames:∀id,q2l (q2x cx.nt r) id=true→id∉e.names:=by
      intro id hid hm;have:=(List.all_eq_true.1 hoff) id hm;rw[hid]at this;simp at this
     have hfr:∀id,id/64=qNb cx.nt o+1→q17 s id:=fun id hid=>hf id (by unfold q2l q2x mem;simp[hid]);have hnext:∀a' w' ι' Fr',Rel g (s.app o.dst e) a' w' ι' Fr'→wpOps P ops.toArray Q (List.range' (pre.length+1) r.length) a' w':=by
      intro a' w' ι' Fr' h';have:=q6l hnt hK r (pre++[o]) (by simp[hops]) (s.app o.dst e) a' w' ι' Fr' h' (fun id hid=>(hsub id hid).app (hnames id hid)) hr;simpa using this
     have:=qGa hT hD h (ops:=ops) hnt hfr he hob (next:=wpOps P ops.toArray Q (List.range' (pre.length+1) r.length)) (Q:=Q) hnext;simp only[];split
     ·rename_i hw;rw[hw,if_pos rfl]at this;exact .inl this
     ·rename_i hw;rw[if_neg hw]at this;exact this
    ·exact hr.elim
   ·exact hr.elim
end
structure SLe (s s':AS):Prop where
 le:∀(g:G) (a:Act) (w:World) (ι:q1K) (Fr:Nat→Nat→Prop),Rel g s a w ι Fr→∃ι' Fr',Rel g s' a w ι' Fr'
theorem SLe.refl (s:AS):SLe s s:=⟨fun _ _ _ ι Fr h=>⟨ι,Fr,h⟩⟩
theorem SLe.trans {s s' s'':AS} (h:SLe s s') (h':SLe s' s''):SLe s s'':=⟨fun g a w ι Fr hr=>by
 obtain⟨ι',Fr',hr'⟩:=h.le g a w ι Fr hr;exact h'.le g a w ι' Fr' hr'⟩
theorem q0e.ren {w:World} {Fr:Nat→Nat→Prop} {ι ι':q1K} {f:Nat→Nat} {v:V} {x:Value} (h:q0e w Fr ι v x) (hι:∀id∈v.ids,ι' (f id)=ι id):q0e w Fr ι' (v.ren f) x:=by
 induction h with
 |atom hv hp=>
  rename_i v x;cases v with
  |osl=>simp[isP]at hv
  |oss=>simp[isP]at hv
  |oref=>simp[isP]at hv
  |omap=>simp[isP]at hv
  |agg=>simp[isP]at hv
  |tup=>simp[isP]at hv
  |fn=>simp[isP]at hv
  |cnd=>simp[isP]at hv
  |_=>exact .atom hv hp
 |osl hi hn hc hs hcs=>exact .osl (by rw[hι _ (by simp[V.ids])];exact hi) hn hc hs hcs
 |osl0 a hi=>exact .osl0 a (by rw[hι _ (by simp[V.ids])];exact hi)
 |oss hi hn hc hcc hx hs hcs=>exact .oss (by rw[hι _ (by simp[V.ids])];exact hi) hn hc hcc hx hs hcs
 |oss0 a h0=>exact .oss0 a fun e=>by rw[hι _ (by simp[V.ids])];exact h0 e
 |oref hi him=>exact .oref (by rw[hι _ (by simp[V.ids])];exact hi) him
 |omap hi=>exact .omap (by rw[hι _ (by simp[V.ids])];exact hi)
 |agg arr hs _ ih=>
  refine .agg arr (by rw[q19];exact hs) fun j hj=>?_;rw[q19]at hj;rw[q4X _ _ _ hj];exact ih j hj fun id hid=>hι id (q3m hj id hid)
 |tup arr hs _ ih=>
  refine .tup arr (by rw[q19];exact hs) fun j hj=>?_;rw[q19]at hj;rw[q4X _ _ _ hj];exact ih j hj fun id hid=>hι id (q3m hj id hid)
 |fn arr hs _ ih=>
  refine .fn arr (by rw[q19];exact hs) fun j hj=>?_;rw[q19]at hj;rw[q4X _ _ _ hj];exact ih j hj fun id hid=>hι id (q3m hj id hid)
 |cnd _ hf ih=>exact .cnd (fun hc=>ih hc hι) hf
theorem qAT.ren {w:World} {Fr:Nat→Nat→Prop} {ι ι':q1K} {f:Nat→Nat} {b sz m:Nat} {blk:Blk} (h:qAT w Fr ι b sz m blk) (hι:∀id∈blk.ids,ι' (f id)=ι id):
  qAT w Fr ι' b sz m (blk.ren f):=by
 cases blk with
 |mp=>exact h
 |arr=>exact h
 |box cs=>
  obtain⟨cells,e,hh,hsz,hr⟩:=h;refine⟨cells,e,hh,by rw[q19];exact hsz,fun j hj=>?_⟩;rw[q19]at hj;rw[q4X _ _ _ hj];exact(hr j hj).ren fun id hid=>hι id (q3m hj id hid)
def q78 (a b x:Nat):Nat:=match Nat.beq x a with
 |true=>b
 |false=>x
theorem qIQ {α β:Type} {a b:Nat} (f:α→β) (hab:a≠b):∀(l:List (Nat×α)) (k:Nat),lk l b=none→
  lk (l.map fun e=>(q78 a b e.1,f e.2)) k=if k=b then(lk l a).map f else if k=a then none else(lk l k).map f
 |[],k,_=>by simp[lk]
 |(j,x)::r,k,h=>by
  simp only[lk]at h;cases hjb:Nat.beq j b with
  |true=>rw[hjb]at h;simp at h
  |false=>
   rw[hjb]at h;have ih:=qIQ f hab r k h;have hjb':=q1N.1 hjb;simp only[List.map,lk];cases hja:Nat.beq j a with
   |true=>
    have hj:=q0y.1 hja;subst hj;have e1:q78 j b j=b:=by unfold q78;rw[hja]
    rw[e1];cases hkb:Nat.beq b k with
    |true=>
     have:=q0y.1 hkb;subst this;simp
    |false=>
     have hk:k≠b:=fun e=>q1N.1 hkb e.symm;simp only[ih,hk,if_false];by_cases hkj:k=j
     ·simp[hkj]
     ·simp only[hkj,if_false];rw[q1N.2 (fun e=>hkj e.symm)]
   |false=>
    have hja':=q1N.1 hja;have e1:q78 a b j=j:=by unfold q78;rw[hja]
    rw[e1];cases hjk:Nat.beq j k with
    |true=>
     have:=q0y.1 hjk;subst this;simp[hjb',hja']
    |false=>simp only[ih]
theorem Rel.renId {g:G} {s:AS} {act:Act} {w:World} {ι:q1K} {Fr:Nat→Nat→Prop} (h:Rel g s act w ι Fr) {a b:Nat} (hab:a≠b) (ha:64≤a) (hf:q17 s b):
  Rel g (Go.Av.renId a b s) act w (fun k=>if k=b then ι a else ι k) Fr:=by
 have hren:Go.Av.renId a b s=⟨s.T.map fun e=>(e.1,e.2.ren (q78 a b)),s.S.map fun e=>(q78 a b e.1,e.2.ren (q78 a b))⟩:=rfl;have hsw:∀id,id≠b→(fun k=>if k=b then ι a else ι k) (q78 a b id)=ι id:=by
  intro id hid;unfold q78;cases hb:Nat.beq id a with
  |true=>have:=q0y.1 hb;subst this;simp
  |false=>simp[hid]
 have hnot:∀{v:V},V.ment (fun k=>Nat.beq k b) v=false→∀id∈v.ids,id≠b:=fun{v} hm id hid e=>by
  subst e;rw[qGg v id hid (fun k=>Nat.beq k id) (q0y.2 rfl)]at hm;simp at hm
 have hnotB:∀{blk:Blk},blk.ment (fun k=>Nat.beq k b)=false→∀id∈blk.ids,id≠b:=by
  intro blk hm id hid;cases blk with
  |mp=>simp[Blk.ids]at hid
  |arr=>simp[Blk.ids]at hid
  |box cs=>exact hnot (v:=.agg cs) hm id hid
 have hS:∀k blk,lk (Go.Av.renId a b s).S k=some blk→∃k0 blk0,lk s.S k0=some blk0∧blk=blk0.ren (q78 a b)∧k0≠b∧(if k=b then ι a else ι k)=ι k0∧((k=b∧k0=a)∨(k=k0∧k≠b∧k≠a)):=by
  intro k blk hl;rw[hren]at hl;simp only[]at hl;rw[qIQ (Blk.ren (q78 a b)) hab _ _ hf.no]at hl;split at hl
  ·rename_i hk;cases hla:lk s.S a with
   |none=>rw[hla]at hl;simp at hl
   |some b0=>rw[hla]at hl;simp at hl;exact⟨a,b0,hla,hl.symm,hab,by simp[hk],.inl ⟨hk,rfl⟩⟩
  ·rename_i hk;split at hl
   ·simp at hl
   ·rename_i hka;cases hla:lk s.S k with
    |none=>rw[hla]at hl;simp at hl
    |some b0=>rw[hla]at hl;simp at hl;exact⟨k,b0,hla,hl.symm,hk,by simp[hk],.inr ⟨rfl,hk,hka⟩⟩
 refine
  {h with
   low:=fun k hk=>by
    have hkb:k≠b:=by have:=hf.ge;omega
    simp only[hkb,if_false];exact h.low k hk
   tmp:=?_,own:=?_,nob:=?_,inj:=?_,fr:=?_ }
 ·intro t v ht;rw[hren]at ht;simp only[]at ht;rw[qIe (V.ren (q78 a b))]at ht;cases hl:lk s.T t with
  |none=>rw[hl]at ht;simp at ht
  |some u=>
   rw[hl]at ht;simp at ht;subst ht;exact(h.tmp t u hl).ren fun id hid=>hsw id (hnot (hf.T t u hl) id hid)
 ·intro k blk b' sz m hl hi;obtain⟨k0,blk0,hl0,rfl,hk0,hik,hor⟩:=hS k blk hl;rw[hik]at hi;obtain⟨h1,h2⟩:=h.own k0 blk0 b' sz m hl0 hi;refine⟨h1.ren fun id hid=>hsw id (hnotB (hf.S k0 blk0 hl0) id hid),?_⟩;rcases hor with⟨_,rfl⟩|⟨rfl,_,_⟩
  ·rcases h2 with h2|h2
   ·exact .inl h2
   ·omega
  ·exact h2
 ·intro k blk hl hi;obtain⟨k0,blk0,hl0,rfl,hk0,hik,_⟩:=hS k blk hl;rw[hik]at hi;obtain⟨sz,hh,te,rfl⟩:=h.nob k0 blk0 hl0 hi;exact⟨sz,hh,te,rfl⟩
 ·intro k k' c c' r r' h1 h2 h3 h4 h5;obtain⟨k0,b0,hl0,_,hk0,hik,hor⟩:=hS k c h1;obtain⟨k1,b1,hl1,_,hk1,hik1,hor1⟩:=hS k' c' h2;rw[hik]at h3;rw[hik1]at h4;have:=h.inj k0 k1 b0 b1 r r' hl0 hl1 h3 h4 h5;subst this;rcases hor with⟨rfl,e1⟩|⟨rfl,e1,e2⟩<;>rcases hor1 with⟨rfl,e3⟩|⟨rfl,e3,e4⟩
  ·rfl
  ·exact absurd e1 e4
  ·exact absurd e3 e2
  ·rfl
 ·intro t k hfk;refine⟨(h.fr t k hfk).1,(h.fr t k hfk).2.1,?_⟩;intro k' c r hl hi;obtain⟨k0,b0,hl0,_,_,hik,_⟩:=hS k' c hl;rw[hik]at hi;exact(h.fr t k hfk).2.2 k0 b0 r hl0 hi
theorem qF8 (a b:Nat) (s:AS) (hb:64≤b):SLe s (qKw a b s):=by
 constructor;intro g act w ι Fr h;unfold qKw;cases hab:Nat.beq a b with
 |true=>exact⟨ι,Fr,h⟩
 |false=>
  cases ha:Nat.blt a 64 with
  |true=>exact⟨ι,Fr,h⟩
  |false=>
   have ha':64≤a:=by
    rcases Nat.lt_or_ge a 64 with hlt|hge
    ·have:Nat.blt a 64=true:=Nat.ble_eq_true_of_le hlt;rw[this]at ha;simp at ha
    ·exact hge
   exact⟨_,Fr,(h.purge _).renId (q1N.1 hab) ha' (q6M (q0y.2 rfl) hb)⟩
theorem Rel.tell {g:G} {s:AS} {a:Act} {w:World} {ι:q1K} {Fr:Nat→Nat→Prop} (h:Rel g s a w ι Fr) {t:Nat} {v:V} (hv:q0e w Fr ι v (a.tmps.getD t Go.undef)):
  Rel g { s with T:=Go.Av.put s.T t v } a w ι Fr:=
 {h with
  tmp:=fun k u hk=>by
   simp only[q1i]at hk;split at hk
   ·rename_i e;have:v=u:=Option.some.inj hk;rw[e,←this];exact hv
   ·exact h.tmp k u hk }
theorem qGe {w:World} {Fr:Nat→Nat→Prop} {ι:q1K} {x:Value} (h:q0e w Fr ι .nil x):∃a,x=.slice a 0 0:=by
 cases h with
 |atom _ hp=>cases hp;exact⟨_,rfl⟩
theorem qHU (t:Nat):64≤q25 t:=by unfold q25;omega
theorem qH1 (id i:Nat):64≤q2k id i:=by unfold q2k;omega
theorem qTY (t sz:Nat) (s:AS):SLe s (x4t t sz s):=by
 constructor;intro g a w ι Fr h;unfold x4t;split
 ·exact(qF8 _ _ s (qHU t)).le g a w ι Fr h
 ·rename_i hl;obtain⟨ad,hx⟩:=qGe (h.tmp t _ hl);have h1:=(h.purge (fun x=>Nat.beq x (q25 t))).addNil (id:=q25 t) (q6M (q0y.2 rfl) (qHU t)) (sz:=sz) (te:=q0l) (f:=fun _=>.undef);exact⟨_,_,h1.tell (t:=t) (v:=.osl (q25 t) 0) (by rw[hx];exact .osl0 ad (by simp[q9U]))⟩
 ·exact⟨ι,Fr,h⟩
theorem qU1 (id i sz:Nat) (s:AS):SLe s (x53 id i sz s):=by
 constructor;intro g a w ι Fr h;unfold x53;split
 ·rename_i cs hl;split
  ·exact(qF8 _ _ s (qH1 id i)).le g a w ι Fr h
  ·rename_i hci;have hp:=h.purge (fun x=>Nat.beq x (q2k id i));simp only[];split
   ·rename_i cs1 hl1;have hfr:=q6M (p:=fun x=>Nat.beq x (q2k id i)) (s:=s) (id:=q2k id i) (q0y.2 rfl) (qH1 id i);have hne:id≠q2k id i:=fun e=>by
     have:=(q5A hl1).1;rw[q0y.2 e]at this;simp at this
    have h1:=hp.addNil (id:=q2k id i) hfr (sz:=sz) (te:=q0l) (f:=fun _=>.undef);have hl2:lk (put (purge (fun x=>Nat.beq x (q2k id i)) s).S (q2k id i) (.arr sz 0 (fun _=>.undef) q0l)) id=some (.box cs1):=by
     rw[q1i];simp[hne,hl1]
    cases hi:q9U ι (q2k id i) none id with
    |none=>
     obtain⟨_,_,_,hb⟩:=h1.nob id _ hl2 hi;cases hb
    |some r=>
     obtain⟨b,z,m⟩:=r;obtain⟨hown,_⟩:=h1.own id _ b z m hl2 hi;obtain⟨cells,e,hh,hsz,hr⟩:=hown;have hcs1:cs1[i]?=some .nil:=by
      obtain⟨_,b',hb',hc⟩:=q5A hl1;rw[hl]at hb';have:Blk.box cs=b':=Option.some.inj hb';subst this;have:cs1=cs.map (qDl fun x=>Nat.beq x (q2k id i)):=by injection hc
      rw[this];simp[hci,qDl,V.ment]
     have hilt:i<cs1.length:=(List.getElem?_eq_some_iff.1 hcs1).1;have hnew:qAT w Fr (q9U ι (q2k id i) none) b z m (.box (cs1.set i (.osl (q2k id i) 0))):=by
      refine⟨cells,e,hh,by simpa using hsz,fun j hj=>?_⟩;have hj':j<cs1.length:=by simpa using hj
      have hrj:=hr j hj';by_cases hij:i=j
      ·subst hij;have e1:(cs1.set i (.osl (q2k id i) 0)).getD i .undef=.osl (q2k id i) 0:=by simp[List.getD,hilt]
       have e2:cs1.getD i .undef=.nil:=by simp[List.getD,hcs1]
       rw[e1];rw[e2]at hrj;obtain⟨ad,hx⟩:=qGe hrj;rw[hx];exact .osl0 ad (by simp[q9U])
      ·have e1:(cs1.set i (.osl (q2k id i) 0)).getD j .undef=cs1.getD j .undef:=by simp[List.getD,List.getElem?_set_ne hij]
       rw[e1];exact hrj
     have h2:=h1.setOwn (w':=w) (new:=.box (cs1.set i (.osl (q2k id i) 0))) hl2 hi rfl rfl rfl rfl (fun _ _=>rfl) (fun _ _ hs=>hs) hnew;refine⟨_,_,h2.congr (fun _=>rfl) fun k=>?_⟩;simp only[q1i];by_cases hk:k=q2k id i
     ·subst hk;simp only[if_true];rw[if_neg (fun e=>hne e.symm)]
     ·simp only[hk,if_false]
   ·exact⟨ι,Fr,hp⟩
  ·exact⟨ι,Fr,h⟩
 ·exact⟨ι,Fr,h⟩
theorem qDb:∀(l:List (Nat×Option Nat)) (s:AS),SLe s (qSe l s)
 |[],s=>SLe.refl s
 |(t,some sz)::r,s=>(qTY t sz s).trans (qDb r _)
 |(_,none)::r,s=>qDb r s
theorem qEm (id:Nat):∀(l:List (Nat×Nat)) (s:AS),SLe s (qQO id l s)
 |[],s=>SLe.refl s
 |(i,sz)::r,s=>(qU1 id i sz s).trans (qEm id r _)
theorem qIK:∀(l:List (Nat×List (Nat×Nat))) (s:AS),SLe s (qYQ l s)
 |[],s=>SLe.refl s
 |(id,l)::r,s=>(qEm id l s).trans (qIK r _)
theorem qFH {T:List (Nat×V)}:∀{l:List (Nat×Option Nat)} {t:Nat} {v:V},lk (qN6 T l) t=some v→lk T t=some v
 |[],_,_,h=>by simp[qN6,lk]at h
 |(k,_)::r,t,v,h=>by
  simp only[qN6]at h;split at h
  ·rename_i u hu;simp only[lk]at h;split at h
   ·rename_i hk;rw[←q0y.1 hk,hu];exact h
   ·exact qFH h
  ·exact qFH h
theorem qFg {S:List (Nat×Blk)}:∀{l:List Nat} {t:Nat} {v:Blk},lk (qNJ S l) t=some v→lk S t=some v
 |[],_,_,h=>by simp[qNJ,lk]at h
 |k::r,t,v,h=>by
  simp only[qNJ]at h;split at h
  ·rename_i u hu;simp only[lk]at h;split at h
   ·rename_i hk;rw[←q0y.1 hk,hu];exact h
   ·exact qFg h
  ·exact qFg h
theorem qND (l:LK) (s:AS):SLe s (qUH l s):=by
 refine((qDb l.ts s).trans (qIK l.bs _)).trans ⟨?_⟩;intro g a w ι Fr h;exact⟨ι,Fr,h.less (fun _ _ ht=>qFH ht) fun _ _ hl=>qFg hl⟩
theorem q8q (cx:Cx) (c:Code) (s:AS):SLe s (x1O cx c s):=by
 unfold x1O;split
 ·exact qND _ s
 ·exact SLe.refl s
def x7G (L:q0M) (B:(Exit→AS→Prop)→AS→Prop) (m:AS→AS) (Q:Exit→AS→Prop) (s:AS):Prop:=
 (∃x,SLe (m s) (L.st x)∧L.I x)∧
  ∀x,L.I x→B (fun e s'=>match e with
   | .normal=>∃y,SLe (m s') (L.st y)∧L.I y∧L.μ y<L.μ x
   |e=>Q e s') (L.st x)
def x33 (L:q0M) (B:(Exit→AS→Prop)→AS→Prop) (m:AS→AS) (Q:Exit→AS→Prop) (s:AS):Prop:=
 ∃R:L.α→Prop,(∃x,SLe (m s) (L.st x)∧L.I x∧R x)∧
  ∀x,L.I x→R x→B (fun e s'=>match e with
   | .normal=>∃y,SLe (m s') (L.st y)∧L.I y∧R y∧L.μ y<L.μ x
   |e=>Q e s') (L.st x)
def x0M (L:q0M) (B:(Exit→AS→Prop)→AS→Prop) (m:AS→AS) (Q:Exit→AS→Prop) (s:AS):Prop:=
 ∃N:Nat,B (fun e s'=>match e with
   | .normal=>∃y,SLe (m s') (L.st y)∧L.I y∧L.μ y<N
   |e=>Q e s') s∧
  ∀x,L.I x→B (fun e s'=>match e with
   | .normal=>∃y,SLe (m s') (L.st y)∧L.I y∧L.μ y<L.μ x
   |e=>Q e s') (L.st x)
def awp (cx:Cx):Code→(Exit→AS→Prop)→AS→Prop
 | .skip,Q,s=>Q .normal s
 | .region id ops draw,Q,s=>match mem id cx.ms with
  |true=>qXS cx ops.toList draw s (Q .normal)
  |false=>match mem id cx.cuts with
   |true=>False
   |false=>region cx ops.toList draw s (Q .normal)
 | .seq a b,Q,s=>awp cx a (x3i (awp cx b Q) Q) s
 | .cond c a b,Q,s=>match q20 s c with
  | .bool t=>(t=true→awp cx a Q s)∧(t=false→awp cx b Q s)
  |_=>False
 | .block id a,Q,s=>awp cx a (qR0 id Q) s
 | .loop a,Q,s=>match cx.invs (q3b a)with
  |some L=>match mem (q3b a) cx.nest with
   |true=>x33 L (awp cx a) (x1O cx a) Q s
   |false=>match mem (q3b a+1000000) cx.nest with
    |true=>x0M L (awp cx a) (x1O cx a) Q s
    |false=>x7G L (awp cx a) (x1O cx a) Q s
  |none=>False
 | .exit id,Q,s=>Q (.exit id) s
 | .ret,Q,s=>Q .ret s
 |_,_,_=>False
theorem Rel.drawn {g:G} {s:AS} {a:Act} {w:World} {ι:q1K} {Fr:Nat→Nat→Prop} (h:Rel g s a w ι Fr):Rel g s a { w with drawn:=w.drawn+1 } ι Fr:=
 h.grow rfl rfl rfl (Nat.le_refl _) fun _ _=>rfl
theorem qKq {nt:Nat} {ops:List Oper} {k:Nat} (h:q2l (q2x nt ops) k=true):64≤k:=by
 have key:∀(ops:List Oper),∀q∈q2x nt ops,1≤q:=by
  intro ops;induction ops with
  |nil=>intro q hq;simp[q2x]at hq
  |cons o r ih=>
   intro q hq;simp only[q2x,List.mem_cons]at hq;rcases hq with rfl|hq
   ·omega
   ·exact ih q hq
 have:=key ops _ (q6K.1 h);omega
section
variable {P:Program} {cx:Cx} (hT:q4K P cx.tt) (hD:q0C P cx.D) (hM:q4c P cx.M) (hm:P.follows .mixedOrders=true)
include hT hD hm in
theorem qGr {g:G} (hnt:cx.nt=g.nt) {id:Nat} {ops:Array Oper} {draw:Bool} {K:AS→Prop} {Q:Exit→Act→World→Prop}
  (hK:∀s a w ι Fr,K s→Rel g s a w ι Fr→Q .normal a w) {s:AS} {a:Act} {w:World} {ι:q1K} {Fr:Nat→Nat→Prop} (hr:region cx ops.toList draw s K) (h:Rel g s a w ι Fr):
  (Code.region id ops draw).wp P Q a w:=by
 have hfresh:∀k,q2l (q2x cx.nt ops.toList) k=true→q17 (purge (q2l (q2x cx.nt ops.toList)) s) k:=fun k hk=>q6M hk (qKq hk);have hp:=h.purge (q2l (q2x cx.nt ops.toList));unfold region at hr;cases draw with
 |false=>
  refine wp_region ?_;have:=qCR hT hD hnt (ops:=ops.toList) (Q:=Q) (fun s' es' a w ι Fr hk hrel=>hK _ a w ι Fr hk (hrel.only cx.keep)) ops.toList [] rfl _ [] a w ι Fr hp hfresh hr;simpa[List.range_eq_range']using this
 |true=>
  refine wp_region_any hm ?_;obtain⟨L,hL,hf,hk⟩:=qBX hr;have hzip:ops.toList.zip (((L.map (fun p:Oper×Ef=>p.2)).reverse++[]).reverse)=L:=by
   rw[List.append_nil,List.reverse_reverse,←hL];clear hL hf hk hr hfresh hp;induction L with
   |nil=>rfl
   |cons p r ih=>simp only[List.map_cons,List.zip_cons_cons,ih]
  simp only[hzip]at hk;split at hk
  ·rename_i hb;simp only[Bool.and_eq_true]at hb;have hlen:ops.size=ops.toList.length:=by simp
   refine qMx hT hD hnt (ops:=ops.toList) hL hf hfresh hb.1 hb.2 (fun a w ι Fr hrel=>hK _ a w ι Fr hk (hrel.only cx.keep)) ops.size (Array.replicate ops.size false) a { w with drawn:=w.drawn+1 } ι Fr (by simp) ?_ ?_ ?_
   ·have:∀n,q7u (fun i=>(Array.replicate ops.size false).getD i false) n≤n:=by
     intro n;induction n with
     |zero=>exact Nat.le_refl _
     |succ n ih=>simp only[q7u];split<;>omega
    rw[hlen];exact this _
   ·intro i hi;have:(Array.replicate ops.size false).getD i false=false:=by
     simp only[Array.getD];split<;>simp
    rw[this]at hi;simp at hi
   ·rw[qBD fun j _=>by
     simp only[Array.getD];split<;>simp]
    exact hp.drawn
  ·exact hk.elim
include hT hD hM hm in
theorem q3n {g:G} (hnt:cx.nt=g.nt):∀(c:Code) (A:Exit→AS→Prop) (Q:Exit→Act→World→Prop),(∀e s a w ι Fr,A e s→Rel g s a w ι Fr→Q e a w)→
  ∀(s:AS) (a:Act) (w:World) (ι:q1K) (Fr:Nat→Nat→Prop),awp cx c A s→Rel g s a w ι Fr→c.wp P Q a w
 | .skip,A,Q,hA,s,a,w,ι,Fr,h,hr=>wp_skip (hA _ _ _ _ _ _ h hr)
 | .region id ops draw,A,Q,hA,s,a,w,ι,Fr,h,hr=>by
  simp only[awp]at h;split at h
  ·cases draw with
   |true=>exact h.elim
   |false=>
    have hfresh:∀k,q2l (q2x cx.nt ops.toList) k=true→q17 (purge (q2l (q2x cx.nt ops.toList)) s) k:=fun k hk=>q6M hk (qKq hk);have hp:=hr.purge (q2l (q2x cx.nt ops.toList));refine wp_region ?_;have:=q6l hT hD hM hnt (ops:=ops.toList) (Q:=Q) (fun s' a w ι Fr hk hrel=>hA .normal _ a w ι Fr hk (hrel.only cx.keep)) ops.toList [] rfl _ a w ι Fr hp hfresh h;simpa[List.range_eq_range']using this
  split at h
  ·exact h.elim
  ·exact qGr hT hD hm hnt (K:=A .normal) (fun s a w ι Fr hk hrel=>hA .normal s a w ι Fr hk hrel) h hr
 | .seq x y,A,Q,hA,s,a,w,ι,Fr,h,hr=>by
  refine wp_seq (q3n hnt x (x3i (awp cx y A) A) _ ?_ s a w ι Fr h hr);intro e s a w ι Fr he hrel;cases e with
  |normal=>exact q3n hnt y A Q hA s a w ι Fr he hrel
  |_=>exact hA _ _ _ _ _ _ he hrel
 | .cond c x y,A,Q,hA,s,a,w,ι,Fr,h,hr=>by
  simp only[awp]at h;split at h
  ·rename_i t ht;have hv:=q63 hr c;rw[ht]at hv;exact wp_cond_split (q52 hv) (fun e=>q3n hnt x A Q hA s a w ι Fr (h.1 e) hr) (fun e=>q3n hnt y A Q hA s a w ι Fr (h.2 e) hr)
  ·exact h.elim
 | .block id x,A,Q,hA,s,a,w,ι,Fr,h,hr=>by
  refine wp_block (q3n hnt x (qR0 id A) _ ?_ s a w ι Fr h hr);intro e s a w ι Fr he hrel;cases e with
  |exit j=>
   simp only[qR0]at he;simp only[Exit.inBlock];split at he
   ·rename_i hj;rw[if_pos (q0y.1 hj)];exact hA _ _ _ _ _ _ he hrel
   ·rename_i hj;rw[if_neg (q1N.1 hj)];exact hA _ _ _ _ _ _ he hrel
  |_=>exact hA _ _ _ _ _ _ he hrel
 | .loop x,A,Q,hA,s,a,w,ι,Fr,h,hr=>by
  simp only[awp]at h;cases hL:cx.invs (q3b x)with
  |none=>rw[hL]at h;exact h.elim
  |some L=>
  rw[hL]at h;simp only[]at h;split at h
  ·obtain⟨R,⟨x0,h0,hI0,hR0⟩,hround⟩:=h;have key:∀(n:Nat) (y:L.α),L.I y→R y→L.μ y<n→∀(a:Act) (w:World) (ι:q1K) (Fr:Nat→Nat→Prop),Rel g (L.st y) a w ι Fr→Code.rounds P x Q n a w:=by
    intro n;induction n with
    |zero=>intro y _ _ hlt;omega
    |succ n ih=>
     intro y hIy hRy hlt a w ι Fr hrel;rw[rounds_succ];refine q3n hnt x _ _ ?_ (L.st y) a w ι Fr (hround y hIy hRy) hrel;intro e s' a' w' ι' Fr' he hrel';cases e with
     |normal=>
      obtain⟨z,hz,hIz,hRz,hμ⟩:=he;obtain⟨ι1,Fr1,h1⟩:=(q8q cx x s').le g a' w' ι' Fr' hrel';obtain⟨ι2,Fr2,h2⟩:=hz.le g a' w' ι1 Fr1 h1;exact ih z hIz hRz (by omega) a' w' ι2 Fr2 h2
     |_=>exact hA _ _ _ _ _ _ he hrel'
   obtain⟨ι1,Fr1,h1⟩:=(q8q cx x s).le g a w ι Fr hr;obtain⟨ι2,Fr2,h2⟩:=h0.le g a w ι1 Fr1 h1;exact wp_loop_rounds (L.μ x0+1) (key _ x0 hI0 hR0 (by omega) a w ι2 Fr2 h2)
  split at h
  ·obtain⟨N,h0,hround⟩:=h;have key:∀(n:Nat) (y:L.α),L.I y→L.μ y<n→∀(a:Act) (w:World) (ι:q1K) (Fr:Nat→Nat→Prop),Rel g (L.st y) a w ι Fr→Code.rounds P x Q n a w:=by
    intro n;induction n with
    |zero=>intro y _ hlt;omega
    |succ n ih=>
     intro y hIy hlt a w ι Fr hrel;rw[rounds_succ];refine q3n hnt x _ _ ?_ (L.st y) a w ι Fr (hround y hIy) hrel;intro e s' a' w' ι' Fr' he hrel';cases e with
     |normal=>
      obtain⟨z,hz,hIz,hμ⟩:=he;obtain⟨ι1,Fr1,h1⟩:=(q8q cx x s').le g a' w' ι' Fr' hrel';obtain⟨ι2,Fr2,h2⟩:=hz.le g a' w' ι1 Fr1 h1;exact ih z hIz (by omega) a' w' ι2 Fr2 h2
     |_=>exact hA _ _ _ _ _ _ he hrel'
   refine wp_loop_rounds (N+1) ?_;rw[rounds_succ];refine q3n hnt x _ _ ?_ s a w ι Fr h0 hr;intro e s' a' w' ι' Fr' he hrel';cases e with
   |normal=>
    obtain⟨z,hz,hIz,hμ⟩:=he;obtain⟨ι1,Fr1,h1⟩:=(q8q cx x s').le g a' w' ι' Fr' hrel';obtain⟨ι2,Fr2,h2⟩:=hz.le g a' w' ι1 Fr1 h1;exact key N z hIz hμ a' w' ι2 Fr2 h2
   |_=>exact hA _ _ _ _ _ _ he hrel'
  ·obtain⟨⟨x0,h0,hI0⟩,hround⟩:=h;have key:∀(n:Nat) (y:L.α),L.I y→L.μ y<n→∀(a:Act) (w:World) (ι:q1K) (Fr:Nat→Nat→Prop),Rel g (L.st y) a w ι Fr→Code.rounds P x Q n a w:=by
    intro n;induction n with
    |zero=>intro y _ hlt;omega
    |succ n ih=>
     intro y hIy hlt a w ι Fr hrel;rw[rounds_succ];refine q3n hnt x _ _ ?_ (L.st y) a w ι Fr (hround y hIy) hrel;intro e s' a' w' ι' Fr' he hrel';cases e with
     |normal=>
      obtain⟨z,hz,hIz,hμ⟩:=he;obtain⟨ι1,Fr1,h1⟩:=(q8q cx x s').le g a' w' ι' Fr' hrel';obtain⟨ι2,Fr2,h2⟩:=hz.le g a' w' ι1 Fr1 h1;exact ih z hIz (by omega) a' w' ι2 Fr2 h2
     |_=>exact hA _ _ _ _ _ _ he hrel'
   obtain⟨ι1,Fr1,h1⟩:=(q8q cx x s).le g a w ι Fr hr;obtain⟨ι2,Fr2,h2⟩:=h0.le g a w ι1 Fr1 h1;exact wp_loop_rounds (L.μ x0+1) (key _ x0 hI0 (by omega) a w ι2 Fr2 h2)
 | .exit id,A,Q,hA,s,a,w,ι,Fr,h,hr=>wp_exit (hA _ _ _ _ _ _ h hr)
 | .ret,A,Q,hA,s,a,w,ι,Fr,h,hr=>wp_ret (hA _ _ _ _ _ _ h hr)
 | .rangeFunc ..,A,Q,hA,s,a,w,ι,Fr,h,hr=>h.elim
 | .scope ..,A,Q,hA,s,a,w,ι,Fr,h,hr=>h.elim
 | .label ..,A,Q,hA,s,a,w,ι,Fr,h,hr=>h.elim
 | .goto ..,A,Q,hA,s,a,w,ι,Fr,h,hr=>h.elim
 | .refuse ..,A,Q,hA,s,a,w,ι,Fr,h,hr=>h.elim
end
structure VLe (v v':V):Prop where
 le:∀(w:World) (Fr:Nat→Nat→Prop) (ι:q1K) (x:Value),(∀b,¬Fr q0l b)→(∀t b,Fr t b→Fr 0 b)→q0e w Fr ι v x→q0e w Fr ι v' x
theorem VLe.refl (v:V):VLe v v:=⟨fun _ _ _ _ _ _ h=>h⟩
theorem VLe.trans {a b c:V} (h:VLe a b) (h':VLe b c):VLe a c:=⟨fun w Fr ι x h1 h2 h3=>h'.le w Fr ι x h1 h2 (h.le w Fr ι x h1 h2 h3)⟩
@[irreducible] def q0d (cx:Cx) (fn:Func) (pol:Nat) (args:List V) (K:V→Prop):Prop:=
 match fn.body with
 |some c=>awp cx c (fun e s=>
   match e with
   | .normal=>match qRY cx.tt s fn.results.toList with
    |some r=>K (qD6 pol s r)
    |none=>False
   | .ret=>match qRY cx.tt s fn.results.toList with
    |some r=>K (qD6 pol s r)
    |none=>False
   |_=>False) ⟨q95 args 0,[]⟩
 |none=>False
theorem qQP {w:World} {A A':Nat→Prop} {u:V} {x:Value} (h:PRep w A u x) (ht:q2D u=none) (hp:isP u=true):PRep w A' u x:=by
 cases h with
 |int=>exact .int _ _
 |bool=>exact .bool _
 |str=>exact .str _
 |nil=>exact .nil _
 |sl0=>simp[q2D]at ht
 |sl=>simp[q2D]at ht
 |ptr=>simp[q2D]at ht
 |agg=>simp[isP]at hp
 |tup=>simp[isP]at hp
 |fn=>simp[isP]at hp
 |undef=>exact .undef _
section
variable {g:G} {s:AS} {a:Act} {w:World} {ι:q1K} {Fr:Nat→Nat→Prop} (h:Rel g s a w ι Fr) {A:Nat→Prop} {lim c:Nat} (hA:∀t b,lim≤t→Fr t b→A b)
 (hO:∀id blk r,64≤id→lk s.S id=some blk→ι id=some r→isC blk=true→A r.1)
include h hA hO
theorem qE7 {v:V} {x:Value} (hv:q0e w Fr ι v x):PRep w A (q4U s.S lim c v) x:=by
 cases hv with
 |atom hp hr=>
  cases hr with
  |int=>exact .int _ _
  |bool=>exact .bool _
  |str=>exact .str _
  |nil=>exact .nil _
  |sl0=>
   simp only[q4U];split
   ·exact .sl0 _ _ _ _
   ·exact .undef _
  |sl cv hA' hcap hsz hc hr=>
   simp only[q4U];split
   ·rename_i hl;exact(PRep.sl (t:=c) cv hA' hcap hsz hc hr).weaken fun b hb=>hA _ b (Nat.le_of_ble_eq_true hl) hb
   ·exact .undef _
  |ptr cv hA' hc hr=>
   simp only[q4U];split
   ·rename_i hl;exact(PRep.ptr (t:=c) cv hA' hc hr).weaken fun b hb=>hA _ b (Nat.le_of_ble_eq_true hl) hb
   ·exact .undef _
  |agg=>simp[isP]at hp
  |tup=>simp[isP]at hp
  |fn=>simp[isP]at hp
  |undef=>exact .undef _
 |osl hi hn hc hs hcs=>
  rename_i id n b sz m cap cz e;simp only[q4U];split
  ·rename_i sz' m' f te hl h64;split
   ·rename_i hlim;obtain⟨rfl,rfl,cells,e',hh,hsz,hlen,hr⟩:=(h.own id _ b sz m hl hi).1;refine .sl (sz:=sz') (off:=0) (fun i j=>cells.getD (i*sz'+j) Go.undef) (hO id _ _ (Nat.le_of_ble_eq_true h64) hl hi rfl) hc (fun i hin=>hlen i (by omega)) (fun i j hin hj=>?_)
     (fun i j hin hj=>(hr i j (by omega) hj).weaken (fun b hb=>hA _ b (Nat.le_of_ble_eq_true hlim) hb))
    have e1:i*sz'+sz'=(i+1)*sz':=by rw[Nat.add_mul,Nat.one_mul]
    have e2:(i+1)*sz'≤m'*sz':=Nat.mul_le_mul_right _ (by omega);rw[Nat.zero_add];exact q4Q hh (by omega)
   ·exact .undef _
  ·exact .undef _
 |osl0 a0 hi=>
  simp only[q4U];split
  ·split
   ·exact .sl0 _ _ _ _
   ·exact .undef _
  ·exact .undef _
 |oref hi hin=>
  rename_i id i off b sz m;simp only[q4U];split
  ·rename_i sz' m' f te hl h64;split
   ·rename_i hlim;obtain⟨rfl,rfl,cells,e',hh,hsz,hlen,hr⟩:=(h.own id _ b sz m hl hi).1;refine .ptr (base:=i*sz') (fun j=>cells.getD (i*sz'+j) Go.undef) (hO id _ _ (Nat.le_of_ble_eq_true h64) hl hi rfl) (fun j hj=>?_)
     (fun j hj=>(hr i j hin (by rw[←hlen i hin];exact hj)).weaken (fun b hb=>hA _ b (Nat.le_of_ble_eq_true hlim) hb))
    have e1:i*sz'+sz'=(i+1)*sz':=by rw[Nat.add_mul,Nat.one_mul]
    have e2:(i+1)*sz'≤m'*sz':=Nat.mul_le_mul_right _ (by omega);rw[hlen i hin]at hj;exact q4Q hh (by omega)
   ·exact .undef _
  ·exact .undef _
 |omap=>exact .undef _
 |oss=>exact .undef _
 |oss0=>exact .undef _
 |agg=>exact .undef _
 |tup=>exact .undef _
 |fn=>exact .undef _
 |cnd=>exact .undef _
omit h hA hO in
theorem qCj (S:List (Nat×Blk)) (lim c:Nat) (v:V):isP (q4U S lim c v)=true∧(q2D (q4U S lim c v)=none∨q2D (q4U S lim c v)=some c):=by
 cases v with
 |osl id n=>simp only[q4U];split<;>(try split)<;>simp[isP,q2D]
 |oref id i off=>simp only[q4U];split<;>(try split)<;>simp[isP,q2D]
 |sl n g t=>simp only[q4U];split<;>simp[isP,q2D]
 |ptr cs o t=>simp only[q4U];split<;>simp[isP,q2D]
 |_=>simp[q4U,isP,q2D]
omit h hA hO in
theorem q8Q {Fr':Nat→Nat→Prop} {ι':q1K} (hF:∀b,A b→Fr' c b) {u:V} {x:Value} (hp:isP u=true) (ht:q2D u=none∨q2D u=some c) (hr:PRep w A u x):q0e w Fr' ι' u x:=by
 refine .atom hp ?_;rcases ht with ht|ht
 ·exact qQP hr ht hp
 ·unfold qUo;rw[ht];exact hr.weaken hF
theorem q79 {Fr':Nat→Nat→Prop} {ι':q1K} (hF:∀b,A b→Fr' c b) {v:V} {x:Value} (hv:q0e w Fr ι v x):q0e w Fr' ι' (q4U s.S lim c v) x:=
 q8Q hF (qCj _ _ _ _).1 (qCj _ _ _ _).2 (qE7 h hA hO hv)
theorem qHB {Fr':Nat→Nat→Prop} {ι':q1K} (hF:∀b,A b→Fr' c b) {v:V} {x:Value} (hv:q0e w Fr ι v x):q0e w Fr' ι' (qNP s.S lim c v) x:=by
 have mp:∀{cs:List V} {j:Nat},j<cs.length→(cs.map (q4U s.S lim c)).getD j .undef=q4U s.S lim c (cs.getD j .undef):=fun hj=>by simp[List.getD,hj]
 cases v with
 |agg cs=>
  cases hv with
  |atom hp _=>simp[isP]at hp
  |agg arr hs hr=>
   refine .agg arr (by simpa using hs) fun j hj=>?_;have hj':j<cs.length:=by simpa using hj
   rw[mp hj'];exact q79 h hA hO hF (hr j hj')
 |fn f cs=>
  cases hv with
  |atom hp _=>simp[isP]at hp
  |fn arr hs hr=>
   refine .fn arr (by simpa using hs) fun j hj=>?_;have hj':j<cs.length:=by simpa using hj
   rw[mp hj'];exact q79 h hA hO hF (hr j hj')
 |oref id i off=>
  simp only[qNP];split
  ·rename_i cs hl h64;split
   ·cases hv with
    |atom hp _=>simp[isP]at hp
    |oref hi him=>
     rename_i b sz m;obtain⟨cells,e,hh,hsz,hr⟩:=(h.own id _ b sz m hl hi).1;refine q8Q (A:=A) (c:=c) hF rfl (.inr rfl) ?_;rw[Nat.zero_mul];refine PRep.ptr (base:=0) (fun j=>cells.getD j Go.undef) (hO id _ _ (Nat.le_of_ble_eq_true h64) hl hi rfl) (fun j hj=>?_) (fun j hj=>?_)
     ·have hj':j<cs.length:=by simpa using hj
      rw[Nat.zero_add];exact q4Q hh (by omega)
     ·have hj':j<cs.length:=by simpa using hj
      rw[mp hj'];exact qE7 h hA hO (hr j hj')
   ·exact .atom rfl (.undef _)
  ·exact q79 h hA hO hF hv
 |_=>exact q79 h hA hO hF hv
theorem qKM {Fr':Nat→Nat→Prop} {ι':q1K} (hF:∀b,A b→Fr' c b) {v:V} {x:Value} (hv:q0e w Fr ι v x):q0e w Fr' ι' (x9a s.S lim c v) x:=by
 cases v with
 |tup vs=>
  cases hv with
  |atom hp _=>simp[isP]at hp
  |tup arr hs hr=>
   refine .tup arr (by simpa using hs) fun j hj=>?_;have hj':j<vs.length:=by simpa using hj
   have e1:(vs.map (qNP s.S lim c)).getD j .undef=qNP s.S lim c (vs.getD j .undef):=by simp[List.getD,hj']
   rw[e1];exact qHB h hA hO hF (hr j hj')
 |_=>exact qHB h hA hO hF hv
end
def qMd (N:Nat→Prop) (w':World) (X0:Nat→Prop):Nat→Nat→Prop:=fun t b=>t≠q0l∧b<w'.heap.size∧¬X0 b∧(2≤t→N b∧∃arr e,w'.heap[b]?=some (.cells arr e (0,0)))
theorem qNK {g:G} {s:AS} {a:Act} {w:World} {ι:q1K} {Fr:Nat→Nat→Prop} (h:Rel g s a w ι Fr) (pol:Nat) {v:V} {x:Value} (hv:q0e w Fr ι v x) {ι':q1K}:
  q0e w (qMd g.New w g.X0) ι' (qD6 pol s v) x:=by
 have hnx:∀b,g.New b→¬g.X0 b:=fun b hb=>h.newX hb;have hO:∀id blk r,64≤id→lk s.S id=some blk→ι id=some r→isC blk=true→r.1<w.heap.size∧¬g.X0 r.1∧g.New r.1∧∃arr e,w.heap[r.1]?=some (.cells arr e (0,0)):=by
  intro id blk r h64 hl hi hcc;obtain⟨b,sz,m⟩:=r;obtain⟨h1,h2⟩:=h.own id blk b sz m hl hi;have hb:g.New b:=by
   rcases h2 with h2|h2
   ·exact h2
   ·omega
  exact⟨h1.lt,hnx b hb,hb,h1.cl hcc⟩
 unfold qD6;split
 ·refine qKM h (A:=fun b=>b<w.heap.size∧¬g.X0 b) (fun t b _ hf=>⟨(h.fr t b hf).1,(h.fr t b hf).2.1⟩) (fun id blk r h64 hl hi hcc=>⟨(hO id blk r h64 hl hi hcc).1,(hO id blk r h64 hl hi hcc).2.1⟩) ?_ hv;intro b hb;exact⟨by decide,hb.1,hb.2,fun h2=>by omega⟩
 ·refine qKM h (A:=fun b=>b<w.heap.size∧¬g.X0 b∧g.New b∧∃arr e,w.heap[b]?=some (.cells arr e (0,0))) (fun t b ht hf=>⟨(h.fr t b hf).1,(h.fr t b hf).2.1,h.fr2 t b ht hf,h.cl t b ht hf⟩) hO ?_ hv;intro b hb;exact⟨by decide,hb.1,hb.2.1,fun _=>hb.2.2⟩
theorem qN3 {P:Program} {cx:Cx} (hT:q4K P cx.tt) {g:G} {s:AS} {a:Act} {w:World} {ι:q1K} {Fr:Nat→Nat→Prop} (h:Rel g s a w ι Fr) {F:ResultVar→Sem Value}
  (h1:∀t,F (.tmp t)=pure (a.tmps.getD t Go.undef)) (h2:∀b t,F (.cell b t)=do loadVar t (←asAddr (a.tmps.getD b Go.undef))) {x:ResultVar} {v:V} (hv:qKH cx.tt s x=some v):
  ∃y,(F x).run P w=.ok y w∧q0e w Fr ι v y:=by
 have hval:∀t,q0e w Fr ι (q20 s (.tmp t)) (a.tmps.getD t Go.undef):=fun t=>by
  have:=q63 h (.tmp t);simpa[Act.eval]using this
 cases x with
 |tmp t=>
  simp only[qKH,Option.some.injEq]at hv;subst hv;exact⟨_,by rw[h1];rfl,hval t⟩
 |cell b t=>
  simp only[qKH]at hv;split at hv
  ·rename_i ti hti;split at hv
   ·rename_i v' upd rd he;simp only[Option.some.injEq]at hv;subst hv;obtain⟨_,y,hy,hrep⟩:=qLk (P:=P) hT h hti he (fun q hq=>by simp at hq) (hval b);refine⟨y,?_,hrep⟩;have hp:∃ad,a.tmps.getD b Go.undef=.pointer (some ad):=by
     have hb:=hval b;generalize a.tmps.getD b Go.undef=xb at hb;generalize q20 s (.tmp b)=vb at hb he;cases hb with
     |atom hv hr=>
      cases hr with
      |ptr=>exact⟨_,rfl⟩
      |agg=>simp[isP]at hv
      |tup=>simp[isP]at hv
      |fn=>simp[isP]at hv
      |_=>simp[qBl]at he
     |oref=>exact⟨_,rfl⟩
     |_=>simp[qBl]at he
    obtain⟨ad,had⟩:=hp;rw[h2,had];rw[had]at hy;simpa[Instr.loadAt,Instr.sureAddr,asAddr]using hy
   ·simp at hv
  ·simp at hv
theorem qL5 {P:Program} {cx:Cx} (hT:q4K P cx.tt) {g:G} {s:AS} {a:Act} {w:World} {ι:q1K} {Fr:Nat→Nat→Prop} (h:Rel g s a w ι Fr) {F:ResultVar→Sem Value}
  (h1:∀t,F (.tmp t)=pure (a.tmps.getD t Go.undef)) (h2:∀b t,F (.cell b t)=do loadVar t (←asAddr (a.tmps.getD b Go.undef))):∀{l:List ResultVar} {vs:List V},qYy cx.tt s l=some vs→
  ∃ys,(l.mapM F).run P w=.ok ys w∧ys.length=vs.length∧∀j,j<vs.length→q0e w Fr ι (vs.getD j .undef) (ys.getD j Go.undef)
 |[],vs,hv=>by
  simp only[qYy,Option.some.injEq]at hv;subst hv;exact⟨[],rfl,rfl,fun j hj=>by simp at hj⟩
 |x::r,vs,hv=>by
  simp only[qYy]at hv;split at hv
  ·rename_i v l hx hl;simp only[Option.some.injEq]at hv;subst hv;obtain⟨y,hy,hyr⟩:=qN3 hT h h1 h2 hx;obtain⟨ys,hys,hlen,hr⟩:=qL5 hT h h1 h2 hl;refine⟨y::ys,by simp only[List.mapM_cons,Sem.run_bind,Sem.run_pure,Result.andThen_ok,hy,hys],by simp[hlen],fun j hj=>?_⟩;cases j with
   |zero=>simpa using hyr
   |succ j=>simpa using hr j (by simpa using hj)
  ·simp at hv
theorem qFD {P:Program} {cx:Cx} (hT:q4K P cx.tt) {g:G} {s:AS} {a:Act} {w:World} {ι:q1K} {Fr:Nat→Nat→Prop} (h:Rel g s a w ι Fr) {fn:Func} {r:V} (hr:qRY cx.tt s fn.results.toList=some r):
  ∃v,(results fn a.tmps).run P w=.ok v w∧q0e w Fr ι r v:=by
 unfold qRY at hr;cases hl:qYy cx.tt s fn.results.toList with
 |none=>rw[hl]at hr;simp at hr
 |some vs=>
  have key:∀F:ResultVar→Sem Value,(∀t,F (.tmp t)=pure (a.tmps.getD t Go.undef))→(∀b t,F (.cell b t)=do loadVar t (←asAddr (a.tmps.getD b Go.undef)))→
    ∃v,((((fn.results.toList.mapM F).run P w).andThen fun a w'=>Result.ok a.toArray w').andThen fun a w'=>(pure (if h:a.size=1 then a[0]else Value.tuple a):Sem Value).run P w')=.ok v w∧q0e w Fr ι r v:=by
   intro F h1 h2;obtain⟨ys,hys,hlen,hrep⟩:=qL5 hT h h1 h2 hl;refine⟨if hh:ys.toArray.size=1 then ys.toArray[0]else .tuple ys.toArray,by rw[hys];rfl,?_⟩;rw[hl]at hr;split at hr
   ·rename_i v e1;simp only[Option.some.injEq]at hr e1;subst e1;subst hr
    match ys,hlen,hrep with
    |[y],_,hrep=>simpa using hrep 0 (by simp)
   ·rename_i l hne e1;simp only[Option.some.injEq]at hr e1;subst e1;subst hr;have hlen1:vs.length≠1:=fun e=>by
     match vs,e with
     |[t],_=>exact hne t rfl
    rw[dif_neg (by simpa[hlen]using hlen1)];refine .tup _ (by simp[hlen]) fun j hj=>?_;have:=hrep j hj;have e2:ys.toArray.getD j Go.undef=ys.getD j Go.undef:=by simp[Array.getD_eq_getD_getElem?,List.getD]
    rw[e2];exact this
   ·simp at hr
  unfold results;rw[Array.mapM_eq_mapM_toList];simp only[Sem.run_bind,Sem.run_map];exact key _ (fun _=>rfl) (fun _ _=>rfl)
theorem q9h:∀{args:List V} {k t:Nat} {v:V},lk (q95 args k) t=some v→∃j,t=k+j∧args[j]?=some v
 |[],_,_,_,h=>by simp[q95,lk]at h
 |x::r,k,t,v,h=>by
  simp only[q95,lk]at h;split at h
  ·rename_i hk;refine⟨0,?_,?_⟩
   ·have:=q0y.1 hk;omega
   ·simpa using h
  ·obtain⟨j,hj,hv⟩:=q9h h;exact⟨j+1,by omega,by simpa using hv⟩
def q54 (args args':List V):Prop:=args'.length=args.length∧∀j,j<args.length→VLe (args.getD j .undef) (args'.getD j .undef)
theorem q54.refl (args:List V):q54 args args:=⟨rfl,fun _ _=>VLe.refl _⟩
theorem qD8 {P:Program} {f:Nat} {fn:Func} {c:Code} (hf:P.funcs[f]?=some fn) (hb:fn.body=some c) (hn:(fn.name=="runtime.NumGoroutine")=false) (vals:Array Value) (w:World):
  (callFunc f vals).run P w=.ok (.enter f vals) w:=by
 have hn':¬fn.name="runtime.NumGoroutine":=by simpa using hn
 unfold callFunc;simp[hf,hb,hn']
theorem qAN {P:Program} (hm:P.follows .mixedOrders=true) {f:Nat} {fn:Func} {c:Code} {D:q0P} {pol:Nat}
  (hf:P.funcs[f]?=some fn) (hb:fn.body=some c) (hn:(fn.name=="runtime.NumGoroutine")=false)
  (hbody:∀args bin ob r bout,D args bin=some (ob,r,bout)→ob→bin=[]∧bout=[]∧args.length≤fn.ntmps∧
   ∃cx:Cx,q4K P cx.tt∧q0C P cx.D∧q4c P cx.M∧cx.nt=fn.ntmps∧∃args',q54 args args'∧q0d cx fn pol args' (fun r'=>VLe r' r)):q0R P f D:=by
 refine⟨?_⟩;intro args bin ob r bout hDe hob vals w X0 io ι Fr hE hsize hvals;refine .inl ⟨qD8 hf hb hn _ _,?_⟩;obtain⟨rfl,rfl,hlen,cx,hT,hD,hM,hnt,args',⟨hl',hle⟩,hp⟩:=hbody args bin ob r bout hDe hob;let g:G:=⟨w,X0,io,fn.ntmps,ι,fun _=>False⟩
 have hN:∀b,g.New b→w.heap.size≤b:=fun b hb=>hb.elim id fun hq=>hq.elim;have hrel:Rel g ⟨q95 args' 0,[]⟩ { tmps:=vals++Array.replicate (fn.ntmps-vals.size) Go.undef,defers:=[] } w ι Fr:=by
  refine
   {defers:=rfl
    size:=by show(vals++Array.replicate (fn.ntmps-vals.size) Go.undef).size=fn.ntmps;simp;omega
    tmp:=?_
    own:=fun id blk b sz m hl=>by simp[lk]at hl
    nob:=fun id blk hl=>by simp[lk]at hl
    inj:=fun id id' blk blk' r r' hl=>by simp[lk]at hl
    fr:=fun t b hb=>⟨(hE.fr t b hb).1,(hE.fr t b hb).2.1,fun id blk r hl=>by simp[lk]at hl⟩
    frS:=hE.frS
    fr0:=hE.fr0
    fr2:=fun t b h2 hb=>absurd hb (hE.fr2 t b h2)
    fr1:=fun b hb hq=>by
     have:=(hE.fr 1 b hb).1;have:=hN b hq;omega
    cl:=fun t b h2 hb=>absurd hb (hE.fr2 t b h2)
    low:=fun _ _=>rfl
    x0:=hE.x0
    io0:=hE.io0
    mvio:=fun _ hq=>hq.elim
    os:=rfl,tape:=rfl,output:=rfl,hsize:=Nat.le_refl _,frame:=fun _ _ _=>rfl,shape:=fun _ _ h=>h }
  intro t v ht;obtain⟨j,rfl,hj⟩:=q9h ht;rw[Nat.zero_add];have hj':j<args'.length:=(List.getElem?_eq_some_iff.1 hj).1;have e1:args'.getD j .undef=v:=by simp[List.getD,hj]
  have e2:(vals++Array.replicate (fn.ntmps-vals.size) Go.undef).getD j Go.undef=vals.getD j Go.undef:=by
   have hjv:j<vals.size:=by omega
   simp only[Array.getD_eq_getD_getElem?];rw[Array.getElem?_append_left hjv]
  have:=(hle j (by omega)).le w Fr ι _ hE.frS hE.fr0 (hvals j (by omega));rw[e1]at this;show q0e w Fr ι v ((vals++Array.replicate (fn.ntmps-vals.size) Go.undef).getD j Go.undef);rw[e2];exact this
 have hfin:∀(s:AS) (a:Act) (w':World) (ι':q1K) (Fr':Nat→Nat→Prop),Rel g s a w' ι' Fr'→(∃r0,qRY cx.tt s fn.results.toList=some r0∧VLe (qD6 pol s r0) r)→
   a.defers=[]∧∃v,(results fn a.tmps).run P w'=.ok v w'∧∃v' ι'' Fr'',Ending.returned v=.returned v'∧q0e w' Fr'' ι'' r v'∧Ext w w' X0 io (fun b=>w.heap.size≤b) ι 0 [] ι'' Fr'':=by
  rintro s a w' ι' Fr' hr ⟨r0,hr0,hv⟩;obtain⟨v,hrun,hrep⟩:=qFD (P:=P) hT hr hr0;have hex:=qNK hr pol hrep (ι':=ι');have hS:∀b,¬qMd g.New w' X0 q0l b:=fun b hb=>hb.1 rfl;have h0:∀t b,qMd g.New w' X0 t b→qMd g.New w' X0 0 b:=fun t b hb=>⟨by decide,hb.2.1,hb.2.2.1,fun h2=>by omega⟩;refine⟨hr.defers,v,hrun,v,ι',qMd g.New w' X0,rfl,hv.le w' _ ι' v hS h0 hex,?_⟩;exact
   {own:=fun id blk b sz k hl=>by simp at hl
    nob:=fun id blk hl=>by simp at hl
    inj:=fun id id' blk blk' r r' hl=>by simp at hl
    fr:=fun t b hb=>⟨hb.2.1,hb.2.2.1,fun id blk r hl=>by simp at hl⟩
    frS:=hS
    fr0:=h0
    fr2:=fun t b h2 hb=>hN b (hb.2.2.2 h2).1
    cl:=fun t b h2 hb=>(hb.2.2.2 h2).2
    same:=fun id hid=>by omega
    os:=hr.os,tape:=hr.tape,output:=hr.output,hsize:=hr.hsize,frame:=hr.frame,shape:=hr.shape }
 unfold q0d at hp;rw[hb]at hp;refine calls_of_wp hf hb (q3n hT hD hM hm (g:=g) (hnt.trans rfl) c _ _ ?_ _ _ w ι Fr hp hrel);intro e s a w' ι' Fr' he hr;cases e with
 |normal=>
  simp only[]at he;split at he
  ·rename_i r0 hr0;exact hfin s a w' ι' Fr' hr ⟨r0,hr0,he⟩
  ·exact he.elim
 |ret=>
  simp only[]at he;split at he
  ·rename_i r0 hr0;exact hfin s a w' ι' Fr' hr ⟨r0,hr0,he⟩
  ·exact he.elim
 |_=>exact he.elim
theorem x3C {w:World} {X0 io:Nat→Prop} {ι:q1K} {Fr:Nat→Nat→Prop} (hE:Ent w X0 io [] ι Fr):Ext w w X0 io (fun b=>w.heap.size≤b) ι 0 [] ι Fr:=
 {own:=fun id blk b sz k hb=>by simp at hb
  nob:=fun id blk hb=>by simp at hb
  inj:=fun id id' blk blk' r r' hb=>by simp at hb
  fr:=fun t b hf=>⟨(hE.fr t b hf).1,(hE.fr t b hf).2.1,fun id blk r hb=>by simp at hb⟩
  frS:=hE.frS
  fr0:=hE.fr0
  fr2:=fun t b h2 hf=>absurd hf (hE.fr2 t b h2)
  cl:=fun t b h2 hf=>absurd hf (hE.fr2 t b h2)
  same:=fun id h=>by omega
  os:=rfl,tape:=rfl,output:=rfl,hsize:=Nat.le_refl _
  frame:=fun _ _ _=>rfl
  shape:=fun _ _ h=>h }
def noD (v:V):q0P:=fun _ _=>some (False,v,[])
theorem qKX {P:Program} {f:Nat} {v:V}:q0R P f (noD v):=⟨fun args bin ob r bout h hob=>by
 unfold noD at h;cases h;exact hob.elim⟩
theorem q8T {P:Program} {f:Nat} {fn:Func} {D:q0P} {e:Array Value→Sem Value} (hf:P.funcs[f]?=some fn) (hname:(fn.name=="runtime.NumGoroutine")=false)
  (hb:fn.body.isNone=true) (hn:Extern.findNext fn=none) (he:Extern.find fn=some e)
  (h:∀args bin ob r bout,D args bin=some (ob,r,bout)→ob→bin=[]∧bout=[]∧∀(vals:Array Value) (w:World) (ι:q1K) (Fr:Nat→Nat→Prop),vals.size=args.length→
   (∀j,j<args.length→q0e w Fr ι (args.getD j .undef) (vals.getD j Go.undef))→∃v,(e vals).run P w=.ok v w∧q0e w Fr ι r v):q0R P f D:=by
 refine⟨?_⟩;intro args bin ob r bout hDe hob vals w X0 io ι Fr hE hsize hvals;obtain⟨rfl,rfl,hx⟩:=h args bin ob r bout hDe hob;obtain⟨v,hv,hr⟩:=hx vals w ι Fr hsize hvals;refine .inr ⟨v,?_,v,ι,Fr,rfl,hr,x3C hE⟩;rw[run_callFunc_extern hf hname hb hn he,hv];rfl
def qPk:q0P:=fun args bin=>match args,bin with
 |[.str s,.int .u8 c],[]=>some (True,.int .i64 ((Lib.countByte s.data.toList c.toNat.toUInt8:Nat):Int),[])
 |_,_=>none
def qAX:q0P:=fun args bin=>match args,bin with
 |[.str s,.int .u8 c],[]=>some (True,.int .i64 (Lib.indexByte s.data.toList c.toNat.toUInt8),[])
 |_,_=>none
def qFm:q0P:=fun args bin=>match args,bin with
 |[.str a,.str b],[]=>some (True,.int .i64 (Lib.compareBytes a.data.toList b.data.toList),[])
 |_,_=>none
theorem qUF {vals:Array Value} {a b:Value} (h:vals.size=2) (h0:vals.getD 0 Go.undef=a) (h1:vals.getD 1 Go.undef=b):vals= #[a,b]:=by
 apply Array.ext
 ·simpa using h
 ·intro i hi1 hi2;have hi:i<2:=by simpa using hi2
  match i,hi with
  |0,_=>rw[←h0];simp[h]
  |1,_=>rw[←h1];simp[h]
section
variable {P:Program} {f:Nat} {fn:Func} (hf:P.funcs[f]?=some fn) (hname:(fn.name=="runtime.NumGoroutine")=false) (hb:fn.body.isNone=true) (hn:Extern.findNext fn=none)
include hf hname hb hn
theorem qJr (he:Extern.find fn=some Extern.BytealgCount.count):q0R P f qPk:=
 q8T hf hname hb hn he fun args bin ob r bout hD _=>by
  unfold qPk at hD;split at hD
  ·rename_i s c;cases hD;refine⟨rfl,rfl,fun vals w ι Fr hs hv=>?_⟩;have h0:=q5W (hv 0 (by simp));have h1:=q31 (hv 1 (by simp));rw[qUF hs h0 h1,Lib.run_countString];exact⟨_,rfl,.atom rfl (.int _ _)⟩
  ·cases hD
theorem qCb (he:Extern.find fn=some Extern.BytealgIndexByte.indexByte):q0R P f qAX:=
 q8T hf hname hb hn he fun args bin ob r bout hD _=>by
  unfold qAX at hD;split at hD
  ·rename_i s c;cases hD;refine⟨rfl,rfl,fun vals w ι Fr hs hv=>?_⟩;have h0:=q5W (hv 0 (by simp));have h1:=q31 (hv 1 (by simp));rw[qUF hs h0 h1,Lib.run_indexByteString];exact⟨_,rfl,.atom rfl (.int _ _)⟩
  ·cases hD
theorem qFM (he:Extern.find fn=some Extern.BytealgCompare.compare):q0R P f qFm:=
 q8T hf hname hb hn he fun args bin ob r bout hD _=>by
  unfold qFm at hD;split at hD
  ·rename_i a b;cases hD;refine⟨rfl,rfl,fun vals w ι Fr hs hv=>?_⟩;have h0:=q5W (hv 0 (by simp));have h1:=q5W (hv 1 (by simp));rw[qUF hs h0 h1,Lib.run_compareString];exact⟨_,rfl,.atom rfl (.int _ _)⟩
  ·cases hD
end
def qDx:Value→V
 | .agg cs=>.agg (cs.toList.map q6L)
 |v=>q6L v
def qG7:Value→Bool
 | .agg _=>true
 |_=>false
def x2S:V→Bool
 | .agg cs=>cs.all qE3
 |v=>qE3 v
def qXd (P:Program) (t:Nat) (d:TypeDesc):Bool:=
 !(P.stoodInHeld t)&& !(P.eqGuardType P.depth t)&&(match d with
  | .struct fs=>fs.toList.all fun f=> !(f.name=="_")
  |_=>true)
def x4x (P:Program) (t:Nat):Option TI:=
 match P.underlying t,P.info? t with
 |some d,some i=>match i.zero with
  |some z=>match Nat.beq (qDx z).cells.length i.size&&Nat.beq z.cells.size i.size&&(q5I d==qG7 z)with
   |true=>some ⟨d,i.size,i.bytes,qDx z,x2S (qDx z),qXd P t d⟩
   |false=>none
  |none=>none
 |_,_=>none
def qI2 (P:Program):List Nat→TT
 |[]=>[]
 |t::r=>match x4x P t with
  |some ti=>(t,ti)::qI2 P r
  |none=>qI2 P r
theorem qFi {P:Program}:∀{ids:List Nat} {t:Nat} {ti:TI},lk (qI2 P ids) t=some ti→x4x P t=some ti
 |[],_,_,h=>by simp[qI2,lk]at h
 |k::r,t,ti,h=>by
  simp only[qI2]at h;split at h
  ·rename_i u hu;simp only[lk]at h;split at h
   ·rename_i hk;rw[←q0y.1 hk,hu];exact h
   ·exact qFi h
  ·exact qFi h
theorem qDQ (w:World) (v:Value):PRep w (fun _=>False) (q6L v) v:=by
 unfold q6L;split
 ·exact .int _ _
 ·exact .bool _
 ·exact .str _
 ·exact .nil _
 ·exact .undef _
theorem qMM (w:World) (z:Value):PRep w (fun _=>False) (qDx z) z:=by
 unfold qDx;split
 ·rename_i cs;refine .agg cs (by simp) fun j hj=>?_;have hj':j<cs.size:=by simpa using hj
  have e1:(cs.toList.map q6L).getD j .undef=q6L cs[j]:=by simp[List.getD,hj']
  have e2:cs.getD j Go.undef=cs[j]:=by simp[hj']
  rw[e1,e2];exact qDQ w _
 ·exact qDQ w _
theorem qTA (P:Program) (ids:List Nat):q4K P (qI2 P ids):=by
 have key:∀t ti,lk (qI2 P ids) t=some ti→∃d i z,P.underlying t=some d∧P.info? t=some i∧i.zero=some z∧(qDx z).cells.length=i.size∧z.cells.size=i.size∧q5I d=qG7 z∧
   ti=⟨d,i.size,i.bytes,qDx z,x2S (qDx z),qXd P t d⟩:=by
  intro t ti h;have h:=qFi h;unfold x4x at h;split at h
  ·rename_i d i hd hi;split at h
   ·rename_i z hz;split at h
    ·rename_i hb;simp only[Bool.and_eq_true]at hb;exact⟨d,i,z,hd,hi,hz,q0y.1 hb.1.1,q0y.1 hb.1.2,by simpa using hb.2,(Option.some.inj h).symm⟩
    ·simp at h
   ·simp at h
  ·simp at h
 constructor
 ·intro t ti h;obtain⟨d,i,z,hd,_,_,_,_,_,rfl⟩:=key t ti h;exact hd
 ·intro t ti h hc;obtain⟨d,i,z,hd,_,_,_,_,_,rfl⟩:=key t ti h;simp only[qXd,Bool.and_eq_true,Bool.not_eq_true']at hc;refine⟨hc.1.1,hc.1.2,fun fs hfs f hf=>?_⟩;have h3:=hc.2;simp only[]at hfs;rw[hfs]at h3;have:=List.all_eq_true.1 h3 f hf;simpa using this
 ·intro t ti h;obtain⟨d,i,z,hd,hi,hz,h1,h2,h3,rfl⟩:=key t ti h;refine⟨i,hi,rfl,rfl,z,hz,fun w=>qMM w z,h1,h2,?_⟩;rw[h3];cases z with
  |agg cs=>simp[qG7,qDx]
  |_=>simp only[qG7,qDx,q6L]<;>(try split)<;>simp
structure PLe (v v':V):Prop where
 le:∀(w:World) (A:Nat→Prop) (x:Value),PRep w A v x→PRep w A v' x
theorem PLe.refl (v:V):PLe v v:=⟨fun _ _ _ h=>h⟩
theorem PLe.of_eq {v v':V} (h:v=v'):PLe v v':=h▸PLe.refl v
theorem qXe (g:Nat→V) (t:Nat):PLe .nil (.sl 0 g t):=⟨fun w A x h=>by cases h;exact .sl0 _ _ _ _⟩
structure ELe (v v':V):Prop where
 len:v'.cells.length=v.cells.length
 cell:∀j,j<v.cells.length→PLe (v.cells.getD j .undef) (v'.cells.getD j .undef)
theorem ELe.refl (v:V):ELe v v:=⟨rfl,fun _ _=>PLe.refl _⟩
theorem ELe.of_eq {v v':V} (h:v=v'):ELe v v':=h▸ELe.refl v
theorem qUI {n:Nat} {g g':Nat→V} {t t':Nat} (h:∀i,i<n→ELe (g i) (g' i)):PLe (.sl n g t) (.sl n g' t'):=⟨fun w A x hx=>by
 cases hx with
 |sl0=>exact .sl0 _ _ _ _
 |sl cv hA hcap hsz hc hr=>
  refine .sl cv hA hcap (fun i hi=>by rw[(h i hi).len];exact hsz i hi) hc fun i j hi hj=>((h i hi).cell j (by rw[hsz i hi];exact hj)).le _ _ _ (hr i j hi hj)⟩
theorem VLe.of_eq {v v':V} (h:v=v'):VLe v v':=h▸VLe.refl v
theorem q8D (g:Nat→V) (t:Nat):VLe .nil (.sl 0 g t):=⟨fun w Fr ι x _ _ h=>by
 obtain⟨a,rfl⟩:=qGe h;exact .atom rfl (.sl0 _ _ _ _)⟩
theorem qMf {v v':V} (h:PLe v v') (hp:isP v=true) (hp':isP v'=true) (ht:qUo v'=qUo v∨qUo v'=0):VLe v v':=⟨fun w Fr ι x _ h0 hx=>by
 cases hx with
 |atom _ hr=>
  refine .atom hp' (h.le _ _ _ ?_);rcases ht with ht|ht
  ·rw[ht];exact hr
  ·rw[ht];exact hr.weaken fun b hb=>h0 _ b hb
 |osl=>simp[isP]at hp
 |osl0=>simp[isP]at hp
 |oss=>simp[isP]at hp
 |oss0=>simp[isP]at hp
 |oref=>simp[isP]at hp
 |omap=>simp[isP]at hp
 |agg=>simp[isP]at hp
 |tup=>simp[isP]at hp
 |fn=>simp[isP]at hp
 |cnd=>simp[isP]at hp⟩
theorem q96 {n:Nat} {g g':Nat→V} {t t':Nat} (h:∀i,i<n→ELe (g i) (g' i)) (ht:t'=t∨t'=0):VLe (.sl n g t) (.sl n g' t'):=
 qMf (qUI h) rfl rfl (by simpa[qUo,q2D]using ht)
def qSi:List V→List V→Prop
 |[],[]=>True
 |v::r,v'::r'=>VLe v v'∧qSi r r'
 |_,_=>False
theorem q8o:∀{l l':List V},qSi l l'→l'.length=l.length
 |[],[],_=>rfl
 |_::_,_::_,h=>by simp[q8o h.2]
 |[],_::_,h=>h.elim
 |_::_,[],h=>h.elim
theorem qB5:∀{l l':List V},qSi l l'→∀j,j<l.length→VLe (l.getD j .undef) (l'.getD j .undef)
 |[],[],_,_,hj=>by simp at hj
 |_::_,_::_,h,0,_=>by simpa using h.1
 |_::r,_::r',h,j+1,hj=>by simpa using qB5 h.2 j (by simpa using hj)
 |[],_::_,h,_,_=>h.elim
 |_::_,[],h,_,_=>h.elim
theorem q21 {cs cs':List V} (h:qSi cs cs'):VLe (.agg cs) (.agg cs'):=⟨fun w Fr ι x hS h0 hx=>by
 cases hx with
 |atom hp _=>simp[isP]at hp
 |agg arr hs hr=>
  have hl:=q8o h;exact .agg arr (by omega) fun j hj=>(qB5 h j (by omega)).le _ _ _ _ hS h0 (hr j (by omega))⟩
theorem q5u {cs cs':List V} (h:qSi cs cs'):VLe (.tup cs) (.tup cs'):=⟨fun w Fr ι x hS h0 hx=>by
 cases hx with
 |atom hp _=>simp[isP]at hp
 |tup arr hs hr=>
  have hl:=q8o h;exact .tup arr (by omega) fun j hj=>(qB5 h j (by omega)).le _ _ _ _ hS h0 (hr j (by omega))⟩
theorem qHm {f:Nat} {cs cs':List V} (h:qSi cs cs'):VLe (.fn f cs) (.fn f cs'):=⟨fun w Fr ι x hS h0 hx=>by
 cases hx with
 |atom hp _=>simp[isP]at hp
 |fn arr hs hr=>
  have hl:=q8o h;exact .fn arr (by omega) fun j hj=>(qB5 h j (by omega)).le _ _ _ _ hS h0 (hr j (by omega))⟩
theorem args_of_vles {l l':List V} (h:qSi l l'):q54 l l':=⟨q8o h,qB5 h⟩
structure BLe (b b':Blk):Prop where
 le:∀(w:World) (Fr:Nat→Nat→Prop) (ι:q1K) (bb sz m:Nat),(∀b,¬Fr q0l b)→(∀t b,Fr t b→Fr 0 b)→qAT w Fr ι bb sz m b→qAT w Fr ι bb sz m b'
 nob:(∃sz h te,b=.arr sz 0 h te)→∃sz h te,b'=.arr sz 0 h te
theorem BLe.refl (b:Blk):BLe b b:=⟨fun _ _ _ _ _ _ _ _ h=>h,fun h=>h⟩
theorem q1P {sz n:Nat} {g g':Nat→V} {te te':Nat} (h:∀i,i<n→ELe (g i) (g' i)) (ht:te'=te∨te'=0∨te=q0l∨n=0):BLe (.arr sz n g te) (.arr sz n g' te'):=by
 constructor
 ·rintro w Fr ι bb sz' m hS h0 ⟨h1,h2,cells,e,hh,hsz,hlen,hr⟩;refine⟨h1,h2,cells,e,hh,hsz,fun i hi=>by rw[(h i hi).len];exact hlen i hi,fun i j hi hj=>?_⟩;refine((h i hi).cell j (by rw[hlen i hi];exact hj)).le _ _ _ ?_;have:=hr i j hi hj;rcases ht with ht|ht|ht|ht
  ·rw[ht];exact this
  ·rw[ht];exact this.weaken fun b hb=>h0 _ b hb
  ·rw[ht]at this;exact this.weaken fun b hb=>absurd hb (hS b)
  ·omega
 ·rintro⟨sz',h',te',he⟩;injection he with _ hn
  subst hn;exact⟨_,_,_,rfl⟩
theorem qRr {cs cs':List V} (h:qSi cs cs'):BLe (.box cs) (.box cs'):=by
 constructor
 ·rintro w Fr ι bb sz m hS h0 ⟨cells,e,hh,hsz,hr⟩;have hl:=q8o h;exact⟨cells,e,hh,by omega,fun j hj=>(qB5 h j (by omega)).le _ _ _ _ hS h0 (hr j (by omega))⟩
 ·rintro⟨_,_,_,he⟩;cases he
def TLe:List (Nat×V)→List (Nat×V)→Prop
 |[],[]=>True
 |(t,v)::r,(t',v')::r'=>t=t'∧VLe v v'∧TLe r r'
 |_,_=>False
def xC4:List (Nat×Blk)→List (Nat×Blk)→Prop
 |[],[]=>True
 |(t,v)::r,(t',v')::r'=>t=t'∧BLe v v'∧xC4 r r'
 |_,_=>False
theorem qUm:∀{T T':List (Nat×V)},TLe T T'→∀{t:Nat} {v':V},lk T' t=some v'→∃v,lk T t=some v∧VLe v v'
 |[],[],_,_,_,h=>by simp[lk]at h
 |(k,v)::r,(k',v')::r',hh,t,u,h=>by
  obtain⟨rfl,h1,h2⟩:=hh;simp only[lk]at h⊢;split at h
  ·have:v'=u:=Option.some.inj h;subst this;exact⟨v,rfl,h1⟩
  ·exact qUm h2 h
 |[],_::_,h,_,_,_=>h.elim
 |_::_,[],h,_,_,_=>h.elim
theorem qAj:∀{S S':List (Nat×Blk)},xC4 S S'→∀{t:Nat} {v':Blk},lk S' t=some v'→∃v,lk S t=some v∧BLe v v'
 |[],[],_,_,_,h=>by simp[lk]at h
 |(k,v)::r,(k',v')::r',hh,t,u,h=>by
  obtain⟨rfl,h1,h2⟩:=hh;simp only[lk]at h⊢;split at h
  ·have:v'=u:=Option.some.inj h;subst this;exact⟨v,rfl,h1⟩
  ·exact qAj h2 h
 |[],_::_,h,_,_,_=>h.elim
 |_::_,[],h,_,_,_=>h.elim
theorem q1Q {T T':List (Nat×V)} {S S':List (Nat×Blk)} (hT:TLe T T') (hS:xC4 S S'):SLe ⟨T,S⟩ ⟨T',S'⟩:=⟨fun g a w ι Fr h=>⟨ι,Fr,
 {h with
  tmp:=fun t v ht=>by
   obtain⟨u,hu,hle⟩:=qUm hT ht;exact hle.le _ _ _ _ h.frS h.fr0 (h.tmp t u hu)
  own:=fun id blk b sz m hl hi=>by
   obtain⟨u,hu,hle⟩:=qAj hS hl;obtain⟨h1,h2⟩:=h.own id u b sz m hu hi;exact⟨hle.le _ _ _ _ _ _ h.frS h.fr0 h1,h2⟩
  nob:=fun id blk hl hi=>by
   obtain⟨u,hu,hle⟩:=qAj hS hl;exact hle.nob (h.nob id u hu hi)
  inj:=fun id id' blk blk' r r' h1 h2=>by
   obtain⟨u,hu,_⟩:=qAj hS h1;obtain⟨u',hu',_⟩:=qAj hS h2;exact h.inj id id' u u' r r' hu hu'
  fr:=fun t b hb=>⟨(h.fr t b hb).1,(h.fr t b hb).2.1,fun id blk r hl=>by
   obtain⟨u,hu,_⟩:=qAj hS hl;exact(h.fr t b hb).2.2 id u r hu⟩ }⟩⟩
def qQg (te:Nat):Option Nat:=match Nat.beq te q0l with
 |true=>some q0l
 |false=>match Nat.ble 2 te with
  |true=>some 2
  |false=>none
def q6g (S:List (Nat×Blk)):Nat→List (Nat×Nat)→List V→Option (List V×List Blk×List (Option (Nat×Nat)))
 |_,[],cs=>some (cs,[],[])
 |k,(p,sz)::r,cs=>match cs[p]?,q6g S (k+1) r cs with
  |some (.osl id n),some (out,bl,src)=>match lk S id,Nat.ble 64 id with
   |some (.arr sz' _ g te),true=>match Nat.beq sz' sz,qQg te with
    |true,some t=>some (out.set p (.osl k n),.arr sz n g t::bl,some (id,n)::src)
    |_,_=>none
   |_,_=>none
  |some .nil,some (out,bl,src)=>some (out.set p (.osl k 0),.arr sz 0 (fun _=>.undef) q0l::bl,none::src)
  |_,_=>none
def qJq (te:Nat):Nat:=match Nat.beq te q0l with
 |true=>q0l
 |false=>1
def qEr (S:List (Nat×Blk)):Nat→Option (List Blk)
 |0=>some []
 |m+1=>match qEr S m,lk S m with
  |some l,some (.arr sz n g te)=>some (l++[.arr sz n g (qJq te)])
  |some l,some (.box cs)=>some (l++[.box (cs.map (q4U [] 0 1))])
  |_,_=>none
def q7w:List (Option (Nat×Nat))→List Nat
 |[]=>[]
 |some (id,_)::r=>id::q7w r
 |none::r=>q7w r
def q3A:V→List V
 | .agg l=>l
 |v=>[v]
def q59:V→List V
 | .tup cs=>cs.flatMap q3A
 |v=>v.cells
def q6N:List V→List V→List V
 |[],_=>[]
 | .agg l::r,out=>.agg (out.take l.length)::q6N r (out.drop l.length)
 |_::r,out=>out.headD .undef::q6N r (out.drop 1)
def qTU:V→List V→V
 | .tup cs,out=>.tup (q6N cs out)
 |r,out=>qB6 (qLV r) out
def x18 (S:List (Nat×Blk)) (m:Nat):V→V
 | .osl id n=>match Nat.blt id m with
  |true=>.osl id n
  |false=>q4U S 2 2 (.osl id n)
 | .sl n g t=>match Nat.ble 2 t with
  |true=>.sl n g 2
  |false=>.sl n g 0
 | .ptr cs o t=>match Nat.ble 2 t with
  |true=>.ptr cs o 2
  |false=>.ptr cs o 0
 |v=>q4U S 2 2 v
def qRw (S:List (Nat×Blk)) (m:Nat) (ps:List Nat):Nat→List V→List V→List V
 |i,c::cs,o::os=>(match mem i ps with
  |true=>o
  |false=>x18 S m c)::qRw S m ps (i+1) cs os
 |_,_,_=>[]
def qHs (S:List (Nat×Blk)) (ids:List Nat):List (Nat×Blk):=S.filter fun e=> !(mem e.1 ids)
def q8K (tpl:List (Nat×Nat)) (m:Nat) (S:List (Nat×Blk)) (r:V):Option (V×List Blk):=
 match qEr S m,q6g S m tpl (q59 r)with
 |some hb,some (out,bl,src)=>match qKR (q7w src)with
  |true=>some (qTU r (qRw (qHs S (q7w src)) m (tpl.map fun q=>q.1) 0 (q59 r) out),hb++bl)
  |false=>none
 |_,_=>none
def q1y:List Blk→List Blk→Prop
 |[],[]=>True
 |b::r,b'::r'=>BLe b b'∧q1y r r'
 |_,_=>False
theorem q1y.refl:∀l:List Blk,q1y l l
 |[]=>trivial
 |b::r=>⟨BLe.refl b,q1y.refl r⟩
theorem q1y.len:∀{l l':List Blk},q1y l l'→l'.length=l.length
 |[],[],_=>rfl
 |_::_,_::_,h=>by simp[q1y.len h.2]
 |[],_::_,h=>h.elim
 |_::_,[],h=>h.elim
theorem q1y.at:∀{l l':List Blk},q1y l l'→∀{j:Nat} {b':Blk},l'[j]?=some b'→∃b,l[j]?=some b∧BLe b b'
 |[],[],_,_,_,h=>by simp at h
 |b::r,c::r',h,0,b',hb=>by
  simp at hb;subst hb;exact⟨b,by simp,h.1⟩
 |b::r,c::r',h,j+1,b',hb=>by
  obtain⟨x,hx,hle⟩:=q1y.at h.2 (j:=j) (by simpa using hb);exact⟨x,by simpa using hx,hle⟩
 |[],_::_,h,_,_,_=>h.elim
 |_::_,[],h,_,_,_=>h.elim
@[irreducible] def q3h (cx:Cx) (fn:Func) (tpl:List (Nat×Nat)) (args:List V) (bin:List Blk) (K:V→List Blk→Prop):Prop:=
 match fn.body with
 |some c=>awp cx c (fun e s=>
   match e with
   | .normal=>match qRY cx.tt s fn.results.toList with
    |some r=>match q8K tpl bin.length s.S r with
     |some (r',bs)=>K r' bs
     |none=>False
    |none=>False
   | .ret=>match qRY cx.tt s fn.results.toList with
    |some r=>match q8K tpl bin.length s.S r with
     |some (r',bs)=>K r' bs
     |none=>False
    |none=>False
   |_=>False) ⟨q95 args 0,qCu bin 0⟩
 |none=>False
theorem qGl:∀{l:List Blk} {k t:Nat} {v:Blk},lk (qCu l k) t=some v→∃j,t=k+j∧l[j]?=some v
 |[],_,_,_,h=>by simp[qCu,lk]at h
 |x::r,k,t,v,h=>by
  simp only[qCu,lk]at h;split at h
  ·rename_i hk;refine⟨0,?_,?_⟩
   ·have:=q0y.1 hk;omega
   ·simpa using h
  ·obtain⟨j,hj,hv⟩:=qGl h;exact⟨j+1,by omega,by simpa using hv⟩
def qKh (blk out:Blk):Prop:=(∃sz n g te,blk=.arr sz n g te∧out=.arr sz n g (qJq te))∨∃cs,blk=.box cs∧out=.box (cs.map (q4U [] 0 1))
theorem qHG {S:List (Nat×Blk)}:∀{m:Nat} {l:List Blk},qEr S m=some l→l.length=m∧∀j,j<m→∃blk out,lk S j=some blk∧l[j]?=some out∧qKh blk out
 |0,l,h=>by
  simp only[qEr,Option.some.injEq]at h;subst h;exact⟨rfl,fun j hj=>by omega⟩
 |m+1,l,h=>by
  simp only[qEr]at h;have step:∀(l0:List Blk) (blk out:Blk),qEr S m=some l0→lk S m=some blk→qKh blk out→l=l0++[out]→
    l.length=m+1∧∀j,j<m+1→∃blk out,lk S j=some blk∧l[j]?=some out∧qKh blk out:=by
   intro l0 blk out h0 hl hh e;subst e;obtain⟨h1,h2⟩:=qHG h0;refine⟨by simp[h1],fun j hj=>?_⟩;rcases Nat.lt_or_ge j m with hj'|hj'
   ·obtain⟨b1,o1,q1,q2,q3⟩:=h2 j hj';exact⟨b1,o1,q1,by rw[List.getElem?_append_left (by omega)];exact q2,q3⟩
   ·have:j=m:=by omega
    subst this;exact⟨blk,out,hl,by rw[List.getElem?_append_right (by omega)];simp[h1],hh⟩
  split at h
  ·rename_i l0 sz n g te h0 hl;exact step l0 _ _ h0 hl (.inl ⟨sz,n,g,te,rfl,rfl⟩) (Option.some.inj h).symm
  ·rename_i l0 cs h0 hl;exact step l0 _ _ h0 hl (.inr ⟨cs,rfl,rfl⟩) (Option.some.inj h).symm
  ·simp at h
def x12 (S:List (Nat×Blk)) (src:Option (Nat×Nat)) (b:Blk):Prop:=
 match src with
 |some (id,n)=>∃sz n' g te t,lk S id=some (.arr sz n' g te)∧64≤id∧b=.arr sz n g t∧((te=q0l∧t=q0l)∨(2≤te∧t=2))
 |none=>∃sz,b=.arr sz 0 (fun _=>.undef) q0l
theorem qO6 {te t:Nat} (h:qQg te=some t):(te=q0l∧t=q0l)∨(2≤te∧t=2):=by
 unfold qQg at h;split at h
 ·rename_i h1;exact .inl ⟨q0y.1 h1,(Option.some.inj h).symm⟩
 ·split at h
  ·rename_i h2;exact .inr ⟨Nat.le_of_ble_eq_true h2,(Option.some.inj h).symm⟩
  ·simp at h
def x5B (k:Nat) (q:Option (Nat×Nat)) (c o:V):Prop:=
 match q with
 |some (id,n)=>c=.osl id n∧o=.osl k n
 |none=>c=.nil∧o=.osl k 0
theorem q9f {S:List (Nat×Blk)}:∀{tpl:List (Nat×Nat)} {k:Nat} {cs out:List V} {bl:List Blk} {src:List (Option (Nat×Nat))},q6g S k tpl cs=some (out,bl,src)→
  out.length=cs.length∧bl.length=src.length∧(∀(j:Nat) (b:Blk),bl[j]?=some b→∃q,src[j]?=some q∧x12 S q b)∧
   ∀p,p<cs.length→mem p (tpl.map fun q=>q.1)=false∨∃(j:Nat) (q:Option (Nat×Nat)),src[j]?=some q∧x5B (k+j) q (cs.getD p .undef) (out.getD p .undef)
 |[],k,cs,out,bl,src,h=>by
  simp only[q6g,Option.some.injEq,Prod.mk.injEq]at h;obtain⟨rfl,rfl,rfl⟩:=h;exact⟨rfl,rfl,fun j b hb=>by simp at hb,fun p hp=>.inl rfl⟩
 |(p0,sz)::r,k,cs,out,bl,src,h=>by
  simp only[q6g]at h;have q65:∀(l:List V) (i p:Nat) (x:V),i<l.length→(l.set i x).getD p .undef=if p=i then x else l.getD p .undef:=by
   intro l i p x hi;by_cases e:p=i
   ·subst e;simp[hi]
   ·have:i≠p:=fun e'=>e e'.symm;simp[e,List.getElem?_set_ne this]
  split at h
  ·rename_i id n out1 bl1 src1 hc ho;split at h
   ·rename_i sz' n' g te hl h64;split at h
    ·rename_i t hsz ht;have:=q0y.1 hsz;subst this;simp only[Option.some.injEq,Prod.mk.injEq]at h;obtain⟨rfl,rfl,rfl⟩:=h;obtain⟨h1,h2,h3,h4⟩:=q9f ho;have hp0:p0<cs.length:=(List.getElem?_eq_some_iff.1 hc).1;refine⟨by simpa using h1,by simp[h2],fun j b hb=>?_,fun p hp=>?_⟩
     ·cases j with
      |zero=>
       simp at hb;subst hb;exact⟨some (id,n),by simp,sz',n',g,te,t,hl,Nat.le_of_ble_eq_true h64,rfl,qO6 ht⟩
      |succ j=>
       obtain⟨q,hq,ho⟩:=h3 j b (by simpa using hb);exact⟨q,by simpa using hq,ho⟩
     ·rw[q65 _ _ _ _ (by omega)];by_cases e:p=p0
      ·subst e;right;exact⟨0,some (id,n),by simp,by simp[List.getD,hc],by simp⟩
      ·rw[if_neg e];rcases h4 p hp with h5|⟨j,q,hq,h6⟩
       ·exact .inl (by simp only[List.map_cons,mem,q1N.2 (fun e2=>e e2.symm:p0≠p),Bool.false_or];exact h5)
       ·refine .inr ⟨j+1,q,by simpa using hq,?_⟩;rw[show k+(j+1)=k+1+j by omega];exact h6
    ·simp at h
   ·simp at h
  ·rename_i out1 bl1 src1 hc ho;simp only[Option.some.injEq,Prod.mk.injEq]at h;obtain⟨rfl,rfl,rfl⟩:=h;obtain⟨h1,h2,h3,h4⟩:=q9f ho;have hp0:p0<cs.length:=(List.getElem?_eq_some_iff.1 hc).1;refine⟨by simpa using h1,by simp[h2],fun j b hb=>?_,fun p hp=>?_⟩
   ·cases j with
    |zero=>
     simp at hb;subst hb;exact⟨none,by simp,sz,rfl⟩
    |succ j=>
     obtain⟨q,hq,ho⟩:=h3 j b (by simpa using hb);exact⟨q,by simpa using hq,ho⟩
   ·rw[q65 _ _ _ _ (by omega)];by_cases e:p=p0
    ·subst e;right;exact⟨0,none,by simp,by simp[List.getD,hc],by simp⟩
    ·rw[if_neg e];rcases h4 p hp with h5|⟨j,q,hq,h6⟩
     ·exact .inl (by simp only[List.map_cons,mem,q1N.2 (fun e2=>e e2.symm:p0≠p),Bool.false_or];exact h5)
     ·refine .inr ⟨j+1,q,by simpa using hq,?_⟩;rw[show k+(j+1)=k+1+j by omega];exact h6
  ·simp at h
theorem qOw {S:List (Nat×Blk)} {m:Nat} {ps:List Nat}:∀{i:Nat} {cs out:List V},out.length=cs.length→(qRw S m ps i cs out).length=cs.length∧
  ∀p,p<cs.length→(qRw S m ps i cs out).getD p .undef=match mem (i+p) ps with
   |true=>out.getD p .undef
   |false=>x18 S m (cs.getD p .undef)
 |i,[],out,h=>by cases out<;>simp[qRw]
 |i,c::cs,[],h=>by simp at h
 |i,c::cs,o::os,h=>by
  obtain⟨h1,h2⟩:=qOw (S:=S) (m:=m) (ps:=ps) (i:=i+1) (cs:=cs) (out:=os) (by simpa using h);refine⟨by simp[qRw,h1],fun p hp=>?_⟩;cases p with
  |zero=>simp only[qRw,List.getD_cons_zero,Nat.add_zero]
  |succ p=>
   simp only[qRw,List.getD_cons_succ];rw[h2 p (by simpa using hp),show i+(p+1)=i+1+p by omega]
theorem qLE {S:List (Nat×Blk)} {ids:List Nat} {k:Nat} {b:Blk} (h:lk (qHs S ids) k=some b):lk S k=some b∧mem k ids=false:=by
 unfold qHs at h;rw[q9t (fun k=> !(mem k ids))]at h;cases hm:mem k ids with
 |true=>rw[hm]at h;simp at h
 |false=>rw[hm]at h;exact⟨by simpa using h,rfl⟩
theorem q6j {S:List (Nat×Blk)}:∀{tpl:List (Nat×Nat)} {k:Nat} {cs out:List V} {bl:List Blk} {src:List (Option (Nat×Nat))},q6g S k tpl cs=some (out,bl,src)→
  ∀{j id n:Nat},src[j]?=some (some (id,n))→∃p,p<cs.length∧cs.getD p .undef=.osl id n
 |[],k,cs,out,bl,src,h,j,id,n,hj=>by
  simp only[q6g,Option.some.injEq,Prod.mk.injEq]at h;obtain⟨rfl,rfl,rfl⟩:=h;simp at hj
 |(p0,sz)::r,k,cs,out,bl,src,h,j,id,n,hj=>by
  simp only[q6g]at h;split at h
  ·rename_i id1 n1 out1 bl1 src1 hc ho;split at h
   ·split at h
    ·simp only[Option.some.injEq,Prod.mk.injEq]at h;obtain⟨rfl,rfl,rfl⟩:=h;cases j with
     |zero=>
      simp at hj;obtain⟨rfl,rfl⟩:=hj;exact⟨p0,(List.getElem?_eq_some_iff.1 hc).1,by simp[List.getD,hc]⟩
     |succ j=>exact q6j ho (j:=j) (by simpa using hj)
    ·simp at h
   ·simp at h
  ·rename_i out1 bl1 src1 hc ho;simp only[Option.some.injEq,Prod.mk.injEq]at h;obtain⟨rfl,rfl,rfl⟩:=h;cases j with
   |zero=>simp at hj
   |succ j=>exact q6j ho (j:=j) (by simpa using hj)
  ·simp at h
theorem q8k:∀{src:List (Option (Nat×Nat))} {j id n:Nat},src[j]?=some (some (id,n))→id∈q7w src
 |[],j,_,_,h=>by simp at h
 |q::r,0,id,n,h=>by
  simp at h;subst h;exact List.mem_cons_self ..
 |q::r,j+1,id,n,h=>by
  have:=q8k (src:=r) (j:=j) (by simpa using h);cases q with
  |none=>exact this
  |some p=>exact List.mem_cons_of_mem _ this
theorem qBN:∀{src:List (Option (Nat×Nat))},qKR (q7w src)=true→∀{j j' id n n':Nat},src[j]?=some (some (id,n))→src[j']?=some (some (id,n'))→j=j'
 |[],_,j,_,_,_,_,h,_=>by simp at h
 |none::r,hn,j,j',id,n,n',h,h'=>by
  cases j with
  |zero=>simp at h
  |succ j=>cases j' with
   |zero=>simp at h'
   |succ j'=>rw[qBN (src:=r) hn (j:=j) (j':=j') (by simpa using h) (by simpa using h')]
 |some (a,b)::r,hn,j,j',id,n,n',h,h'=>by
  simp only[q7w,qKR,Bool.and_eq_true,Bool.not_eq_true']at hn;have hna:=qAJ.1 hn.1;cases j with
  |zero=>
   cases j' with
   |zero=>rfl
   |succ j'=>
    simp at h;obtain⟨rfl,rfl⟩:=h;exact absurd (q8k (src:=r) (j:=j') (by simpa using h')) hna
  |succ j=>
   cases j' with
   |zero=>
    simp at h';obtain⟨rfl,rfl⟩:=h';exact absurd (q8k (src:=r) (j:=j) (by simpa using h)) hna
   |succ j'=>rw[qBN (src:=r) hn.2 (j:=j) (j':=j') (by simpa using h) (by simpa using h')]
def qRz (ι:q1K) (m:Nat) (src:List (Option (Nat×Nat))):q1K:=fun k=>
 match Nat.blt k m with
 |true=>ι k
 |false=>match src[k-m]? with
  |some (some (id,n))=>(ι id).map fun q=>(q.1,q.2.1,n)
  |_=>none
theorem qBF {ι:q1K} {m k:Nat} {src:List (Option (Nat×Nat))} (h:k<m):qRz ι m src k=ι k:=by
 unfold qRz;rw[show Nat.blt k m=true from Nat.ble_eq_true_of_le h]
theorem qB4 {ι:q1K} {m j:Nat} {src:List (Option (Nat×Nat))}:qRz ι m src (m+j)=match src[j]? with
  |some (some (id,n))=>(ι id).map fun q=>(q.1,q.2.1,n)
  |_=>none:=by
 unfold qRz;have:Nat.blt (m+j) m=false:=by
  cases hb:Nat.blt (m+j) m with
  |false=>rfl
  |true=>have:=Nat.le_of_ble_eq_true hb;omega
 rw[this,Nat.add_sub_cancel_left]
theorem qE4 {w:World} {Fr:Nat→Nat→Prop} {ι:q1K}:∀{cs:List V} {f:Nat→Value},(∀j,j<cs.length→q0e w Fr ι (cs.getD j .undef) (f j))→∀p,p<(cs.flatMap q3A).length→∃y,q0e w Fr ι ((cs.flatMap q3A).getD p .undef) y
 |[],f,h,p,hp=>by simp at hp
 |c::r,f,h,p,hp=>by
  rw[List.flatMap_cons]at hp⊢;rcases Nat.lt_or_ge p (q3A c).length with hlt|hge
  ·have e:(q3A c++r.flatMap q3A).getD p .undef=(q3A c).getD p .undef:=by simp[List.getD,List.getElem?_append_left hlt]
   rw[e];have h0:q0e w Fr ι c (f 0):=by simpa using h 0 (by simp)
   generalize f 0=v0 at h0;by_cases hag:∃l,c=.agg l
   ·obtain⟨l,rfl⟩:=hag;cases h0 with
    |atom hv _=>simp[isP]at hv
    |agg arr hs hrr=>exact⟨_,hrr p hlt⟩
   ·have e2:q3A c=[c]:=by cases c<;>first|rfl|exact absurd ⟨_,rfl⟩ hag
    rw[e2]at hlt⊢;have:p=0:=by simpa using hlt
    subst this;exact⟨_,by simpa using h0⟩
  ·have e:(q3A c++r.flatMap q3A).getD p .undef=(r.flatMap q3A).getD (p-(q3A c).length) .undef:=by simp[List.getD,List.getElem?_append_right hge]
   rw[e];exact qE4 (f:=fun j=>f (j+1)) (fun j hj=>by simpa using h (j+1) (by simpa using hj)) _ (by rw[List.length_append]at hp;omega)
theorem qHN {w:World} {Fr:Nat→Nat→Prop} {ι:q1K} {r:V} {x:Value} (hr:q0e w Fr ι r x) (p:Nat) (hp:p<(q59 r).length):∃y,q0e w Fr ι ((q59 r).getD p .undef) y:=by
 have one:q59 r=[r]→∃y,q0e w Fr ι ((q59 r).getD p .undef) y:=fun e=>by
  rw[e]at hp⊢;have h0:p=0:=by simpa using hp
  subst h0;exact⟨x,by simpa using hr⟩
 by_cases hag:∃cs,r=.agg cs
 ·obtain⟨cs,rfl⟩:=hag;cases hr with
  |atom hv _=>simp[isP]at hv
  |agg arr hs hrr=>exact⟨_,hrr p hp⟩
 by_cases htu:∃cs,r=.tup cs
 ·obtain⟨cs,rfl⟩:=htu;cases hr with
  |atom hv _=>simp[isP]at hv
  |tup arr hs hrr=>exact qE4 (f:=fun j=>arr.getD j Go.undef) hrr p hp
 ·refine one ?_;cases r<;>first|rfl|exact absurd ⟨_,rfl⟩ hag|exact absurd ⟨_,rfl⟩ htu
theorem q9M:∀(cs out:List V),(q6N cs out).length=cs.length
 |[],_=>rfl
 |c::r,out=>by cases c<;>simp[q6N,q9M r]
theorem qDf {w:World} {Fr Fr':Nat→Nat→Prop} {ι ι':q1K}:∀{cs out:List V},out.length=(cs.flatMap q3A).length→
  (∀p,p<(cs.flatMap q3A).length→∀y,q0e w Fr ι ((cs.flatMap q3A).getD p .undef) y→q0e w Fr' ι' (out.getD p .undef) y)→
  ∀j,j<cs.length→∀y,q0e w Fr ι (cs.getD j .undef) y→q0e w Fr' ι' ((q6N cs out).getD j .undef) y
 |[],out,hl,hc,j,hj,y,hy=>by simp at hj
 |c::r,out,hl,hc,j,hj,y,hy=>by
  rw[List.flatMap_cons]at hl hc;rw[List.length_append]at hl hc;have rest:∀k,k=(q3A c).length→∀j,j<r.length→∀y,q0e w Fr ι (r.getD j .undef) y→q0e w Fr' ι' ((q6N r (out.drop k)).getD j .undef) y:=by
   intro k hk;subst hk;refine qDf (by rw[List.length_drop];omega) fun p hp y hy=>?_;have e1:(out.drop (q3A c).length).getD p .undef=out.getD ((q3A c).length+p) .undef:=by simp[List.getD,List.getElem?_drop]
   rw[e1];refine hc _ (by omega) y ?_;have e2:(q3A c++r.flatMap q3A).getD ((q3A c).length+p) .undef=(r.flatMap q3A).getD p .undef:=by simp[List.getD,List.getElem?_append_right]
   rw[e2];exact hy
  have here:∀p,p<(q3A c).length→∀y,q0e w Fr ι ((q3A c).getD p .undef) y→q0e w Fr' ι' (out.getD p .undef) y:=by
   intro p hp y hy;refine hc p (by omega) y ?_;have e:(q3A c++r.flatMap q3A).getD p .undef=(q3A c).getD p .undef:=by simp[List.getD,List.getElem?_append_left hp]
   rw[e];exact hy
  by_cases hag:∃l,c=.agg l
  ·obtain⟨l,rfl⟩:=hag;cases j with
   |zero=>
    simp only[q6N,List.getD_cons_zero]at hy⊢;cases hy with
    |atom hv _=>simp[isP]at hv
    |agg arr hs hrr=>
     have hll:(q3A (.agg l)).length=l.length:=rfl;refine .agg arr (by rw[List.length_take];omega) fun i hi=>?_;rw[List.length_take]at hi;have e:(out.take l.length).getD i .undef=out.getD i .undef:=by
      have:i<l.length:=by omega
      simp[List.getD,List.getElem?_take,this]
     rw[e];exact here i (by omega) _ (hrr i (by omega))
   |succ j=>
    simp only[q6N,List.getD_cons_succ]at hy⊢;exact rest l.length rfl j (by simpa using hj) y hy
  ·have e2:q3A c=[c]:=by cases c<;>first|rfl|exact absurd ⟨_,rfl⟩ hag
   have e3:q6N (c::r) out=out.headD .undef::q6N r (out.drop 1):=by cases c<;>first|rfl|exact absurd ⟨_,rfl⟩ hag
   rw[e3];cases j with
   |zero=>
    simp only[List.getD_cons_zero]at hy⊢;have:=here 0 (by rw[e2];simp) y (by rw[e2];simpa using hy);cases out with
    |nil=>simpa using this
    |cons o os=>simpa using this
   |succ j=>
    simp only[List.getD_cons_succ]at hy⊢;exact rest 1 (by rw[e2];rfl) j (by simpa using hj) y hy
theorem qOF {w:World} {Fr Fr':Nat→Nat→Prop} {ι ι':q1K} {r:V} {x:Value} {out:List V} (hr:q0e w Fr ι r x) (hl:out.length=(q59 r).length)
  (hc:∀p,p<(q59 r).length→∀y,q0e w Fr ι ((q59 r).getD p .undef) y→q0e w Fr' ι' (out.getD p .undef) y):q0e w Fr' ι' (qTU r out) x:=by
 by_cases hag:∃cs,r=.agg cs
 ·obtain⟨cs,rfl⟩:=hag;cases hr with
  |atom hv _=>simp[isP]at hv
  |agg arr hs hrr=>
   refine .agg arr (by rw[hl];exact hs) fun j hj=>?_;rw[hl]at hj;exact hc j hj _ (hrr j hj)
 by_cases htu:∃cs,r=.tup cs
 ·obtain⟨cs,rfl⟩:=htu;cases hr with
  |atom hv _=>simp[isP]at hv
  |tup arr hs hrr=>
   refine .tup arr (by rw[q9M];exact hs) fun j hj=>?_;rw[q9M]at hj;exact qDf hl hc j hj _ (hrr j hj)
 ·have h2:q59 r=[r]:=by
   cases r<;>first|rfl|exact absurd ⟨_,rfl⟩ hag|exact absurd ⟨_,rfl⟩ htu
  have h1:qTU r out=out.headD .undef:=by
   cases r<;>first|rfl|exact absurd ⟨_,rfl⟩ hag|exact absurd ⟨_,rfl⟩ htu
  have h3:=hc 0 (by rw[h2];simp) x (by rw[h2];simpa using hr);rw[h1];have h4:out.length=1:=by rw[hl,h2];rfl
  match out,h4 with
  |[c],_=>simpa using h3
section
variable {g:G} {s:AS} {a:Act} {w:World} {ι:q1K} {Fr:Nat→Nat→Prop} (h:Rel g s a w ι Fr)
include h
theorem qDY {tpl:List (Nat×Nat)} {m:Nat} {r r':V} {bs:List Blk} {x:Value} (hm:m<64) (he:q8K tpl m s.S r=some (r',bs)) (hr:q0e w Fr ι r x):
  ∃ι' Fr',q0e w Fr' ι' r' x∧Ext g.w0 w g.X0 g.io g.New g.ι0 m bs ι' Fr':=by
 unfold q8K at he;split at he
 case h_2=>simp at he
 case h_1 hb out bl src hh hc=>
  split at he
  case h_2=>simp at he
  case h_1 hn=>
   simp only[Option.some.injEq,Prod.mk.injEq]at he;obtain⟨rfl,rfl⟩:=he;obtain⟨hbl,hbat⟩:=qHG hh;obtain⟨c1,c2,c3,c4⟩:=q9f hc;have hnx:∀b,g.New b→¬g.X0 b:=fun b hb=>h.newX hb;have hat:∀k blk,(hb++bl)[k]?=some blk→(k<m∧∃blk0,lk s.S k=some blk0∧qKh blk0 blk)∨(∃j q,k=m+j∧src[j]?=some q∧x12 s.S q blk):=by
    intro k blk hk;rcases Nat.lt_or_ge k m with hlt|hge
    ·obtain⟨blk0,out,h1,h2,h3⟩:=hbat k hlt;rw[List.getElem?_append_left (by omega),h2]at hk;have:=Option.some.inj hk;subst this;exact .inl ⟨hlt,blk0,h1,h3⟩
    ·rw[List.getElem?_append_right (by omega)]at hk;obtain⟨q,hq,ho⟩:=c3 _ blk hk;exact .inr ⟨k-hb.length,q,by omega,hq,ho⟩
   let Out:Nat→Prop:=fun b=>∃k blk q,(hb++bl)[k]?=some blk∧qRz ι m src k=some q∧q.1=b
   let Fr':Nat→Nat→Prop:=fun t b=>qMd g.New w g.X0 t b∧¬Out b
   have hown:∀k blk q,(hb++bl)[k]?=some blk→qRz ι m src k=some q→∃id blk0 q0,lk s.S id=some blk0∧ι id=some q0∧q0.1=q.1∧
     ((k<m∧id=k)∨(64≤id∧∃j n,k=m+j∧src[j]?=some (some (id,n)))):=by
    intro k blk q hk hq;rcases hat k blk hk with⟨hlt,blk0,hl,hh⟩|⟨j,p,rfl,hp,ho⟩
    ·rw[qBF hlt]at hq;exact⟨k,_,q,hl,hq,rfl,.inl ⟨hlt,rfl⟩⟩
    ·rw[qB4,hp]at hq;cases p with
     |none=>simp at hq
     |some p=>
      obtain⟨id,n⟩:=p;obtain⟨sz,n',f,te,t,hl,h64,_,_⟩:=ho;simp only[Option.map_eq_some_iff]at hq;obtain⟨q0,hq0,rfl⟩:=hq;exact⟨id,_,q0,hl,hq0,rfl,.inr ⟨h64,j,n,rfl,hp⟩⟩
   have hFr:∀t b,Fr t b→2≤t→Fr' 2 b:=by
    intro t b hf h2;refine⟨⟨by decide,(h.fr t b hf).1,(h.fr t b hf).2.1,fun _=>⟨h.fr2 t b h2 hf,h.cl t b h2 hf⟩⟩,?_⟩;rintro⟨k,blk,q,hk,hq,rfl⟩;obtain⟨id,blk0,q0,hl,hi,e,_⟩:=hown k blk q hk hq;exact(h.fr t _ hf).2.2 id blk0 q0 hl hi e
   have hF1:∀t b,Fr t b→Fr' 1 b:=by
    intro t b hf;refine⟨⟨by decide,(h.fr t b hf).1,(h.fr t b hf).2.1,fun h2=>by omega⟩,?_⟩;rintro⟨k,blk,q,hk,hq,rfl⟩;obtain⟨id,blk0,q0,hl,hi,e,_⟩:=hown k blk q hk hq;exact(h.fr t _ hf).2.2 id blk0 q0 hl hi e
   have hF0:∀t b,Fr t b→Fr' 0 b:=by
    intro t b hf;refine⟨⟨by decide,(h.fr t b hf).1,(h.fr t b hf).2.1,fun h2=>by omega⟩,?_⟩;rintro⟨k,blk,q,hk,hq,rfl⟩;obtain⟨id,blk0,q0,hl,hi,e,_⟩:=hown k blk q hk hq;exact(h.fr t _ hf).2.2 id blk0 q0 hl hi e
   have h':Rel g { s with S:=[] } a w ι Fr:=h.less (fun _ _ q=>q) (fun k b q=>by simp[lk]at q);obtain⟨f1,f2⟩:=qOw (S:=qHs s.S (q7w src)) (m:=m) (ps:=tpl.map fun q=>q.1) (i:=0) c1;have hR:Rel g { s with S:=qHs s.S (q7w src) } a w ι Fr:=h.less (fun _ _ q=>q) (fun k b q=>(qLE q).1);have hcell:∀p,p<(q59 r).length→∀y,q0e w Fr ι ((q59 r).getD p .undef) y→q0e w Fr' (qRz ι m src) ((qRw (qHs s.S (q7w src)) m (tpl.map fun q=>q.1) 0 (q59 r) out).getD p .undef) y:=by
    intro p hp y hy;rw[f2 p hp,Nat.zero_add];cases hmp:mem p (tpl.map fun q=>q.1)with
    |false=>
     simp only[];have hfz:∀v,q0e w Fr ι v y→q0e w Fr' (qRz ι m src) (q4U (qHs s.S (q7w src)) 2 2 v) y:=by
      intro v hy;refine q79 hR (A:=fun b=>Fr' 2 b) (fun t b h2 hf=>hFr t b hf h2) (fun id blk q h64 hl hi hcc=>?_) (fun b hb=>hb) hy;obtain⟨b,sz,nn⟩:=q;obtain⟨hl',hns⟩:=qLE hl;obtain⟨h1,h2⟩:=h.own id blk b sz nn hl' hi;have hb:g.New b:=by
       rcases h2 with h2|h2
       ·exact h2
       ·omega
      refine⟨⟨by decide,h1.lt,hnx b hb,fun _=>⟨hb,h1.cl hcc⟩⟩,?_⟩;rintro⟨k,blk2,q2,hk2,hq2,e2⟩;obtain⟨id2,blk3,q3,hl3,hi3,e3,ho3⟩:=hown k blk2 q2 hk2 hq2;have hid:=h.inj id id2 blk blk3 _ q3 hl' hl3 hi hi3 (by rw[e3,e2]);subst hid;rcases ho3 with⟨hlt,rfl⟩|⟨_,j,n,_,hj⟩
      ·omega
      ·have:=q8k hj;rw[q6K.2 this]at hns;cases hns
     generalize (q59 r).getD p .undef=v at hy;cases v with
     |osl id n=>
      simp only[x18];split
      ·rename_i hlt;have hlt':id<m:=Nat.le_of_ble_eq_true hlt;cases hy with
       |atom hv _=>simp[isP]at hv
       |osl hi hn' hcap hsh hcs=>exact .osl (by rw[qBF hlt'];exact hi) hn' hcap hsh hcs
       |osl0 ad hi=>exact .osl0 ad (by rw[qBF hlt'];exact hi)
      ·exact hfz _ hy
     |sl n g t=>
      simp only[x18];split
      ·rename_i h2;have:=hfz _ hy;simp only[q4U,h2]at this;exact this
      ·cases hy with
       |atom hv hp=>
        cases hp with
        |sl0=>exact .atom rfl (.sl0 _ _ _ _)
        |sl cv hA hcap hsz hc hr=>exact .atom rfl ((PRep.sl (t:=0) cv hA hcap hsz hc hr).weaken fun b hb=>hF0 _ b hb)
     |ptr cs o t=>
      simp only[x18];split
      ·rename_i h2;have:=hfz _ hy;simp only[q4U,h2]at this;exact this
      ·cases hy with
       |atom hv hp=>
        cases hp with
        |ptr cv hA hc hr=>exact .atom rfl ((PRep.ptr (t:=0) cv hA hc hr).weaken fun b hb=>hF0 _ b hb)
     |_=>exact hfz _ hy
    |true=>
    simp only[];rcases c4 p hp with h5|⟨j,q,hq,h6⟩
    ·rw[hmp]at h5;cases h5
    ·cases q with
     |none=>
      obtain⟨h7,h8⟩:=h6;rw[h7]at hy;rw[h8];obtain⟨ad,rfl⟩:=qGe hy;exact .osl0 ad (by rw[qB4,hq])
     |some q=>
      obtain⟨id,n⟩:=q;obtain⟨h7,h8⟩:=h6;rw[h7]at hy;rw[h8];cases hy with
      |atom hv _=>simp[isP]at hv
      |osl hi hn' hcap hsh hcs=>exact .osl (by rw[qB4,hq];simp only[];rw[hi];rfl) (Nat.le_refl _) hcap hsh hcs
      |osl0 ad hi=>exact .osl0 ad (by rw[qB4,hq];simp only[];rw[hi];rfl)
   have hrep:q0e w Fr' (qRz ι m src) (qTU r (qRw (qHs s.S (q7w src)) m (tpl.map fun q=>q.1) 0 (q59 r) out)) x:=qOF hr f1 hcell;refine⟨qRz ι m src,Fr',hrep,?_⟩;have hS:∀b,¬Fr' q0l b:=fun b hb=>hb.1.1 rfl;exact
    {own:=fun k blk b sz n hk hi=>by
      rcases hat k blk hk with⟨hlt,blk0,hl,hh⟩|⟨j,p,rfl,hp,ho⟩
      ·rw[qBF hlt]at hi;obtain⟨h1,h2⟩:=h.own k _ b sz n hl hi;refine⟨?_,h2.imp id fun h2=>⟨h2.1,hlt⟩⟩;rcases hh with⟨sz1,n1,f,te,rfl,rfl⟩|⟨cs,rfl,rfl⟩
       ·obtain⟨e1,e2,cells,e,q1,q2,q3,q4⟩:=h1;refine⟨e1,e2,cells,e,q1,q2,q3,fun i j hi hj=>(q4 i j hi hj).weaken fun b hb=>?_⟩;unfold qJq;split
        ·rename_i ht;rw[q0y.1 ht]at hb;exact absurd hb (h.frS b)
        ·exact hF1 te b hb
       ·obtain⟨cells,e,hh,hsz,hr⟩:=h1;refine⟨cells,e,hh,by simpa using hsz,fun j hj=>?_⟩;have hj':j<cs.length:=by simpa using hj
        have e1:(cs.map (q4U [] 0 1)).getD j .undef=q4U [] 0 1 (cs.getD j .undef):=by simp[List.getD,hj']
        rw[e1];exact q79 (s:={ s with S:=[] }) (lim:=0) h' (A:=fun b=>Fr' 1 b) (fun t b _ hf=>hF1 t b hf) (fun id blk r _ q=>by simp[lk]at q) (fun b hb=>hb) (hr j hj')
      ·rw[qB4,hp]at hi;cases p with
       |none=>simp at hi
       |some p=>
        obtain⟨id,nn⟩:=p;obtain⟨sz1,n1,f,te,t,hl,h64,rfl,htag⟩:=ho;simp only[Option.map_eq_some_iff]at hi;obtain⟨⟨b0,sz0,m0⟩,hq0,e⟩:=hi;simp only[Prod.mk.injEq]at e;obtain⟨rfl,rfl,rfl⟩:=e;obtain⟨h1,h2⟩:=h.own id _ b0 sz0 m0 hl hq0;obtain⟨rfl,rfl,cells,e,q1,q2,q3,q4⟩:=h1;have hb0:g.New b0:=by
         rcases h2 with h2|⟨_,h2⟩
         ·exact h2
         ·omega
        have hle:nn≤n1:=by
         obtain⟨p,hp1,hp2⟩:∃p,p<(q59 r).length∧(q59 r).getD p .undef=.osl id nn:=q6j hc hp;have:∃y,q0e w Fr ι (.osl id nn) y:=by
          have:=qHN hr p hp1
          rwa [hp2]at this
         obtain⟨y,hy⟩:=this;cases hy with
         |atom hv _=>simp[isP]at hv
         |osl hi hn' hcap hsh hcs=>
          rw[hq0]at hi;simp only[Option.some.injEq,Prod.mk.injEq]at hi;obtain⟨_,_,rfl⟩:=hi;exact hn'
         |osl0 ad hi=>exact Nat.zero_le _
        refine⟨⟨rfl,rfl,cells,e,q1,?_,fun i hi=>q3 i (by omega),fun i j hi hj=>?_⟩,.inl hb0⟩
        ·have:=Nat.mul_le_mul_right sz1 hle;omega
        ·have h9:=q4 i j (by omega) hj;rcases htag with⟨rfl,rfl⟩|⟨h2t,rfl⟩
         ·exact h9.weaken fun b hb=>absurd hb (h.frS b)
         ·exact h9.weaken fun b hb=>hFr te b hb h2t
     nob:=fun k blk hk hi=>by
      rcases hat k blk hk with⟨hlt,blk0,hl,hh⟩|⟨j,p,rfl,hp,ho⟩
      ·rw[qBF hlt]at hi;obtain⟨sz,f,te,e⟩:=h.nob k _ hl hi;rcases hh with⟨sz1,n1,f1,te1,rfl,rfl⟩|⟨cs,rfl,rfl⟩
       ·simp only[Blk.arr.injEq]at e;obtain⟨rfl,rfl,rfl,rfl⟩:=e;exact⟨_,_,_,rfl⟩
       ·cases e
      ·cases p with
       |none=>
        obtain⟨sz,rfl⟩:=ho;exact⟨_,_,_,rfl⟩
       |some p=>
        obtain⟨id,nn⟩:=p;obtain⟨sz1,n1,f,te,t,hl,h64,rfl,htag⟩:=ho;rw[qB4,hp]at hi;simp only[Option.map_eq_none_iff]at hi;obtain⟨p,hp1,hp2⟩:∃p,p<(q59 r).length∧(q59 r).getD p .undef=.osl id nn:=q6j hc hp;have:∃y,q0e w Fr ι (.osl id nn) y:=by
         have:=qHN hr p hp1
         rwa [hp2]at this
        obtain⟨y,hy⟩:=this;cases hy with
        |atom hv _=>simp[isP]at hv
        |osl hi'=>rw[hi]at hi';cases hi'
        |osl0 ad hi'=>exact⟨_,_,_,rfl⟩
     inj:=fun k k' blk blk' q q' h1 h2 h3 h4 h5=>by
      obtain⟨id,b0,q0,hl,hi,e,ho⟩:=hown k blk q h1 h3;obtain⟨id',b0',q0',hl',hi',e',ho'⟩:=hown k' blk' q' h2 h4;have hid:=h.inj id id' b0 b0' q0 q0' hl hl' hi hi' (by rw[e,e',h5]);subst hid;rcases ho with⟨_,rfl⟩|⟨h64,j,n,rfl,hj⟩<;>rcases ho' with⟨hlt',e1⟩|⟨h64',j',n',rfl,hj'⟩
      ·exact e1
      ·omega
      ·omega
      ·rw[qBN hn hj hj']
     fr:=fun t b hb'=>⟨hb'.1.2.1,hb'.1.2.2.1,fun k blk q hk hq e=>hb'.2 ⟨k,blk,q,hk,hq,e⟩⟩
     frS:=hS
     fr0:=fun t b hb'=>⟨⟨by decide,hb'.1.2.1,hb'.1.2.2.1,fun h2=>by omega⟩,hb'.2⟩
     fr2:=fun t b h2 hb'=>(hb'.1.2.2.2 h2).1
     cl:=fun t b h2 hb'=>(hb'.1.2.2.2 h2).2
     same:=fun k hk=>by rw[qBF hk];exact h.low k (by omega)
     os:=h.os,tape:=h.tape,output:=h.output,hsize:=h.hsize,frame:=h.frame,shape:=h.shape }
end
theorem qHz {w w':World} {X0 io N N':Nat→Prop} {ι ι':q1K} {m:Nat} {bs bout:List Blk} {Fr:Nat→Nat→Prop} (h:Ext w w' X0 io N ι m bs ι' Fr) (hYtognmcollmdbpaaGreatDoor:∀b,N b→N' b) (hle:q1y bs bout):Ext w w' X0 io N' ι m bout ι' Fr:=
 {h with
  own:=fun id blk b sz k hk hi=>by
   obtain⟨c,hc,hl⟩:=hle.at hk;obtain⟨h1,h2⟩:=h.own id c b sz k hc hi;exact⟨hl.le _ _ _ _ _ _ h.frS h.fr0 h1,h2.imp (hYtognmcollmdbpaaGreatDoor b) fun q=>q⟩
  fr2:=fun t b h2 hf=>hYtognmcollmdbpaaGreatDoor b (h.fr2 t b h2 hf)
  nob:=fun id blk hk hi=>by
   obtain⟨c,hc,hl⟩:=hle.at hk;exact hl.nob (h.nob id c hc hi)
  inj:=fun id id' blk blk' r r' h1 h2=>by
   obtain⟨c,hc,_⟩:=hle.at h1;obtain⟨c',hc',_⟩:=hle.at h2;exact h.inj id id' c c' r r' hc hc'
  fr:=fun t b hb=>⟨(h.fr t b hb).1,(h.fr t b hb).2.1,fun id blk r hk=>by
   obtain⟨c,hc,_⟩:=hle.at hk;exact(h.fr t b hb).2.2 id c r hc⟩ }
theorem q0S {P:Program} (hm:P.follows .mixedOrders=true) {f:Nat} {fn:Func} {c:Code} {D:q0P} {tpl:List (Nat×Nat)}
  (hf:P.funcs[f]?=some fn) (hb:fn.body=some c) (hn:(fn.name=="runtime.NumGoroutine")=false)
  (hbody:∀args bin ob r bout,D args bin=some (ob,r,bout)→ob→args.length≤fn.ntmps∧
   ∃cx:Cx,q4K P cx.tt∧q0C P cx.D∧q4c P cx.M∧cx.nt=fn.ntmps∧∃args' bin',q54 args args'∧q1y bin bin'∧q3h cx fn tpl args' bin' (fun r' bs=>VLe r' r∧q1y bs bout)):q0R P f D:=by
 refine⟨?_⟩;intro args bin ob r bout hDe hob vals w X0 io ι Fr hE hsize hvals;refine .inl ⟨qD8 hf hb hn _ _,?_⟩;obtain⟨hlen,cx,hT,hD,hM,hnt,args',bin',⟨hl',hle⟩,hbin,hp⟩:=hbody args bin ob r bout hDe hob;have hbl:=hbin.len;let g:G:=⟨w,X0,io,fn.ntmps,ι,fun _=>False⟩
 have hN:∀b,g.New b→w.heap.size≤b:=fun b hb=>hb.elim id fun hq=>hq.elim;have hS:∀id blk,lk (qCu bin' 0) id=some blk→∃c,bin[id]?=some c∧BLe c blk∧id<64:=by
  intro id blk hl;obtain⟨j,rfl,hj⟩:=qGl hl;rw[Nat.zero_add];obtain⟨c,hc,hle⟩:=hbin.at hj;have h1:=(List.getElem?_eq_some_iff.1 hc).1;have h2:=hE.few;exact⟨c,hc,hle,by omega⟩
 have hrel:Rel g ⟨q95 args' 0,qCu bin' 0⟩ { tmps:=vals++Array.replicate (fn.ntmps-vals.size) Go.undef,defers:=[] } w ι Fr:=by
  refine
   {defers:=rfl
    size:=by show(vals++Array.replicate (fn.ntmps-vals.size) Go.undef).size=fn.ntmps;simp;omega
    tmp:=?_
    own:=fun id blk b sz m hl hi=>by
     obtain⟨c,hc,hle,h64⟩:=hS id blk hl;obtain⟨h1,h2⟩:=hE.own id c b sz m hc hi;exact⟨hle.le _ _ _ _ _ _ hE.frS hE.fr0 h1,.inr ⟨h2,h64⟩⟩
    nob:=fun id blk hl hi=>by
     obtain⟨c,hc,hle,h64⟩:=hS id blk hl;exact hle.nob (hE.nob id c hc hi)
    inj:=fun id id' blk blk' r r' h1 h2=>by
     obtain⟨c,hc,_⟩:=hS id blk h1;obtain⟨c',hc',_⟩:=hS id' blk' h2;exact hE.inj id id' c c' r r' hc hc'
    fr:=fun t b hb=>⟨(hE.fr t b hb).1,(hE.fr t b hb).2.1,fun id blk r hl=>by
     obtain⟨c,hc,_⟩:=hS id blk hl;exact(hE.fr t b hb).2.2 id c r hc⟩
    frS:=hE.frS
    fr0:=hE.fr0
    fr2:=fun t b h2 hb=>absurd hb (hE.fr2 t b h2)
    fr1:=fun b hb hq=>by
     have:=(hE.fr 1 b hb).1;have:=hN b hq;omega
    cl:=fun t b h2 hb=>absurd hb (hE.fr2 t b h2)
    low:=fun _ _=>rfl
    x0:=hE.x0
    io0:=hE.io0
    mvio:=fun _ hq=>hq.elim
    os:=rfl,tape:=rfl,output:=rfl,hsize:=Nat.le_refl _,frame:=fun _ _ _=>rfl,shape:=fun _ _ h=>h }
  intro t v ht;obtain⟨j,rfl,hj⟩:=q9h ht;rw[Nat.zero_add];have hj':j<args'.length:=(List.getElem?_eq_some_iff.1 hj).1;have e1:args'.getD j .undef=v:=by simp[List.getD,hj]
  have e2:(vals++Array.replicate (fn.ntmps-vals.size) Go.undef).getD j Go.undef=vals.getD j Go.undef:=by
   have hjv:j<vals.size:=by omega
   simp only[Array.getD_eq_getD_getElem?];rw[Array.getElem?_append_left hjv]
  have:=(hle j (by omega)).le w Fr ι _ hE.frS hE.fr0 (hvals j (by omega));rw[e1]at this;show q0e w Fr ι v ((vals++Array.replicate (fn.ntmps-vals.size) Go.undef).getD j Go.undef);rw[e2];exact this
 have hfin:∀(s:AS) (a:Act) (w':World) (ι':q1K) (Fr':Nat→Nat→Prop),Rel g s a w' ι' Fr'→(∃r0 r1 bs,qRY cx.tt s fn.results.toList=some r0∧q8K tpl bin'.length s.S r0=some (r1,bs)∧VLe r1 r∧q1y bs bout)→
   a.defers=[]∧∃v,(results fn a.tmps).run P w'=.ok v w'∧∃v' ι'' Fr'',Ending.returned v=.returned v'∧q0e w' Fr'' ι'' r v'∧Ext w w' X0 io (fun b=>w.heap.size≤b) ι bin.length bout ι'' Fr'':=by
  rintro s a w' ι' Fr' hr ⟨r0,r1,bs,hr0,hex,hv,hbs⟩;obtain⟨v,hrun,hrep⟩:=qFD (P:=P) hT hr hr0;obtain⟨ι2,Fr2,h1,h2⟩:=qDY hr (by have:=hE.few;omega) hex hrep;rw[hbl]at h2;exact⟨hr.defers,v,hrun,v,ι2,Fr2,rfl,hv.le w' _ ι2 v h2.frS h2.fr0 h1,qHz h2 hN hbs⟩
 unfold q3h at hp;rw[hb]at hp;refine calls_of_wp hf hb (q3n hT hD hM hm (g:=g) (hnt.trans rfl) c _ _ ?_ _ _ w ι Fr hp hrel);intro e s a w' ι' Fr' he hr;cases e with
 |normal=>
  simp only[]at he;split at he
  ·rename_i r0 hr0;split at he
   ·rename_i r1 bs hex;exact hfin s a w' ι' Fr' hr ⟨r0,r1,bs,hr0,hex,he⟩
   ·exact he.elim
  ·exact he.elim
 |ret=>
  simp only[]at he;split at he
  ·rename_i r0 hr0;split at he
   ·rename_i r1 bs hex;exact hfin s a w' ι' Fr' hr ⟨r0,r1,bs,hr0,hex,he⟩
   ·exact he.elim
  ·exact he.elim
 |_=>exact he.elim
def q4L (j:Nat):Nat:=64*(400000+j)
def qGz:V→V
 | .oss id lo n _ _=>match Nat.beq lo 0 with
  |true=>.osl id n
  |false=>.undef
 |v=>v
theorem qMY {w:World} {Fr:Nat→Nat→Prop} {ι:q1K} {v:V} {x:Value} (h:q0e w Fr ι v x):q0e w Fr ι (qGz v) x:=by
 cases v with
 |oss id lo n c e=>
  simp only[qGz];split
  ·rename_i h0;have:=q0y.1 h0;subst this;exact qQ0 h
  ·exact .atom rfl (.undef _)
 |_=>exact h
def q91:List Blk→Nat→List (Nat×Blk)
 |[],_=>[]
 |b::r,i=>(q4L i,b)::q91 r (i+1)
theorem qIX:∀{l:List Blk} {k t:Nat} {v:Blk},lk (q91 l k) t=some v→∃j,t=q4L (k+j)∧l[j]?=some v
 |[],_,_,_,h=>by simp[q91,lk]at h
 |b::r,k,t,v,h=>by
  simp only[q91,lk]at h;split at h
  ·rename_i e;have:=q0y.1 e;simp only[Option.some.injEq]at h;exact⟨0,by rw[←this];rfl,by simp[h]⟩
  ·obtain⟨j,h1,h2⟩:=qIX h;exact⟨j+1,by rw[h1,show k+1+j=k+(j+1) by omega],by simpa using h2⟩
@[irreducible] def qAG (cx:Cx) (fn:Func) (tpl:List (Nat×Nat)) (args:List V) (S0:List (Nat×Blk)) (K:V→List Blk→Prop):Prop:=
 match fn.body with
 |some c=>awp cx c (fun e s=>
   match e with
   | .normal=>match qRY cx.tt s fn.results.toList with
    |some r=>match q8K tpl 0 s.S (qGz r)with
     |some (r',bs)=>K r' bs
     |none=>False
    |none=>False
   | .ret=>match qRY cx.tt s fn.results.toList with
    |some r=>match q8K tpl 0 s.S (qGz r)with
     |some (r',bs)=>K r' bs
     |none=>False
    |none=>False
   |_=>False) ⟨q95 args 0,S0⟩
 |none=>False
theorem qMQ (sz:Nat):(qGp sz).cells.length=sz:=by
 unfold qGp;split
 ·rename_i h;rw[q0y.1 h];rfl
 ·simp[V.cells]
theorem qJU (sz j:Nat):(qGp sz).cells.getD j .undef=.undef:=by
 unfold qGp;split
 ·cases j<;>rfl
 ·simp only[V.cells,List.getD,List.getElem?_replicate];split<;>rfl
def mvI (ι:q1K) (cp:Nat):q1K:=fun id=>if id%64=0∧400000≤id/64∧id/64<400064 then
  (match ι (id/64-400000)with
   |some (b,sz,m)=>some (b,sz,if id/64=400000 then cp else m)
   |none=>none)else ι id
theorem qXj {ι:q1K} {cp id:Nat} (h:id<64):mvI ι cp id=ι id:=by
 unfold mvI;rw[if_neg];omega
theorem q7j {ι:q1K} {cp:Nat}:mvI ι cp (q4L 0)=(ι 0).map fun q=>(q.1,q.2.1,cp):=by
 unfold mvI q4L;rw[if_pos (by omega)];simp only[Nat.add_zero];rw[show 64*400000/64=400000 by omega,Nat.sub_self];cases ι 0<;>rfl
theorem qC2 {ι:q1K} {cp j:Nat} (h:0<j) (hj:j<64):mvI ι cp (q4L j)=ι j:=by
 unfold mvI q4L;rw[if_pos (by omega),show 64*(400000+j)/64=400000+j by omega,show 400000+j-400000=j by omega];cases hq:ι j with
 |none=>rfl
 |some q=>
  obtain⟨b,sz,m⟩:=q;simp only;rw[if_neg (by omega)]
def xCw (l:List V):Bool:=l.all fun a=>a.ids.all fun id=>Nat.ble 1 id&&Nat.blt id 64
theorem q47 {P:Program} (hm:P.follows .mixedOrders=true) {f:Nat} {fn:Func} {c:Code} {D:q0P} {tpl:List (Nat×Nat)}
  (hf:P.funcs[f]?=some fn) (hb:fn.body=some c) (hn:(fn.name=="runtime.NumGoroutine")=false)
  (hbody:∀args bin ob r bout,D args bin=some (ob,r,bout)→ob→args.length≤fn.ntmps∧
   ∃cx:Cx,q4K P cx.tt∧q0C P cx.D∧q4c P cx.M∧cx.nt=fn.ntmps∧∃(ee:Bool) (n sz te:Nat) (g g':Nat→V) (av av':List V) (bv bv':List Blk),args=.osl 0 n::av∧bin=.arr sz n g te::bv∧
    q54 av av'∧xCw av'=true∧BLe (.arr sz n g te) (.arr sz n g' te)∧q1y bv bv'∧bv'.all qF6=true∧∃nn:Nat,n=nn∧
    ((∀cp,nn≤cp→qAG cx fn tpl (.oss (q4L 0) 0 nn cp ee::av'.map (V.ren q4L)) ((q4L 0,.arr sz cp (q8i sz nn g') te)::q91 bv' 1) (fun r' bs=>VLe r' r∧q1y bs bout))∨
     qAG cx fn tpl (.osl (q4L 0) nn::av'.map (V.ren q4L)) ((q4L 0,.arr sz nn g' te)::q91 bv' 1) (fun r' bs=>VLe r' r∧q1y bs bout))):q8g P f D:=by
 refine⟨?_⟩;intro args bin ob r bout hDe hob vals w X0 io ι Fr hE hFio hsize hvals;refine .inl ⟨qD8 hf hb hn _ _,?_⟩;obtain⟨hlen,cx,hT,hD,hM,hnt,ee,n,sz,te,g1,g2,av,av',bv,bv',rfl,rfl,⟨hl',hle⟩,hidsB,hb1,hbin,harrB,nn,rfl,hp⟩:=hbody args bin ob r bout hDe hob;have hids:∀a∈av',∀id∈a.ids,0<id∧id<64:=fun a ha id hid=>by
  unfold xCw at hidsB;simp only[List.all_eq_true,Bool.and_eq_true]at hidsB;obtain⟨h1,h2⟩:=hidsB a ha id hid;exact⟨Nat.le_of_ble_eq_true h1,Nat.le_of_ble_eq_true h2⟩
 have harr:∀b∈bv',qF6 b=true:=List.all_eq_true.1 harrB;have hbl:=hbin.len;have hfew:=hE.few;simp only[List.length_cons]at hfew hlen hsize;have hv0:=hvals 0 (by simp);rw[List.getD_cons_zero]at hv0;obtain⟨cp,G2,a0,hp',hnone,hrow,hown⟩:∃(cp:Nat) (G2:Nat→V) (a0:V),qAG cx fn tpl (a0::av'.map (V.ren q4L)) ((q4L 0,.arr sz cp G2 te)::q91 bv' 1) (fun r' bs=>VLe r' r∧q1y bs bout)∧(ι 0=none→cp=0)∧
   q0e w Fr (mvI ι cp) a0 (vals.getD 0 Go.undef)∧∀b sz' m,ι 0=some (b,sz',m)→qAT w Fr (mvI ι cp) b sz' cp (.arr sz cp G2 te)∧io b:=by
  generalize vals.getD 0 Go.undef=v0 at hv0;have hOwn:∀b sz' m,ι 0=some (b,sz',m)→qAT w Fr ι b sz' m (.arr sz n g2 te)∧io b:=fun b sz' m hi=>by
   obtain⟨h1,h2⟩:=hE.own 0 (.arr sz n g1 te) b sz' m rfl hi;exact⟨hb1.le _ _ _ _ _ _ hE.frS hE.fr0 h1,h2⟩
  rcases hp with hp|hp
  ·cases hv0 with
   |atom hv _=>simp[isP]at hv
   |osl0 a hi=>exact⟨0,_,_,hp 0 (Nat.le_refl _),fun _=>rfl,.oss0 a fun _=>(by rw[q7j,hi];rfl),fun b sz' m h=>(by rw[hi]at h;cases h)⟩
   | @osl _ _ b sz2 m cap cc e1 hi hn2 hc hs hcs=>
    refine⟨cap,_,_,hp cap hc,fun h=>(by rw[hi]at h;cases h),?_,?_⟩
    ·have:=q0e.oss (w:=w) (Fr:=Fr) (ι:=mvI ι cap) (id:=q4L 0) (lo:=0) (n:=n) (cc:=cap) (x:=ee) (b:=b) (sz:=sz2) (m:=cap) (by rw[q7j,hi];rfl) (by omega) hc (Nat.le_refl _) (fun _=>rfl) hs (by rw[Nat.zero_add];exact hcs)
     rwa [Nat.zero_mul]at this
    ·intro b' sz' m' h;obtain⟨h3,h2⟩:=hOwn b' sz' m' h;rw[hi]at h;simp only[Option.some.injEq,Prod.mk.injEq]at h;obtain⟨rfl,rfl,rfl⟩:=h;obtain⟨q1,q2,cells,e,q3,q4,q5,q6⟩:=h3;subst q1 q2;refine⟨⟨rfl,rfl,cells,e,q3,?_,fun i hi2=>?_,fun i j hi2 hj=>?_⟩,h2⟩
     ·unfold World.shape? at hs;rw[q3]at hs;simp only[Option.some.injEq,Prod.mk.injEq]at hs;rw[hs.2];exact hcs
     ·unfold q8i;split
      ·rename_i hq;exact q5 i hq
      ·exact qMQ sz
     ·unfold q8i;split
      ·rename_i hq;exact q6 i j hq hj
      ·rw[qJU];exact .undef _
  ·cases hv0 with
   |atom hv _=>simp[isP]at hv
   |osl0 a hi=>exact⟨0,g2,_,hp,fun _=>rfl,.osl0 a (by rw[q7j,hi];rfl),fun b sz' m h=>(by rw[hi]at h;cases h)⟩
   | @osl _ _ b sz2 m cap cc e1 hi hn2 hc hs hcs=>
    refine⟨n,g2,_,hp,fun h=>(by rw[hi]at h;cases h),.osl (m:=n) (by rw[q7j,hi];rfl) (Nat.le_refl _) hc hs hcs,?_⟩;intro b' sz' m' h;obtain⟨h3,h2⟩:=hOwn b' sz' m' h;obtain⟨q1,q2,cells,e,q3,q4,q5,q6⟩:=h3;exact⟨⟨q1,rfl,cells,e,q3,q4,q5,q6⟩,h2⟩
 let g:G:=⟨w,X0,io,fn.ntmps,ι,io⟩
 have hS:∀id blk,lk ((q4L 0,Blk.arr sz cp G2 te)::q91 bv' 1) id=some blk→(id=q4L 0∧blk=.arr sz cp G2 te)∨∃j c,0<j∧j<64∧id=q4L j∧(Blk.arr sz n g1 te::bv)[j]?=some c∧BLe c blk∧qF6 blk=true:=by
  intro id blk hl;simp only[lk]at hl;split at hl
  ·rename_i e;simp only[Option.some.injEq]at hl;exact .inl ⟨(q0y.1 e).symm,hl.symm⟩
  ·obtain⟨j,h1,h2⟩:=qIX hl;obtain⟨c,hc,hle⟩:=hbin.at h2;have:=(List.getElem?_eq_some_iff.1 hc).1;refine .inr ⟨j+1,c,by omega,by omega,by rw[h1,Nat.add_comm],by simpa using hc,hle,harr _ (List.mem_of_getElem? h2)⟩
 have hblk:∀id blk q,lk ((q4L 0,Blk.arr sz cp G2 te)::q91 bv' 1) id=some blk→mvI ι cp id=some q→∃j c q',j<64∧id=q4L j∧(Blk.arr sz n g1 te::bv)[j]?=some c∧ι j=some q'∧q'.1=q.1:=by
  intro id blk q hl hi;rcases hS id blk hl with⟨rfl,rfl⟩|⟨j,c,h0,h64,rfl,hc,hle,hia⟩
  ·rw[q7j]at hi;cases h0:ι 0 with
   |none=>rw[h0]at hi;simp at hi
   |some q'=>
    rw[h0]at hi;simp only[Option.map_some,Option.some.injEq]at hi;exact⟨0,_,q',by omega,rfl,rfl,h0,by rw[←hi]⟩
  ·rw[qC2 h0 h64]at hi;exact⟨j,c,q,h64,rfl,hc,hi,rfl⟩
 have hrel:Rel g ⟨q95 (a0::av'.map (V.ren q4L)) 0,(q4L 0,.arr sz cp G2 te)::q91 bv' 1⟩ { tmps:=vals++Array.replicate (fn.ntmps-vals.size) Go.undef,defers:=[] } w (mvI ι cp) Fr:=by
  refine
   {defers:=rfl
    size:=by show(vals++Array.replicate (fn.ntmps-vals.size) Go.undef).size=fn.ntmps;simp;omega
    tmp:=?_
    own:=fun id blk b sz' m hl hi=>by
     rcases hS id blk hl with⟨rfl,rfl⟩|⟨j,c,h0,h64,rfl,hc,hle,hia⟩
     ·rw[q7j]at hi;cases h0:ι 0 with
      |none=>rw[h0]at hi;simp at hi
      |some q'=>
       obtain⟨b',s',m'⟩:=q';rw[h0]at hi;simp only[Option.map_some,Option.some.injEq,Prod.mk.injEq]at hi;obtain⟨rfl,rfl,rfl⟩:=hi;obtain⟨h1,h2⟩:=hown b' s' m' h0;exact⟨h1,.inl (.inr h2)⟩
     ·rw[qC2 h0 h64]at hi;obtain⟨h1,h2⟩:=hE.own j c b sz' m hc hi;have h3:=hle.le _ _ _ _ _ _ hE.frS hE.fr0 h1;refine⟨?_,.inl (.inr h2)⟩;cases blk with
      |arr=>exact h3
      |mp=>exact h3
      |box cs=>simp[qF6]at hia
    nob:=fun id blk hl hi=>by
     rcases hS id blk hl with⟨rfl,rfl⟩|⟨j,c,h0,h64,rfl,hc,hle,hia⟩
     ·rw[q7j]at hi;have h0:ι 0=none:=by
       cases h0:ι 0 with
       |none=>rfl
       |some q'=>rw[h0]at hi;simp at hi
      rw[hnone h0];exact⟨_,_,_,rfl⟩
     ·rw[qC2 h0 h64]at hi;exact hle.nob (hE.nob j c hc hi)
    inj:=fun id id' blk blk' r r' h1 h2 h3 h4 h5=>by
     obtain⟨j,c,q,_,rfl,hc,hi,e⟩:=hblk id blk r h1 h3;obtain⟨j',c',q',_,rfl,hc',hi',e'⟩:=hblk id' blk' r' h2 h4;rw[hE.inj j j' c c' q q' hc hc' hi hi' (by rw[e,e',h5])]
    fr:=fun t b hb=>⟨(hE.fr t b hb).1,(hE.fr t b hb).2.1,fun id blk r hl hi e=>by
     obtain⟨j,c,q,_,rfl,hc,hi',e'⟩:=hblk id blk r hl hi;exact(hE.fr t b hb).2.2 j c q hc hi' (by rw[e',e])⟩
    frS:=hE.frS
    fr0:=hE.fr0
    fr2:=fun t b h2 hb=>absurd hb (hE.fr2 t b h2)
    fr1:=fun b hb hq=>by
     have h1:=(hE.fr 1 b hb).1;rcases hq with hq|hq
     ·have hq':w.heap.size≤b:=hq;omega
     ·exact hFio 1 b hb hq
    cl:=fun t b h2 hb=>absurd hb (hE.fr2 t b h2)
    low:=fun id hid=>qXj hid
    x0:=hE.x0
    io0:=hE.io0
    mvio:=fun _ hq=>hq
    os:=rfl,tape:=rfl,output:=rfl,hsize:=Nat.le_refl _,frame:=fun _ _ _=>rfl,shape:=fun _ _ h=>h }
  intro t v ht;obtain⟨j,rfl,hj⟩:=q9h ht;rw[Nat.zero_add];have hj':=(List.getElem?_eq_some_iff.1 hj).1;simp only[List.length_cons,List.length_map]at hj';have e2:(vals++Array.replicate (fn.ntmps-vals.size) Go.undef).getD j Go.undef=vals.getD j Go.undef:=by
   have hjv:j<vals.size:=by omega
   simp only[Array.getD_eq_getD_getElem?];rw[Array.getElem?_append_left hjv]
  show q0e w Fr (mvI ι cp) v ((vals++Array.replicate (fn.ntmps-vals.size) Go.undef).getD j Go.undef);rw[e2];cases j with
  |zero=>
   simp only[List.getElem?_cons_zero,Option.some.injEq]at hj;subst hj;exact hrow
  |succ j=>
   simp only[List.getElem?_cons_succ,List.getElem?_map]at hj;cases hq:av'[j]? with
   |none=>rw[hq]at hj;simp at hj
   |some u=>
    rw[hq]at hj;simp only[Option.map_some,Option.some.injEq]at hj;subst hj;have h1:=(hle j (by omega)).le w Fr ι _ hE.frS hE.fr0 (by have:=hvals (j+1) (by simp;omega);rw[List.getD_cons_succ]at this;exact this);have h2:av'.getD j .undef=u:=by simp[List.getD,hq]
    rw[h2]at h1;exact h1.ren fun id hid=>by
     obtain⟨h3,h4⟩:=hids u (List.mem_of_getElem? hq) id hid;exact qC2 h3 h4
 have hfin:∀(s:AS) (a:Act) (w':World) (ι':q1K) (Fr':Nat→Nat→Prop),Rel g s a w' ι' Fr'→(∃r0 r1 bs,qRY cx.tt s fn.results.toList=some r0∧q8K tpl 0 s.S (qGz r0)=some (r1,bs)∧VLe r1 r∧q1y bs bout)→
   a.defers=[]∧∃v,(results fn a.tmps).run P w'=.ok v w'∧∃v' ι'' Fr'',Ending.returned v=.returned v'∧q0e w' Fr'' ι'' r v'∧Ext w w' X0 io (fun b=>w.heap.size≤b∨io b) ι 0 bout ι'' Fr'':=by
  rintro s a w' ι' Fr' hr ⟨r0,r1,bs,hr0,hex,hv,hbs⟩;obtain⟨v,hrun,hrep⟩:=qFD (P:=P) hT hr hr0;obtain⟨ι2,Fr2,h1,h2⟩:=qDY hr (by omega) hex (qMY hrep);exact⟨hr.defers,v,hrun,v,ι2,Fr2,rfl,hv.le w' _ ι2 v h2.frS h2.fr0 h1,qHz h2 (fun b hb=>hb) hbs⟩
 unfold qAG at hp';rw[hb]at hp';refine calls_of_wp hf hb (q3n hT hD hM hm (g:=g) (hnt.trans rfl) c _ _ ?_ _ _ w (mvI ι cp) Fr hp' hrel);intro e s a w' ι' Fr' he hr;cases e with
 |normal=>
  simp only[]at he;split at he
  ·rename_i r0 hr0;split at he
   ·rename_i r1 bs hex;exact hfin s a w' ι' Fr' hr ⟨r0,r1,bs,hr0,hex,he⟩
   ·exact he.elim
  ·exact he.elim
 |ret=>
  simp only[]at he;split at he
  ·rename_i r0 hr0;split at he
   ·rename_i r1 bs hex;exact hfin s a w' ι' Fr' hr ⟨r0,r1,bs,hr0,hex,he⟩
   ·exact he.elim
  ·exact he.elim
 |_=>exact he.elim
def qGR (P:Program) (t:Nat):Bool:=match P.underlying t with
 |some d=>q5I d
 |none=>false
def q2Y {H:Type} (P:Program):Nat→Nat→DataW H→List V
 |0,_,_=>[]
 |fuel+1,t,d=>match P.underlying t,d with
  |some (.int k),.lit (.int _ n)=>[.int k n]
  |some .bool,.lit (.bool b)=>[.bool b]
  |some .string,.lit (.string bs)=>[.str ⟨bs.toArray⟩]
  |some (.slice _),.nil=>[.nil]
  |some (.slice e),.slice elems _=>[.sl elems.length (fun i=>qB6 (qGR P e) (q2Y P fuel e (elems.getD i .nil))) 1]
  |some (.struct fs),.agg parts=>(fs.toList.zip parts).flatMap fun p=>q2Y P fuel p.1.type p.2
  |_,_=>[.undef]
def qHY (P:Program):List Field→Nat→Nat→Bool
 |[],off,n=>Nat.beq off n
 |f::r,off,n=>Nat.beq f.offset off&&qHY P r (off+P.cellsOf f.type) n
def q7v (P:Program):Nat→Nat→Bool
 |0,_=>false
 |fuel+1,t=>match P.underlying t with
  |some (.int _)=>Nat.beq (P.cellsOf t) 1
  |some .bool=>Nat.beq (P.cellsOf t) 1
  |some .string=>Nat.beq (P.cellsOf t) 1
  |some (.slice e)=>Nat.beq (P.cellsOf t) 1&&Nat.ble 1 (P.cellsOf e)&&q7v P fuel e
  |some (.struct fs)=>qHY P fs.toList 0 (P.cellsOf t)&&fs.toList.all fun f=>q7v P fuel f.type
  |_=>false
def q85 (w:World) (vs:List V) (cs:List Value):Prop:=
 vs.length=cs.length∧∀j,j<cs.length→PRep w (fun b=>b<w.heap.size) (vs.getD j .undef) (cs.getD j Go.undef)
theorem q85.one {w:World} {v:V} {x:Value} (h:PRep w (fun b=>b<w.heap.size) v x):q85 w [v] [x]:=
 ⟨rfl,fun j hj=>by
  have:j=0:=by simpa using hj
  subst this;simpa using h⟩
theorem q85.append {w:World} {vs vs':List V} {cs cs':List Value} (h:q85 w vs cs) (h':q85 w vs' cs'):q85 w (vs++vs') (cs++cs'):=by
 refine⟨by simp[h.1,h'.1],fun j hj=>?_⟩;rcases Nat.lt_or_ge j cs.length with hlt|hge
 ·have e1:(vs++vs').getD j .undef=vs.getD j .undef:=by simp[List.getD,List.getElem?_append_left (by rw[h.1];exact hlt)]
  have e2:(cs++cs').getD j Go.undef=cs.getD j Go.undef:=by simp[List.getD,List.getElem?_append_left hlt]
  rw[e1,e2];exact h.2 j hlt
 ·have e1:(vs++vs').getD j .undef=vs'.getD (j-cs.length) .undef:=by simp[List.getD,List.getElem?_append_right (by rw[h.1];exact hge),h.1]
  have e2:(cs++cs').getD j Go.undef=cs'.getD (j-cs.length) Go.undef:=by simp[List.getD,List.getElem?_append_right hge]
  rw[e1,e2];exact h'.2 _ (by simp at hj;omega)
theorem q85.nil {w:World}:q85 w [] []:=⟨rfl,fun j hj=>by simp at hj⟩
theorem qCk {agg:Bool} {cs:List V} (h:agg=false→∃c,cs=[c]∧∀l,c≠.agg l):(qB6 agg cs).cells=cs:=by
 cases agg with
 |true=>rfl
 |false=>
  obtain⟨c,rfl,hc⟩:=h rfl;unfold qB6;simp only[List.headD_cons];cases c<;>first|rfl|exact absurd rfl (hc _)
theorem qNq {α β:Type} {f:α→Option β}:∀{l:List α} {r:List β},l.mapM f=some r→r.length=l.length∧∀(j:Nat) (x:α),l[j]?=some x→∃y,r[j]?=some y∧f x=some y
 |[],r,h=>by
  simp at h;subst h;exact⟨rfl,fun j x hx=>by simp at hx⟩
 |a::l,r,h=>by
  rw[List.mapM_cons]at h;cases ha:f a with
  |none=>rw[ha]at h;simp at h
  |some b=>
   cases hl:l.mapM f with
   |none=>rw[ha,hl]at h;simp at h
   |some bs=>
    rw[ha,hl]at h;simp at h;subst h;obtain⟨h1,h2⟩:=qNq hl;refine⟨by simp[h1],fun j x hx=>?_⟩;cases j with
    |zero=>simp at hx;subst hx;exact⟨b,by simp,ha⟩
    |succ j=>simpa using h2 j x (by simpa using hx)
section
variable {H:Type} {enc:TypeId×Value→H} {P:Program} {w:World} {base:Nat} {sp:Nat→Bool} {held:Bool}
theorem q60 {n t:Nat} {fuel:Nat} {cs:List Value} {d:DataW H} {ps:List MemPlace} (hp:q7v P n t=true) (ha:qGR P t=false)
  (h:DataW.trod enc P w base sp held fuel t cs=some (d,ps)):∃c,q2Y P n t d=[c]∧∀l,c≠.agg l:=by
 cases n with
 |zero=>simp[q7v]at hp
 |succ n=>
  unfold q7v at hp;unfold qGR at ha;cases hu:P.underlying t with
  |none=>rw[hu]at hp;simp at hp
  |some td=>
   rw[hu]at hp ha;cases td with
   |struct fs=>simp[q5I]at ha
   |_=>
    simp only[q2Y,hu]
    first
     |exact⟨_,rfl,fun l hl=>by cases hl⟩
     |(split<;>first
       |exact⟨_,rfl,fun l hl=>by cases hl⟩
       |contradiction
       |(rename_i heq;cases heq))
theorem qKV {t fuel:Nat} {k:IntKind} {cs:List Value} {x:DataW H×List MemPlace} (hu:P.underlying t=some (.int k)) (h:DataW.trod enc P w base sp held (fuel+1) t cs=some x):
  ∃n,cs=[.int k n]∧x.1=.lit (.int k n):=by
 unfold DataW.trod at h;rw[hu]at h;split at h<;>try contradiction
 all_goals simp_all
 rename_i h1;obtain⟨⟨e,_⟩,hx⟩:=h;subst e;rw[←hx]
theorem qIF {t fuel:Nat} {cs:List Value} {x:DataW H×List MemPlace} (hu:P.underlying t=some .bool) (h:DataW.trod enc P w base sp held (fuel+1) t cs=some x):
  ∃b,cs=[.bool b]∧x.1=.lit (.bool b):=by
 unfold DataW.trod at h;rw[hu]at h;split at h<;>try contradiction
 all_goals simp_all
 rw[←h]
theorem qDk {t fuel:Nat} {cs:List Value} {x:DataW H×List MemPlace} (hu:P.underlying t=some .string) (h:DataW.trod enc P w base sp held (fuel+1) t cs=some x):
  ∃s:ByteArray,cs=[.string s]∧x.1=.lit (.string s.data.toList):=by
 unfold DataW.trod at h;rw[hu]at h;split at h<;>try contradiction
 all_goals simp_all
 rw[←h.2]
theorem qDC {t fuel:Nat} {fs:Array Field} {cs:List Value} {x:DataW H×List MemPlace} (hu:P.underlying t=some (.struct fs)) (h:DataW.trod enc P w base sp held (fuel+1) t cs=some x):
  cs.length=P.cellsOf t∧∃xs:List (DataW H×List MemPlace),x.1=.agg (xs.map (·.1))∧(fs.toList.mapM fun f=>DataW.trod enc P w base sp held fuel f.type ((cs.drop f.offset).take (P.cellsOf f.type)))=some xs:=by
 unfold DataW.trod at h;rw[hu]at h;simp only[]at h;split at h
 ·rename_i hl;refine⟨hl,?_⟩;cases hm:(fs.toList.mapM fun f=>DataW.trod enc P w base sp held fuel f.type ((cs.drop f.offset).take (P.cellsOf f.type)))with
  |none=>rw[hm]at h;simp at h
  |some xs=>rw[hm]at h;simp at h;exact⟨xs,by rw[←h],rfl⟩
 ·simp at h
theorem qWj {a:Addr} (hs:a.spot=none) (i j:Nat):(a.add i).add j=⟨a.block,a.off+i+j,none⟩:=by
 obtain⟨b,o,s⟩:=a;simp only at hs;subst hs;unfold Addr.add;by_cases hi:i=0<;>by_cases hj:j=0<;>simp[hi,hj]
theorem qHq {fs:List Field} {cs:List Value} {vf:Field→DataW H→List V}:∀{xs:List (DataW H×List MemPlace)} {off:Nat},qHY P fs off cs.length=true→xs.length=fs.length→
  (∀(j:Nat) (f:Field) (x:DataW H×List MemPlace),fs[j]?=some f→xs[j]?=some x→q85 w (vf f x.1) ((cs.drop f.offset).take (P.cellsOf f.type))∧(vf f x.1).length=P.cellsOf f.type)→
  q85 w ((fs.zip (xs.map (·.1))).flatMap fun p=>vf p.1 p.2) (cs.drop off):=by
 induction fs with
 |nil=>
  intro xs off hc hl _;unfold qHY at hc;have:=q0y.1 hc;subst this;simpa using q85.nil
 |cons f r ih=>
  intro xs off hc hl hall;unfold qHY at hc;simp only[Bool.and_eq_true]at hc;have ho:=q0y.1 hc.1;cases xs with
  |nil=>simp at hl
  |cons x xs=>
   have h1:=hall 0 f x (by simp) (by simp);have h2:=ih (xs:=xs) (off:=off+P.cellsOf f.type) hc.2 (by simpa using hl) fun j f' x' hf hx=>hall (j+1) f' x' (by simpa using hf) (by simpa using hx);have e1:cs.drop off=(cs.drop off).take (P.cellsOf f.type)++cs.drop (off+P.cellsOf f.type):=by
    rw[←List.drop_drop,List.take_append_drop]
   rw[ho]at h1;simp only[List.map_cons,List.zip_cons_cons,List.flatMap_cons];rw[e1];exact h1.1.append h2
theorem q7p:∀(n t:Nat),q7v P n t=true→∀(fuel:Nat) (cs:List Value) (d:DataW H) (ps:List MemPlace),DataW.trod enc P w base sp held fuel t cs=some (d,ps)→
  q85 w (q2Y P n t d) cs∧cs.length=P.cellsOf t
 |0,t,hp,_,_,_,_,_=>by simp[q7v]at hp
 |n+1,t,hp,0,cs,d,ps,h=>by simp[DataW.trod]at h
 |n+1,t,hp,fuel+1,cs,d,ps,h=>by
  have hp0:=hp;unfold q7v at hp;cases hu:P.underlying t with
  |none=>rw[hu]at hp;simp at hp
  |some td=>
   rw[hu]at hp;cases td with
   |int k=>
    obtain⟨m,rfl,hd⟩:=qKV hu h;simp only at hd;subst hd;simp only[q2Y,hu];exact⟨q85.one (.int _ _),(q0y.1 hp).symm⟩
   |bool=>
    obtain⟨m,rfl,hd⟩:=qIF hu h;simp only at hd;subst hd;simp only[q2Y,hu];exact⟨q85.one (.bool _),(q0y.1 hp).symm⟩
   |string=>
    obtain⟨m,rfl,hd⟩:=qDk hu h;simp only at hd;subst hd;simp only[q2Y,hu];exact⟨q85.one (.str _),(q0y.1 hp).symm⟩
   |slice e=>
    simp only[Bool.and_eq_true]at hp;obtain⟨⟨h1,hge⟩,hpe⟩:=hp;have hge:1≤P.cellsOf e:=Nat.le_of_ble_eq_true hge;refine⟨?_,?_⟩
    ·rcases Go.Deep.open_slice hu h with⟨rfl,hx⟩|⟨a,len,cap,m,n',D,Pl,rfl,hb,hlc,hcm,hm,hx,hi⟩
     ·cases hx;simp only[q2Y,hu];exact q85.one (.nil _)
     ·cases hx;simp only[q2Y,hu,List.length_map,List.length_range];refine q85.one ?_;by_cases h0:len=0
      ·subst h0;exact .sl0 _ _ _ _
      ·have hle:len≤m:=by rw[hm];split<;>omega
       have hspot:a.spot=none:=by
        obtain⟨cs',hcs',_⟩:=hi 0 (by omega);obtain⟨_,hl0,hc0⟩:=World.cells?_some hcs';have:=hc0 0 (by omega);have hsome:∃y,cs'[0]?=some y:=⟨cs'[0],by rw[List.getElem?_eq_getElem]⟩;obtain⟨y,hy⟩:=hsome;rw[hy]at this;simp only[Nat.zero_mul,Addr.add,if_true,World.cell?]at this;split at this
        ·cases hs:a.spot with
         |none=>rfl
         |some q=>rw[hs]at this;simp at this
        ·simp at this
       have hblk:a.block<w.heap.size:=by
        obtain⟨cs',hcs',_⟩:=hi 0 (by omega);have:=World.cells?_block hcs' (by omega);simpa[Addr.add]using this
       have hel:∀i,i<len→∃cs',cs'.length=P.cellsOf e∧(∀j,j<P.cellsOf e→w.cell? ⟨a.block,a.off+i*P.cellsOf e+j,none⟩=some (cs'.getD j Go.undef))∧
         q85 w (q2Y P n e (D i)) cs'∧(qB6 (qGR P e) (q2Y P n e (D i))).cells=q2Y P n e (D i):=by
        intro i hilt;obtain⟨cs',hcs',htr⟩:=hi i (by omega);obtain⟨_,hl',hc'⟩:=World.cells?_some hcs';refine⟨cs',hl',fun j hj=>?_,(q7p n e hpe n' cs' (D i) (Pl i) htr).1,qCk fun ha=>q60 hpe ha htr⟩;have:=hc' j hj;rw[qWj hspot]at this;rw[this];have hj':j<cs'.length:=by omega
        simp[List.getD,hj']
       have hg:∀i,i<len→((List.range len).map D).getD i .nil=D i:=fun i hilt=>by simp[List.getD,hilt]
       obtain⟨blk,off,spot⟩:=a;simp only at hspot hblk hel;subst hspot;refine .sl (sz:=P.cellsOf e) (fun i j=>(w.cell? ⟨blk,off+i*P.cellsOf e+j,none⟩).getD Go.undef) hblk hlc (fun i hilt=>?_) (fun i j hilt hj=>?_) (fun i j hilt hj=>?_)
       ·obtain⟨cs',hl',_,hr,hcells⟩:=hel i hilt;simp only[hg i hilt,hcells];rw[hr.1,hl']
       ·obtain⟨cs',hl',hc',_,_⟩:=hel i hilt;rw[hc' j hj];rfl
       ·obtain⟨cs',hl',hc',hr,hcells⟩:=hel i hilt;simp only[hg i hilt,hcells];rw[hc' j hj];exact hr.2 j (by omega)
    ·rcases Go.Deep.open_slice hu h with⟨rfl,_⟩|⟨_,_,_,_,_,_,_,rfl,_⟩<;>exact(q0y.1 h1).symm
   |struct fs=>
    simp only[Bool.and_eq_true]at hp;obtain⟨hc,hall⟩:=hp;obtain⟨hl,xs,hd,hm⟩:=qDC hu h;simp only at hd;subst hd;obtain⟨hlen,hat⟩:=qNq hm;refine⟨?_,hl⟩;simp only[q2Y,hu];have:=qHq (fs:=fs.toList) (cs:=cs) (vf:=fun f x=>q2Y P n f.type x) (xs:=xs) (off:=0) (by rw[hl];exact hc) hlen fun j f x hf hx=>by
     obtain⟨y,hy,hty⟩:=hat j f hf;rw[hx]at hy;have:x=y:=Option.some.inj hy;subst this;obtain⟨h1,h2⟩:=q7p n f.type (List.all_eq_true.1 hall f (List.mem_of_getElem? hf)) fuel _ x.1 x.2 hty;exact⟨h1,by rw[h1.1];exact h2⟩
    simpa using this
   |_=>simp at hp
end
def argD {H:Type} (P:Program) (n t:Nat) (d:DataW H):V:=qB6 (qGR P t) (q2Y P n t d)
def qNL (w:World):Nat→Nat→Prop:=fun t b=>t<2∧b<w.heap.size
theorem calls_of_sound {P:Program} {f:Nat} {D:q0P} (h:q0R P f D) (hbody:((P.funcs[f]?).bind (·.body)).isSome=true) {args:List V} {ob:Prop} {b:Bool} (hD:D args []=some (ob,.bool b,[])) (hob:ob) {vals:Array Value} {W:World}
  (hsize:vals.size=args.length) (hv:∀j,j<args.length→q0e W (qNL W) (fun _=>none) (args.getD j .undef) (vals.getD j Go.undef)):
  Calls P f vals W fun e W'=>e=.returned (.bool b)∧Go.RowKit.Below W.heap.size W W':=by
 have hE:Ent W (fun _=>False) (fun _=>False) [] (fun _=>none) (qNL W):=
  {own:=fun id blk b sz m hl=>by simp at hl
   nob:=fun id blk hl=>by simp at hl
   inj:=fun id id' blk blk' r r' hl=>by simp at hl
   fr:=fun t b hb=>⟨hb.2,fun h=>h,fun id blk r hl=>by simp at hl⟩
   frS:=fun b hb=>absurd hb.1 (by decide)
   fr0:=fun t b hb=>⟨by decide,hb.2⟩
   fr2:=fun t b h2 hb=>by have:=hb.1;omega
   x0:=fun b hb=>hb.elim
   io0:=fun b hb=>hb.elim
   few:=by decide }
 have hx:=h.does args [] ob (.bool b) [] hD hob vals W (fun _=>False) (fun _=>False) (fun _=>none) (qNL W) hE hsize hv;have hc:Calls P f vals W fun e w'=>∃v ι' Fr',e=.returned v∧q0e w' Fr' ι' (.bool b) v∧Ext W w' (fun _=>False) (fun _=>False) (fun b=>W.heap.size≤b) (fun _=>none) 0 [] ι' Fr':=by
  rcases hx with hx|⟨v,hv,_⟩
  ·exact hx.2
  ·exfalso;obtain⟨fn,hfn,hbd⟩:∃fn,P.funcs[f]?=some fn∧fn.body.isSome=true:=by
    cases hfn:P.funcs[f]? with
    |none=>rw[hfn]at hbody;cases hbody
    |some fn=>rw[hfn]at hbody;exact⟨fn,rfl,hbody⟩
   have hb2:fn.body.isNone=false:=by
    cases hc:fn.body with
    |none=>rw[hc]at hbd;cases hbd
    |some _=>rfl
   unfold callFunc at hv;simp only[Sem.run_bind,run_program,Result.andThen_ok,hfn]at hv;split at hv
   ·cases hv
   ·simp only[hb2]at hv;cases hv
 refine hc.mono fun e W' he=>?_;obtain⟨v,ι',Fr',rfl,hr,hx⟩:=he;have hvb:=q52 hr;subst hvb;exact⟨rfl,hx.os,hx.tape,hx.output,hx.hsize,fun k hk=>hx.frame k hk fun h=>h⟩
theorem q8E {H:Type} (P:Program):∀(n t:Nat) (d:DataW H),∀c∈q2Y P n t d,isP c=true∧(q2D c=none∨q2D c=some 1)
 |0,_,_,c,hc=>by simp[q2Y]at hc
 |n+1,t,d,c,hc=>by
  simp only[q2Y]at hc;split at hc
  ·simp at hc;subst hc;simp[isP,q2D]
  ·simp at hc;subst hc;simp[isP,q2D]
  ·simp at hc;subst hc;simp[isP,q2D]
  ·simp at hc;subst hc;simp[isP,q2D]
  ·simp at hc;subst hc;simp[isP,q2D]
  ·obtain⟨p,_,hp⟩:=List.mem_flatMap.1 hc;exact q8E P n _ _ c hp
  ·simp at hc;subst hc;simp[isP,q2D]
theorem qVt {H:Type} {enc:TypeId×Value→H} {P:Program} {w:World} {base:Nat} {sp:Nat→Bool} {held:Bool} {n t:Nat} (hp:q7v P n t=true) {v:Value} {d:DataW H} {ps:List MemPlace}
  (h:DataW.Trod enc P w base sp held t v d ps) (hform:qGR P t=true→∃cs,v=.agg cs) (hform':qGR P t=false→∀cs,v≠.agg cs):q0e w (qNL w) (fun _=>none) (argD P n t d) v:=by
 obtain⟨fuel,h⟩:=h;obtain⟨hr,hl⟩:=q7p n t hp fuel _ d ps h;have cell:∀c∈q2Y P n t d,∀x,PRep w (fun b=>b<w.heap.size) c x→q0e w (qNL w) (fun _=>none) c x:=fun c hc x hx=>
  q8Q (A:=fun b=>b<w.heap.size) (c:=1) (fun b hb=>⟨by decide,hb⟩) (q8E P n t d c hc).1 (q8E P n t d c hc).2 hx
 unfold argD;cases ha:qGR P t with
 |true=>
  obtain⟨cs,rfl⟩:=hform ha;have hlen:(q2Y P n t d).length=cs.size:=by rw[hr.1];simp[Value.cells]
  refine .agg cs hlen.symm fun j hj=>?_;have hmem:(q2Y P n t d).getD j .undef∈q2Y P n t d:=by
   simp only[List.getD,List.getElem?_eq_getElem hj,Option.getD_some];exact List.getElem_mem hj
  have:=hr.2 j (by rw[←hr.1];exact hj);have e2:(Value.agg cs).cells.toList.getD j Go.undef=cs.getD j Go.undef:=by simp[Value.cells,List.getD,Array.getD_eq_getD_getElem?]
  rw[e2]at this;exact cell _ hmem _ this
 |false=>
  obtain⟨c,hc,_⟩:=q60 hp ha h;have hv:v.cells= #[v]:=by
   cases v with
   |agg cs=>exact absurd rfl (hform' ha cs)
   |_=>rfl
  rw[hc,hv]at hr;have:=hr.2 0 (by simp);rw[hc];exact cell c (by rw[hc];simp) v (by simpa using this)
def q42 (n:Int):V:=.int .i64 n
def xEd (b:Bool):V:=.bool b
def q4r (s:ByteArray):V:=.str s
def gL {α:Type} [Inhabited α] (enc:α→V) (xs:List α):Nat→V:=fun i=>enc (xs.getD i default)
def q0D {α:Type} [Inhabited α] (enc:α→V) (t:Nat) (xs:List α):V:=.sl xs.length (gL enc xs) t
def q2G:V→Int
 | .int _ n=>n
 |_=>0
def x4V:V→Bool
 | .bool b=>b
 |_=>false
def qRx:V→ByteArray
 | .str s=>s
 |_=>default
def q0K {α:Type} (dec:V→α):V→List α
 | .sl n g _=>(List.range n).map fun i=>dec (g i)
 |_=>[]
@[simp] theorem qQk (n:Int):q2G (q42 n)=n:=rfl
@[simp] theorem q67 (k:IntKind) (n:Int):q2G (.int k n)=n:=rfl
@[simp] theorem x14 (b:Bool):x4V (xEd b)=b:=rfl
@[simp] theorem q4x (b:Bool):x4V (.bool b)=b:=rfl
@[simp] theorem qRu (s:ByteArray):qRx (q4r s)=s:=rfl
@[simp] theorem q61 (s:ByteArray):qRx (.str s)=s:=rfl
theorem q1g {α:Type} [Inhabited α] {enc:α→V} {dec:V→α} (h:∀x,dec (enc x)=x) (t:Nat) (xs:List α):q0K dec (q0D enc t xs)=xs:=by
 unfold q0D q0K;refine List.ext_getElem (by simp) fun i h1 h2=>?_;simp[gL,h,h2]
@[simp] theorem x4D {α:Type} (dec:V→α):q0K dec .nil=[]:=rfl
theorem qRh {α:Type} [Inhabited α] {enc:α→V} {dec:V→α} (h:∀x,dec (enc x)=x) (t:Nat) (xs:List α) (n:Nat) (hn:n≤xs.length):q0K dec (.sl n (gL enc xs) t)=xs.take n:=by
 unfold q0K;refine List.ext_getElem (by simp;omega) fun i h1 h2=>?_;have:i<xs.length:=by simp at h1;omega
 simp[gL,h,this]
def q1n (t:Nat) (n:Int):V:=.ptr [.int .i64 n] 0 t
def q0h:V→Int
 | .ptr (c::_) _ _=>q2G c
 |_=>0
@[simp] theorem q6T (t:Nat) (n:Int):q0h (q1n t n)=n:=rfl
def tq (x:Bool):Prop:=x=true→x=true→x=true
@[simp] theorem xDf (x:Bool):tq x↔True:=⟨fun _=>trivial,fun _=>fun h _=>h⟩
def q8d {α:Type} [Inhabited α] (enc:α→V) (t:Nat) (xs:List α):V:=.ptr [q0D enc t xs] 0 t
def q3O {α:Type} (dec:V→α):V→List α
 | .ptr (c::_) _ _=>q0K dec c
 |_=>[]
theorem qOY {α:Type} [Inhabited α] {enc:α→V} {dec:V→α} (h:∀x,dec (enc x)=x) (t:Nat) (xs:List α):q3O dec (q8d enc t xs)=xs:=q1g h t xs
theorem x2Y {α:Type} [Inhabited α] (enc:α→V) (xs:List α) (i:Nat) (h:i<xs.length):gL enc xs i=enc xs[i]:=by simp[gL,h]
theorem q1u {α:Type} (l:List α) (i k:Nat) (x:α) {d:α} (h:k≠i):(l.set i x).getD k d=l.getD k d:=by
 simp[List.getElem?_set_ne (Ne.symm h)]
theorem q27 {α:Type} (l:List α) (i:Nat) (x d:α) (h:i<l.length):(l.set i x).getD i d=x:=by
 simp[h]
theorem qU7 {α:Type} [Inhabited α] {enc:α→V} {n:Nat} {g:Nat→V} {t t':Nat} {xs:List α} (hn:n=xs.length) (h:∀i (hi:i<xs.length),ELe (g i) (enc xs[i])) (ht:t'=t∨t'=0):VLe (.sl n g t) (q0D enc t' xs):=by
 subst hn;exact q96 (fun i hi=>by rw[x2Y _ _ _ hi];exact h i hi) ht
theorem q4i {α:Type} [Inhabited α] {enc:α→V} {n:Nat} {g:Nat→V} {t t':Nat} {xs:List α} (hn:n=xs.length) (h:∀i (hi:i<xs.length),g i=enc xs[i]) (ht:t'=t∨t'=0):VLe (.sl n g t) (q0D enc t' xs):=
 qU7 hn (fun i hi=>ELe.of_eq (h i hi)) ht
def vi (n:Int):V:=.int .i64 n
theorem qSA {α:Type} [Inhabited α] (enc:α→V) (t:Nat):VLe .nil (q0D enc t []):=q8D _ _
theorem q0I {k:IntKind} {a b:Int} (h:a=b):VLe (.int k a) (.int k b):=VLe.of_eq (by rw[h])
theorem q0Z {a b:Bool} (h:a=b):VLe (.bool a) (.bool b):=VLe.of_eq (by rw[h])
theorem q7i {a b:ByteArray} (h:a=b):VLe (.str a) (.str b):=VLe.of_eq (by rw[h])
def qYx:List V→List V→Prop
 |[],[]=>True
 |v::r,v'::r'=>PLe v v'∧qYx r r'
 |_,_=>False
theorem qYx.len:∀{a b:List V},qYx a b→b.length=a.length
 |[],[],_=>rfl
 |_::_,_::_,h=>by simp[h.2.len]
 |[],_::_,h=>h.elim
 |_::_,[],h=>h.elim
theorem qYx.at:∀{a b:List V},qYx a b→∀j,j<a.length→PLe (a.getD j .undef) (b.getD j .undef)
 |[],[],_,_,hj=>by simp at hj
 |_::_,_::_,h,0,_=>by simpa using h.1
 |_::_,_::_,h,j+1,hj=>by simpa using h.2.at j (by simpa using hj)
 |[],_::_,h,_,_=>h.elim
 |_::_,[],h,_,_=>h.elim
theorem qKz {v v':V} (h:qYx v.cells v'.cells):ELe v v':=⟨h.len,h.at⟩
@[simp] theorem x4L (v:V):VLe v v↔True:=⟨fun _=>trivial,fun _=>VLe.refl v⟩
def w0:World:={ heap:= #[],tape:=fun _ _=>0,drawn:=0,output:= #[],os:=default }
theorem qGI {v v':V} {x:Value} (h:VLe v v') (hv:q0e w0 (fun _ _=>False) (fun _=>none) v x):q0e w0 (fun _ _=>False) (fun _=>none) v' x:=
 h.le _ _ _ _ (fun _ h=>h) (fun _ _ h=>h) hv
@[simp] theorem qV2 {a b:Bool}:VLe (.bool a) (.bool b)↔a=b:=⟨fun h=>by
 have:=q52 (qGI h (.atom rfl (.bool _)));cases this;rfl,q0Z⟩
@[simp] theorem qWe {k:IntKind} {a b:Int}:VLe (.int k a) (.int k b)↔a=b:=⟨fun h=>by
 have:=q31 (qGI h (.atom rfl (.int _ _)));cases this;rfl,q0I⟩
@[simp] theorem qVf {a b:ByteArray}:VLe (.str a) (.str b)↔a=b:=⟨fun h=>by
 have:=q5W (qGI h (.atom rfl (.str _)));cases this;rfl,q7i⟩
theorem q66 {α:Type} [Inhabited α] {enc:α→V} {sz n:Nat} {h:Nat→V} {te:Nat} {xs:List α} {x:α} (hn:xs.length=n) (hx:h 0=enc x):
  BLe (.arr sz (n+1) (q3K n (gL enc xs) h) te) (.arr sz (n+1) (gL enc (xs++[x])) te):=by
 refine q1P (fun k hk=>ELe.of_eq ?_) (Or.inl rfl);simp only[q3K,gL];by_cases hk':k<n
 ·rw[if_pos hk'];have:k<xs.length:=by omega
  simp[List.getElem?_append_left this]
 ·have hk0:k=n:=by omega
  subst hk0;rw[if_neg (Nat.lt_irrefl _),Nat.sub_self,hx];subst hn;simp
def CLe (v v':V):Prop:=PLe v v'∧VLe v v'
theorem CLe.refl (v:V):CLe v v:=⟨PLe.refl v,VLe.refl v⟩
def qIn:List V→List V→Prop
 |[],[]=>True
 |v::r,v'::r'=>CLe v v'∧qIn r r'
 |_,_=>False
theorem qIn.append:∀{a a' b b':List V},qIn a a'→qIn b b'→qIn (a++b) (a'++b')
 |[],[],_,_,_,h=>h
 |_::_,_::_,_,_,h,h'=>⟨h.1,h.2.append h'⟩
 |[],_::_,_,_,h,_=>h.elim
 |_::_,[],_,_,h,_=>h.elim
theorem qIn.vles:∀{a b:List V},qIn a b→qSi a b
 |[],[],_=>trivial
 |_::_,_::_,h=>⟨h.1.2,h.2.vles⟩
 |[],_::_,h=>h.elim
 |_::_,[],h=>h.elim
theorem qIn.len:∀{a b:List V},qIn a b→b.length=a.length
 |[],[],_=>rfl
 |_::_,_::_,h=>by simp[h.2.len]
 |[],_::_,h=>h.elim
 |_::_,[],h=>h.elim
theorem qIn.at:∀{a b:List V},qIn a b→∀j,j<a.length→PLe (a.getD j .undef) (b.getD j .undef)
 |[],[],_,_,hj=>by simp at hj
 |_::_,_::_,h,0,_=>by simpa using h.1.1
 |_::_,_::_,h,j+1,hj=>by simpa using h.2.at j (by simpa using hj)
 |[],_::_,h,_,_=>h.elim
 |_::_,[],h,_,_=>h.elim
theorem qIn.ele {v v':V} (h:qIn v.cells v'.cells):ELe v v':=⟨h.len,h.at⟩
structure Tyd {α:Type} (P:Program) (n t:Nat) (agg:Bool) (enc:α→V) (bd:α→Prop):Prop where
 ag:qGR P t=agg
 form:agg=false→∀x l,enc x≠.agg l
 form':agg=true→∀x,∃l,enc x=.agg l
 tyd:∀{H:Type} {en:TypeId×Value→H} {w:World} {base:Nat} {sp:Nat→Bool} {held:Bool} {fuel:Nat} {cs:List Value} {d:DataW H} {ps:List MemPlace},
  DataW.trod en P w base sp held fuel t cs=some (d,ps)→∃x,bd x∧qIn (q2Y P n t d) (enc x).cells
theorem q45 {P:Program} {n t:Nat} {k:IntKind} (hu:P.underlying t=some (.int k)):Tyd P (n+1) t false (fun x:Int=>.int k x) (fun x=>(Lit.int k x).wf=true) where
 ag:=by simp[qGR,hu,q5I]
 form:=fun _ x l h=>by cases h
 form':=fun h=>by cases h
 tyd:=fun{H en w base sp held fuel cs d ps} h=>by
  cases fuel with
  |zero=>simp[DataW.trod]at h
  |succ fuel=>
   obtain⟨m,rfl,hd⟩:=qKV hu h;simp only at hd;subst hd;unfold DataW.trod at h;simp only[hu]at h;split at h
   ·rename_i hw;refine⟨m,hw.2,?_⟩;simp only[q2Y,hu];exact⟨CLe.refl _,trivial⟩
   ·simp at h
theorem qL4 {P:Program} {n t:Nat} (hu:P.underlying t=some .bool):Tyd P (n+1) t false xEd (fun _=>True) where
 ag:=by simp[qGR,hu,q5I]
 form:=fun _ x l h=>by cases h
 form':=fun h=>by cases h
 tyd:=fun{H en w base sp held fuel cs d ps} h=>by
  cases fuel with
  |zero=>simp[DataW.trod]at h
  |succ fuel=>
   obtain⟨m,rfl,hd⟩:=qIF hu h;simp only at hd;subst hd;refine⟨m,trivial,?_⟩;simp only[q2Y,hu];exact⟨CLe.refl _,trivial⟩
theorem qJ9 {P:Program} {n t:Nat} (hu:P.underlying t=some .string):Tyd P (n+1) t false q4r (fun s=>s.size≤maxLen) where
 ag:=by simp[qGR,hu,q5I]
 form:=fun _ x l h=>by cases h
 form':=fun h=>by cases h
 tyd:=fun{H en w base sp held fuel cs d ps} h=>by
  cases fuel with
  |zero=>simp[DataW.trod]at h
  |succ fuel=>
   obtain⟨m,rfl,hd⟩:=qDk hu h;simp only at hd;subst hd;have hm:m.size≤maxLen:=by
    unfold DataW.trod at h;simp only[hu]at h;split at h
    ·assumption
    ·simp at h
   refine⟨m,hm,?_⟩;simp only[q2Y,hu];exact⟨CLe.refl _,trivial⟩
theorem qCO {α:Type} [Inhabited α] {p:Nat→α→Prop}:∀(n:Nat),(∀i,i<n→∃x,p i x)→∃xs:List α,xs.length=n∧∀i (hi:i<xs.length),p i xs[i]
 |0,_=>⟨[],rfl,fun i hi=>by simp at hi⟩
 |n+1,h=>by
  obtain⟨xs,hl,hx⟩:=qCO n fun i hi=>h i (by omega);obtain⟨x,hp⟩:=h n (by omega);refine⟨xs++[x],by simp[hl],fun i hi=>?_⟩;rcases Nat.lt_or_ge i xs.length with h1|h1
  ·rw[List.getElem_append_left h1];exact hx i h1
  ·have:i=n:=by simp at hi;omega
   subst this;subst hl;simpa using hp
theorem q9k {α:Type} [Inhabited α] {P:Program} {n t e:Nat} {agg:Bool} {enc:α→V} {bd:α→Prop} (hu:P.underlying t=some (.slice e)) (hp:q7v P n e=true) (h:Tyd P n e agg enc bd):
  Tyd P (n+1) t false (q0D enc 1) (fun xs=>xs.length≤maxLen∧∀x∈xs,bd x) where
 ag:=by simp[qGR,hu,q5I]
 form:=fun _ x l h=>by cases h
 form':=fun h=>by cases h
 tyd:=fun{H en w base sp held fuel cs d ps} ht=>by
  cases fuel with
  |zero=>simp[DataW.trod]at ht
  |succ fuel=>
   rcases Go.Deep.open_slice hu ht with⟨rfl,hx⟩|⟨a,len,cap,m,n',D,Pl,rfl,hb,hlc,hcm,hm,hx,hi⟩
   ·cases hx;refine⟨[],⟨by simp,fun x hx=>by simp at hx⟩,?_⟩;simp only[q2Y,hu];exact⟨⟨qXe _ _,q8D _ _⟩,trivial⟩
   ·cases hx;have hle:len≤m:=by rw[hm];split<;>omega
    have key:∀i,i<len→∃x,bd x∧ELe (qB6 (qGR P e) (q2Y P n e (D i))) (enc x):=by
     intro i hi';obtain⟨cs',_,htr⟩:=hi i (by omega);obtain⟨x,hbx,hc⟩:=h.tyd htr;refine⟨x,hbx,qIn.ele ?_⟩;rw[qCk fun ha=>q60 hp ha htr];exact hc
    obtain⟨xs,hl,hxs⟩:=qCO len key;refine⟨xs,⟨by omega,fun x hx=>?_⟩,?_⟩
    ·obtain⟨i,hi',rfl⟩:=List.getElem_of_mem hx;exact(hxs i hi').1
    ·simp only[q2Y,hu,List.length_map,List.length_range,q0D,V.cells];have hel:∀i,i<len→ELe (qB6 (qGR P e) (q2Y P n e (((List.range len).map D).getD i .nil))) (gL enc xs i):=by
      intro i hi';have e1:((List.range len).map D).getD i .nil=D i:=by simp[List.getD,hi']
      rw[e1,x2Y _ _ _ (by omega)];exact(hxs i (by omega)).2
     rw[hl];exact⟨⟨qUI hel,q96 hel (Or.inl rfl)⟩,trivial⟩
structure x4S {β:Type} (P:Program) (n:Nat) (fs:List Field) (cells:β→List V) (bd:β→Prop):Prop where
 tyd:∀{H:Type} {en:TypeId×Value→H} {w:World} {base:Nat} {sp:Nat→Bool} {held:Bool} {fuel:Nat} {cs:List Value} {xs:List (DataW H×List MemPlace)},
  (fs.mapM fun f=>DataW.trod en P w base sp held fuel f.type ((cs.drop f.offset).take (P.cellsOf f.type)))=some xs→∃x,bd x∧qIn ((fs.zip (xs.map (·.1))).flatMap fun p=>q2Y P n p.1.type p.2) (cells x)
theorem q7M {P:Program} {n:Nat}:x4S (β:=Unit) P n [] (fun _=>[]) (fun _=>True) where
 tyd:=fun h=>by
  simp at h;subst h;exact⟨(),trivial,trivial⟩
theorem q1T {α β:Type} {P:Program} {n:Nat} {f:Field} {fs:List Field} {agg:Bool} {enc:α→V} {bd:α→Prop} {cells:β→List V} {bd':β→Prop} (h:Tyd P n f.type agg enc bd) (h':x4S P n fs cells bd'):
  x4S P n (f::fs) (fun x:α×β=>(enc x.1).cells++cells x.2) (fun x=>bd x.1∧bd' x.2) where
 tyd:=fun{H en w base sp held fuel cs xs} hm=>by
  rw[List.mapM_cons]at hm;cases ha:DataW.trod en P w base sp held fuel f.type ((cs.drop f.offset).take (P.cellsOf f.type))with
  |none=>rw[ha]at hm;simp at hm
  |some y=>
   cases hr:(fs.mapM fun f=>DataW.trod en P w base sp held fuel f.type ((cs.drop f.offset).take (P.cellsOf f.type)))with
   |none=>rw[ha,hr]at hm;simp at hm
   |some ys=>
    rw[ha,hr]at hm;simp at hm;subst hm;obtain⟨x,hx,hc⟩:=h.tyd ha;obtain⟨x',hx',hc'⟩:=h'.tyd hr;refine⟨(x,x'),⟨hx,hx'⟩,?_⟩;simp only[List.map_cons,List.zip_cons_cons,List.flatMap_cons];exact hc.append hc'
theorem q5S {α β:Type} {P:Program} {n t:Nat} {fs:Array Field} {enc:α→V} {bd:α→Prop} {cells:β→List V} {bd':β→Prop} (hu:P.underlying t=some (.struct fs)) (h:x4S P n fs.toList cells bd') (mk:β→α)
  (he:∀y,enc (mk y)=.agg (cells y)) (hb:∀y,bd' y→bd (mk y)) (hf:∀x,∃l,enc x=.agg l):Tyd P (n+1) t true enc bd where
 ag:=by simp[qGR,hu,q5I]
 form:=fun h=>by cases h
 form':=fun _=>hf
 tyd:=fun{H en w base sp held fuel cs d ps} ht=>by
  cases fuel with
  |zero=>simp[DataW.trod]at ht
  |succ fuel=>
   obtain⟨hl,xs,hd,hm⟩:=qDC hu ht;simp only at hd;subst hd;obtain⟨y,hy,hc⟩:=h.tyd hm;refine⟨mk y,hb y hy,?_⟩;simp only[q2Y,hu,he];exact hc
theorem Tyd.arg {α:Type} {P:Program} {n t:Nat} {agg:Bool} {enc:α→V} {bd:α→Prop} (h:Tyd P n t agg enc bd) (hp:q7v P n t=true) {H:Type} {en:TypeId×Value→H} {w:World} {base:Nat} {sp:Nat→Bool} {held:Bool} {v:Value} {d:DataW H} {ps:List MemPlace}
  (ht:DataW.Trod en P w base sp held t v d ps):∃x,bd x∧VLe (argD P n t d) (enc x):=by
 obtain⟨fuel,ht⟩:=ht;obtain⟨x,hx,hc⟩:=h.tyd ht;refine⟨x,hx,?_⟩;unfold argD;cases agg with
 |true=>
  obtain⟨l,hl⟩:=h.form' rfl x;rw[hl]at hc⊢;rw[h.ag];exact q21 hc.vles
 |false=>
  rw[h.ag];obtain⟨c,hcc,_⟩:=q60 hp h.ag ht;have:(enc x).cells=[enc x]:=by
   cases he:enc x<;>first|rfl|exact absurd he (h.form rfl x _)
  rw[hcc,this]at hc;rw[hcc];exact hc.1.2
theorem qCN {P:Program} {w:World} {r:Reach} {base t:Nat} {v:Value} (h:Value.okWide P w r base t v):(qGR P t=true→∃cs,v=.agg cs)∧(qGR P t=false→∀cs,v≠.agg cs):=by
 unfold Value.okWide at h;unfold qGR;cases hu:P.underlying t with
 |none=>
  rw[hu]at h;refine⟨fun h'=>by simp at h',fun _ cs hv=>?_⟩;subst hv;simp[Cell.okWide,Cell.ok,hu]at h
 |some d=>
  rw[hu]at h;cases d with
  |struct fs=>
   obtain⟨cs,rfl,_⟩:=h;exact⟨fun _=>⟨cs,rfl⟩,fun h'=>by simp[q5I]at h'⟩
  |array n e=>
   obtain⟨cs,rfl,_⟩:=h;exact⟨fun _=>⟨cs,rfl⟩,fun h'=>by simp[q5I]at h'⟩
  |_=>
   refine⟨fun h'=>by simp[q5I]at h',fun _ cs hv=>?_⟩;subst hv;simp[Cell.okWide,Cell.ok,hu]at h
theorem law_arg {H:Type} {enc:TypeId×Value→H} {P:Program} {w:World} {base base':Nat} {sp:Nat→Bool} {held:Bool} {t:Nat} (hp:q7v P 9 t=true) {r:Reach} {v:Value} {d:DataW H} {ps:List MemPlace}
  (hw:Value.okWide P w r base' t v) (h:DataW.Trod enc P w base sp held t v d ps):q0e w (qNL w) (fun _=>none) (argD P 9 t d) v:=
 qVt hp h (qCN hw).1 (qCN hw).2
def xDS (Q:List V→Prop):q0P:=fun args bin=>match bin with
 |[]=>some (Q args,.bool true,[])
 |_::_=>none
theorem q04 {P:Program}:q0C P (lk ([]:List (Nat×(Fl×q0P)))):=fun f b S h=>by simp[lk]at h
theorem q02 {P:Program} {f:Nat} {b:Fl} {S:q0P} {l:List (Nat×(Fl×q0P))} (h:qV1 P b f S) (hl:q0C P (lk l)):q0C P (lk ((f,(b,S))::l)):=fun f' b' S' h'=>by
 simp only[lk]at h';split at h'
 ·rename_i hk;have:=q0y.1 hk;subst this;cases h';exact h
 ·exact hl f' b' S' h'
theorem q3y {α:Type} (dec:V→α) (n:Nat) (g:Nat→V) (t:Nat):(q0K dec (.sl n g t)).length=n:=by simp[q0K]
theorem q6m {α:Type} [Inhabited α] {dec:V→α} {enc:α→V} {sz n:Nat} {g:Nat→V} (h:∀i,i<n→ELe (g i) (gL enc (q0K dec (.sl n g 1)) i)):
  BLe (.arr sz n g q0l) (.arr sz (q0K dec (.sl n g 1)).length (gL enc (q0K dec (.sl n g 1))) q0l):=by
 rw[q3y];exact q1P h (Or.inl rfl)
end Go.Av
