/- The proof's texts, joined, without what the row does not reach: part 5. -/
import Derived.Test.YtognmcollmdbpaaGreatDoorZb4
namespace Go.Av
open Go.Proofs
set_option maxRecDepth 100000
set_option maxHeartbeats 8000000
set_option linter.unusedVariables false
set_option linter.unusedSimpArgs false
theorem q5z {α:Type} [Inhabited α] {e:α→V} {t:Nat} {l:List α}:VLe (q0D e t l) (q0D e 0 l):=q96 (fun _ _=>ELe.refl _) (.inr rfl)
theorem q9y {L:List q0U} {m:q0U} {v:V} {n:Nat} (hn:n=L.length) (hv:v=q09 1 m):VLe (.sl (n+1) (q3K n (gL (q09 1) L) (q3C [v])) 0) (q0D (q09 1) 0 (L++[m])):=by
 subst hn hv;unfold q0D;rw[List.length_append,List.length_singleton];refine q96 (fun i hi=>ELe.of_eq ?_) (.inl rfl);unfold q3K gL;by_cases h:i<L.length
 ·rw[if_pos h];congr 1;simp[h,List.getElem?_append_left]
 ·have e:i=L.length:=by omega
  have e2:(L++[m]).getD L.length default=m:=by simp
  rw[if_neg h,e,Nat.sub_self,e2];rfl
theorem qVJ {s:q06} {c n:Int} (h:0≤q72 s.marks c n):q72 s.marks c n<s.marks.length:=
 (qAq (qBw c n) s.marks).elim id fun k=>absurd (show q72 s.marks c n=-1 from k) (by omega)
theorem qC7 {s:q06} (h:q1a s=0):q1A s.nodes=0∧q1q s.sessions=0∧inR s.now 0 9000∧s.marks.length≤40:=by
 unfold q1a at h;split at h
 ·exact absurd h (by assumption)
 split at h
 ·exact absurd h (by assumption)
 split at h
 ·cases h
 split at h
 ·cases h
 ·rename_i a1 a2 a3 a4;exact⟨Classical.not_not.1 a1,Classical.not_not.1 a2,Classical.not_not.1 a3,by omega⟩
theorem qIT {l:List q07} {now:Int} {i:Nat} (h:i<l.length) (h2:now≤(l.getD i default).upto):q1M (l.take (i+1)) now=q1M (l.take i) now++[l.getD i default]∧q29 (l.take (i+1)) now=q29 (l.take i) now:=by
 unfold q1M q29;rw[q48 h,List.filter_append,List.filter_append];refine⟨?_,?_⟩
 ·rw[List.filter_cons_of_pos (p:=fun s:q07=>decide (now≤s.upto)) (decide_eq_true h2)];rfl
 ·rw[List.filter_cons_of_neg (p:=fun s:q07=> !decide (now≤s.upto)) (show¬(!decide (now≤(l.getD i default).upto))=true by rw[decide_eq_true h2];decide),List.filter_nil,List.append_nil]
theorem qLb {l:List q07} {now:Int} {i:Nat} (h:i<l.length) (h2:¬now≤(l.getD i default).upto):q1M (l.take (i+1)) now=q1M (l.take i) now∧q29 (l.take (i+1)) now=q29 (l.take i) now++[(l.getD i default).id]:=by
 unfold q1M q29;rw[q48 h,List.filter_append,List.filter_append];refine⟨?_,?_⟩
 ·rw[List.filter_cons_of_neg (p:=fun s:q07=>decide (now≤s.upto)) (show¬decide (now≤(l.getD i default).upto)=true by rw[decide_eq_false h2];decide),List.filter_nil,List.append_nil]
 ·rw[List.filter_cons_of_pos (p:=fun s:q07=> !decide (now≤s.upto)) (show(!decide (now≤(l.getD i default).upto))=true by rw[decide_eq_false h2];rfl),List.map_append];rfl
theorem qLc {n:Int}:q13 1 1 (q3C [.int .i64 n]):=fun k hk=>by
 have:k=0:=by omega
 subst this;exact⟨rfl,rfl⟩
theorem qSd {l:List q07} {i:Nat} {g:Nat→V} {z:q07} (h:g i=q00 1 z) (ho:∀j,j≠i→g j=gL (q00 1) l j):VLe (.sl l.length g 2) (q0D (q00 1) 2 (l.set i z)):=by
 have en:(l.set i z).length=l.length:=List.length_set;unfold q0D;rw[en];refine q96 (fun j hj=>ELe.of_eq ?_) (.inl rfl);by_cases e:j=i
 ·subst e;rw[h];simp only[gL];rw[q27 _ _ _ _ hj]
 ·rw[ho j e];simp only[gL];rw[q1u _ _ _ _ e]
theorem qKE {l:List q07} {id now:Int} (h:(!q6c l id now)=true):q44 l id now=⟨9,[]⟩:=by
 unfold q44;rw[if_neg (by simpa using h)]
theorem qIj {l:List q07} {id now:Int} (h:(!q6c l id now)=false):q44 l id now=⟨0,l.set (sAt l id).toNat ⟨(l.getD (sAt l id).toNat default).id,now+10⟩⟩∧0≤sAt l id∧(sAt l id).toNat<l.length:=by
 have h1:q6c l id now=true:=by simpa using h
 have h2:=(of_decide_eq_true h1).1;unfold q44;rw[if_pos h1];exact⟨rfl,h2,qUj h2⟩
theorem qZb {x:q12} (h:x=⟨9,[]⟩):VLe (.agg [.int .i64 9,.nil]) (q1j 2 x):=by
 rw[h];exact q21 ⟨VLe.refl _,q8D _ _,trivial⟩
theorem xEv {x:q12} {l:List q07} {n:Nat} {g:Nat→V} {i:Nat} {z:q07} (h:x=⟨0,l.set i z⟩) (hn:n=l.length) (h1:g i=q00 1 z) (ho:∀j,j≠i→g j=gL (q00 1) l j):
  VLe (.agg [.int .i64 0,.sl n g 2]) (q1j 2 x):=by
 subst hn;rw[h];exact q21 ⟨VLe.refl _,qSd h1 ho,trivial⟩
theorem qHe (l:List q07) (now:Int) (i:Nat):(q1M (l.take i) now).length≤i∧(q29 (l.take i) now).length≤i:=by
 have h:(q1M (l.take i) now).length≤(l.take i).length:=List.length_filter_le _ _;have h2:(q29 (l.take i) now).length≤(l.take i).length:=by
  unfold q29;rw[List.length_map];exact List.length_filter_le _ _
 rw[List.length_take]at h h2;omega
def qWW (a:Int) (b:Int):Prop:=True
noncomputable def x29 (a:Int) (b:Int):V:=.int .i64 (max a b)
noncomputable def qXO:q0P:=fun args bin=>match args,bin with
 |[.int .i64 a0,.int .i64 a1],[]=>some (qWW a0 a1,x29 a0 a1,[])
 |_,_=>none
noncomputable def xD8:=lkR []
theorem xAm:q0C Tryz.prog xD8:=q04
noncomputable def xBW (a:Int) (b:Int):=cxN xD8 Tryz.f215 [0,1,4,7]
theorem xAv (a:Int) (b:Int) (hpre:qWW a b):q0d (xBW a b) Tryz.f215 0 [.int .i64 (a),.int .i64 (b)] (fun rr=>VLe rr (x29 a b)):=by
 have key:(decide (a>b)=true→VLe (vi a) (vi (max a b)))∧(decide (a>b)=false→VLe (vi b) (vi (max a b))):=by
  delta vi;refine⟨fun h=>q0I ?_,fun h=>q0I ?_⟩
  ·have:=of_decide_eq_true h;omega
  ·have:=of_decide_eq_false h;omega
 exact Eq.mp (by kernel_rfl) key
theorem xC2:q0R Tryz.prog 215 qXO:=by
 refine sob 0 Tryz.func215 fun args bin ob r bout hDe hob=>?_;unfold qXO at hDe;split at hDe
 ·rename_i a0 a1;cases hDe;exact okB (xAv a0 a1 (hob)) xAm (args_of_vles ⟨VLe.refl _,VLe.refl _,trivial⟩)
 ·cases hDe
def qY4 (l:List q07) (now:Int):Prop:=l.length≤1000
noncomputable def x3k (l:List q07) (now:Int):V:=.tup [q0D (q00 1) 2 (q1M l now),q0D q42 2 (q29 l now)]
noncomputable def qYd:q0P:=fun args bin=>match args,bin with
 |[a0,.int .i64 a1],[]=>some (VLe a0 (q0D (q00 1) 1 (((q0K q05) a0)))∧qY4 ((q0K q05) a0) a1,x3k ((q0K q05) a0) a1,[])
 |_,_=>none
noncomputable def qWn (l:List q07) (now:Int):q0M:=
 ⟨Nat,fun i=>⟨[(0,q0D (q00 1) 1 l),(1,.int .i64 now),(6,.osl (q25 6) (q1M (l.take i) now).length),(7,.osl (q25 7) (q29 (l.take i) now).length),(8,.int .i64 i)],[(q25 6,.arr 2 (q1M (l.take i) now).length (gL (q00 1) (q1M (l.take i) now)) q0l),(q25 7,.arr 1 (q29 (l.take i) now).length (gL q42 (q29 (l.take i) now)) q0l)]⟩,
  fun i=>i≤l.length,fun i=>l.length-i⟩
noncomputable def xBn (l:List q07) (now:Int):Nat→Option q0M:=fun rg_=>match rg_ with
 |4=>some (qWn l now)
 |_=>none
noncomputable def xEy:=lkR []
theorem xAr:q0C Tryz.prog xEy:=q04
noncomputable def x66 (l:List q07) (now:Int):=cxL xEy Tryz.f216 [0,1,4,5,6,7,8,14,23] [(4,⟨[(0,none),(1,none),(6,some 2),(7,some 1),(8,none)],[]⟩)] (xBn l now) []
noncomputable def qOm (l:List q07) (now:Int) (y:Nat):AS:=AS.mk [(q38 l),(1,vi now),(6,V.osl 32000448 (q1M (List.take y l) now).length),(7,V.osl 32000512 (q29 (List.take y l) now).length),(8,vi (↑y:Int))] [(32000448,Blk.arr 2 (q1M (List.take y l) now).length (gL (q00 1) (q1M (List.take y l) now)) 100),(32000512,Blk.arr 1 (q29 (List.take y l) now).length (gL q42 (q29 (List.take y l) now)) 100)]
def qLu (l:List q07) (x:Nat):Prop:=0≤(↑x:Int)∧(↑x:Int)<(↑ l.length:Int)
noncomputable def q7t (l:List q07) (now:Int) (x:Nat):Nat:=(q1M (List.take x l) now).length
noncomputable def q7s (l:List q07) (now:Int) (x:Nat):Nat:=(q29 (List.take x l) now).length
theorem x6E (l:List q07) (now:Int) (hpre:qY4 l now):q0d (x66 l now) Tryz.f216 1 [q0D (q00 1) 1 (l),.int .i64 (now)] (fun rr=>VLe rr (x3k l now)):=by
 have key:((∃x:Nat,SLe (AS.mk [(q38 l),(1,vi now),(6,V.osl 32000448 0),(7,V.osl 32000512 0),(8,vi 0)] [(32000448,Blk.arr 2 0 (q3C []) 100),(32000512,Blk.arr 1 0 (q3C []) 100)]) (AS.mk [(q38 l),(1,vi now),(6,V.osl 32000448 (q7t l now x)),(7,V.osl 32000512 (q7s l now x)),(8,vi (↑x:Int))] [(32000448,Blk.arr 2 (q7t l now x) (gL (q00 1) (q1M (List.take x l) now)) 100),(32000512,Blk.arr 1 (q7s l now x) (gL q42 (q29 (List.take x l) now)) 100)])∧x≤l.length)∧∀x:Nat,x≤l.length→(decide ((↑x:Int)<(↑ l.length:Int))=true→qLu l x∧(decide ((l.getD (q26 x) default).upto≥now)=true→qLu l x∧(q1M (List.take x l) now).length=(q1M (List.take x l) now).length∧(q1M (List.take x l) now).length+1≤1073741824∧q13 2 1 (q3C [q00 1 (l.getD (q26 x) default)])∧(inK IntKind.i64 ((↑x:Int)+1)∧∃y:Nat,SLe (AS.mk [(q38 l),(1,vi now),(6,V.osl 32000448 ((q1M (List.take x l) now).length+1)),(7,V.osl 32000512 (q7s l now x)),(8,vi ((↑x:Int)+1))] [(32000448,Blk.arr 2 ((q1M (List.take x l) now).length+1) (q3K (q7t l now x) (gL (q00 1) (q1M (List.take x l) now)) (q3C [q00 1 (l.getD (q26 x) default)])) 100),(32000512,Blk.arr 1 (q7s l now x) (gL q42 (q29 (List.take x l) now)) 100)]) (qOm l now y)∧y≤l.length∧l.length-y<l.length-x))∧(decide ((l.getD (q26 x) default).upto≥now)=false→qLu l x∧(q29 (List.take x l) now).length=(q29 (List.take x l) now).length∧(q29 (List.take x l) now).length+1≤1073741824∧q13 1 1 (q3C [vi (l.getD (q26 x) default).id])∧(inK IntKind.i64 ((↑x:Int)+1)∧∃y:Nat,SLe (AS.mk [(q38 l),(1,vi now),(6,V.osl 32000448 (q7t l now x)),(7,V.osl 32000512 ((q29 (List.take x l) now).length+1)),(8,vi ((↑x:Int)+1))] [(32000448,Blk.arr 2 (q7t l now x) (gL (q00 1) (q1M (List.take x l) now)) 100),(32000512,Blk.arr 1 ((q29 (List.take x l) now).length+1) (q3K (q7s l now x) (gL q42 (q29 (List.take x l) now)) (q3C [vi (l.getD (q26 x) default).id])) 100)]) (qOm l now y)∧y≤l.length∧l.length-y<l.length-x)))∧(decide ((↑x:Int)<(↑ l.length:Int))=false→VLe (V.tup [q0D (q00 1) 2 (q1M (List.take x l) now),q0D q42 2 (q29 (List.take x l) now)]) (V.tup [q0D (q00 1) 2 (q1M l now),q0D q42 2 (q29 l now)]))):=by
  delta q7s;delta q7t;delta q26;delta qLu;delta qOm;delta q38;delta vi;have hl:l.length≤1000:=hpre;refine⟨⟨0,q1Q ⟨rfl,VLe.refl _,rfl,VLe.refl _,rfl,VLe.refl _,rfl,VLe.refl _,rfl,VLe.refl _,trivial⟩ ⟨rfl,q3G _,rfl,q3G _,trivial⟩,by omega⟩,fun i hi=>⟨fun h=>?_,fun h=>?_⟩⟩
  ·have hlt:i<l.length:=by simpa using h
   have hn:=qHe l now i;simp only[Int.toNat_natCast];refine⟨⟨by omega,by omega⟩,fun h2=>⟨⟨by omega,by omega⟩,trivial,by omega,q5e rfl rfl,q0X (by omega),i+1,?_,by omega,by omega⟩,fun h2=>⟨⟨by omega,by omega⟩,trivial,by omega,qLc,q0X (by omega),i+1,?_,by omega,by omega⟩⟩
   ·have g:=qIT hlt (of_decide_eq_true h2);rw[g.1,g.2,List.length_append,List.length_singleton];exact q1Q ⟨rfl,VLe.refl _,rfl,VLe.refl _,rfl,VLe.refl _,rfl,VLe.refl _,rfl,q0I (by omega),trivial⟩ ⟨rfl,q66 rfl rfl,rfl,BLe.refl _,trivial⟩
   ·have g:=qLb hlt (of_decide_eq_false h2);rw[g.1,g.2,List.length_append,List.length_singleton];exact q1Q ⟨rfl,VLe.refl _,rfl,VLe.refl _,rfl,VLe.refl _,rfl,VLe.refl _,rfl,q0I (by omega),trivial⟩ ⟨rfl,BLe.refl _,rfl,q66 rfl rfl,trivial⟩
  ·have hge:i=l.length:=by simp at h;omega
   subst hge;rw[List.take_length];exact VLe.refl _
 exact Eq.mp (by kernel_rfl) key
theorem x7Z:q0R Tryz.prog 216 qYd:=by
 refine sob 1 Tryz.func216 fun args bin ob r bout hDe hob=>?_;unfold qYd at hDe;split at hDe
 ·rename_i a0 a1;cases hDe;exact okB (x6E ((q0K q05) a0) a1 (hob.2)) xAr (args_of_vles ⟨hob.1,VLe.refl _,trivial⟩)
 ·cases hDe
def qXZ (l:List q07) (id:Int) (now:Int):Prop:=l.length≤1000∧inR now 0 9000
noncomputable def qZi (l:List q07) (id:Int) (now:Int):V:=q1j 2 (q44 l id now)
noncomputable def qXN:q0P:=fun args bin=>match args,bin with
 |[a0,.int .i64 a1,.int .i64 a2],[]=>some (VLe a0 (q0D (q00 1) 1 (((q0K q05) a0)))∧qXZ ((q0K q05) a0) a1 a2,qZi ((q0K q05) a0) a1 a2,[])
 |_,_=>none
noncomputable def xES:=lkR [(194,qTs),(248,qOS)]
theorem x79:q0C Tryz.prog xES:=q02 x2L (q02 qYU (q04))
noncomputable def xAR (l:List q07) (id:Int) (now:Int):=cxN xES Tryz.f218 [0,1,2,6,7,12]
theorem xAX (l:List q07) (id:Int) (now:Int) (hpre:qXZ l id now):q0d (xAR l id now) Tryz.f218 1 [q0D (q00 1) 1 (l),.int .i64 (id),.int .i64 (now)] (fun rr=>VLe rr (qZi l id now)):=by
 have key:(VLe (q0D (q00 1) 1 l) (q0D (q00 1) 1 (q0F l))∧qSM (q0F l) id now)∧((!q6c (q0F l) id now)=true→VLe (V.agg [vi 9,V.nil]) (q1j 2 (q44 l id now)))∧((!q6c (q0F l) id now)=false→0=0∧0+l.length≤1073741824∧q13 2 l.length (gL (q00 1) l)∧(∀i:Nat,i<l.length→q86 (q00 1 (l.getD i default))=true)∧(VLe (q0D (q00 1) 1 l) (q0D (q00 1) 1 (q0F l))∧qQy (q0F l) id)∧inK IntKind.i64 (now+10)∧((0:Int)≤sAt (q0F l) id∧sAt (q0F l) id<(↑ (0+l.length):Int))∧(sAt (q0F l) id).toNat<0+l.length∧VLe (V.agg [vi 0,V.sl (0+l.length) (q65 (q3K 0 (q3C []) (gL (q00 1) l)) (sAt (q0F l) id).toNat (V.agg [vi (l.getD ((sAt (q0F l) id).toNat-0) default).id,vi (now+10)])) 2]) (q1j 2 (q44 l id now))):=by
  delta q0F;delta vi;obtain⟨hl,hn⟩:=hpre;unfold inR at hn;have hm:l.length≤maxLen:=by unfold maxLen;omega
  simp only[q0p];refine⟨⟨VLe.refl _,hm⟩,fun h=>qZb (qKE h),fun h=>?_⟩;obtain⟨h1,h2,h3⟩:=qIj h;refine⟨trivial,by omega,fun k hk=>⟨rfl,rfl⟩,fun k hk=>rfl,⟨VLe.refl _,hm⟩,q0X (by omega),⟨h2,by omega⟩,by omega,xEv h1 (Nat.zero_add _) ?_ fun j e=>?_⟩
  ·simp[q2F,q00]
  ·simp[q2F,e,qLx]
 exact Eq.mp (by kernel_rfl) key
theorem x8u:q0R Tryz.prog 218 qXN:=by
 refine sob 1 Tryz.func218 fun args bin ob r bout hDe hob=>?_;unfold qXN at hDe;split at hDe
 ·rename_i a0 a1 a2;cases hDe;exact okB (xAX ((q0K q05) a0) a1 a2 (hob.2)) x79 (args_of_vles ⟨hob.1,VLe.refl _,VLe.refl _,trivial⟩)
 ·cases hDe
def qKu (l:List q0A) (ids:List Int):Prop:=l.length≤1000∧ids.length≤1000
noncomputable def qUa (l:List q0A) (ids:List Int):V:=q0D (q01 1) 2 (q2A l ids)
noncomputable def qKK:q0P:=fun args bin=>match args,bin with
 |[a0,a1],[]=>some (VLe a0 (q0D (q01 1) 1 (((q0K q03) a0)))∧VLe a1 (q0D q42 1 (((q0K q2G) a1)))∧qKu ((q0K q03) a0) ((q0K q2G) a1),qUa ((q0K q03) a0) ((q0K q2G) a1),[])
 |_,_=>none
noncomputable def qSF (l:List q0A) (ids:List Int):q0M:=
 ⟨Nat,fun i=>⟨[(0,q0D (q01 1) 1 l),(1,q0D q42 1 ids),(5,.osl (q25 5) (q2A (l.take i) ids).length),(6,.int .i64 i)],[(q25 5,.arr 5 (q2A (l.take i) ids).length (gL (q01 1) (q2A (l.take i) ids)) q0l)]⟩,
  fun i=>i≤l.length,fun i=>l.length-i⟩
noncomputable def qTg (l:List q0A) (ids:List Int):q0M:=
 ⟨Nat×Nat,fun p=>⟨[(0,q0D (q01 1) 1 l),(1,q0D q42 1 ids),(5,.osl (q25 5) (q2A (l.take p.1) ids).length),(6,.int .i64 p.1),(7,.bool (q1D (ids.take p.2) (l.getD p.1 default))),(8,.int .i64 p.2)],[(q25 5,.arr 5 (q2A (l.take p.1) ids).length (gL (q01 1) (q2A (l.take p.1) ids)) q0l)]⟩,
  fun p=>p.1<l.length∧p.2≤ids.length,fun p=>ids.length-p.2⟩
noncomputable def x0Y (l:List q0A) (ids:List Int):Nat→Option q0M:=fun rg_=>match rg_ with
 |3=>some (qSF l ids)
 |7=>some (qTg l ids)
 |_=>none
noncomputable def x1m:=lkR []
theorem x3p:q0C Tryz.prog x1m:=q04
noncomputable def x2J (l:List q0A) (ids:List Int):=cxL x1m Tryz.f217 [0,1,4,5,6,7,8,13,19,44] [(3,⟨[(0,none),(1,none),(5,some 5),(6,none)],[]⟩),(7,⟨[(0,none),(1,none),(5,some 5),(6,none),(7,none),(8,none)],[]⟩)] (x0Y l ids) [7]
theorem x0F (l:List q0A) (ids:List Int) (hpre:qKu l ids):q0d (x2J l ids) Tryz.f217 1 [q0D (q01 1) 1 (l),q0D q42 1 (ids)] (fun rr=>VLe rr (qUa l ids)):=by
 have key:((∃x:Nat,SLe (AS.mk [(q2e l),(q93 ids),(5,V.osl 32000384 0),(6,vi 0)] [(32000384,Blk.arr 5 0 (q3C []) 100)]) (AS.mk [(q2e l),(q93 ids),(5,V.osl 32000384 (q2A (List.take x l) ids).length),(6,vi (↑x:Int))] [(32000384,Blk.arr 5 (q2A (List.take x l) ids).length (gL (q01 1) (q2A (List.take x l) ids)) 100)])∧x≤l.length)∧∀x:Nat,x≤l.length→(decide ((↑x:Int)<(↑ l.length:Int))=true→∃R:Nat×Nat→Prop,((∃x_1:Nat×Nat,SLe (AS.mk [(q2e l),(q93 ids),(5,V.osl 32000384 (q2A (List.take x l) ids).length),(6,vi (↑x:Int)),(7,V.bool false),(8,vi 0)] [(32000384,Blk.arr 5 (q2A (List.take x l) ids).length (gL (q01 1) (q2A (List.take x l) ids)) 100)]) (AS.mk [(q2e l),(q93 ids),(5,V.osl 32000384 (qEa l ids x_1)),(6,vi (↑x_1.1:Int)),(7,V.bool (q1D (List.take x_1.2 ids) (l.getD x_1.1 default))),(8,vi (↑x_1.2:Int))] [qLl l ids x_1])∧(Prod.fst x_1<l.length∧Prod.snd x_1≤ids.length)∧R x_1)∧∀x_1:Nat×Nat,Prod.fst x_1<l.length∧Prod.snd x_1≤ids.length→R x_1→(decide ((↑x_1.2:Int)<(↑ ids.length:Int))=true→tq (!q1D (List.take x_1.2 ids) (l.getD x_1.1 default))∧tq (!q1D (List.take x_1.2 ids) (l.getD x_1.1 default))∧(qEY l ids x_1→qKp l x_1)∧tq (!q1D (List.take x_1.2 ids) (l.getD x_1.1 default))∧tq (!q1D (List.take x_1.2 ids) (l.getD x_1.1 default))∧tq (!q1D (List.take x_1.2 ids) (l.getD x_1.1 default))∧tq (!q1D (List.take x_1.2 ids) (l.getD x_1.1 default))∧tq (!q1D (List.take x_1.2 ids) (l.getD x_1.1 default)&&(l.getD (q5x x_1) default).owner !=0)∧tq (!q1D (List.take x_1.2 ids) (l.getD x_1.1 default)&&(l.getD (q5x x_1) default).owner !=0)∧(qLv l ids x_1→qKp l x_1)∧tq (!q1D (List.take x_1.2 ids) (l.getD x_1.1 default)&&(l.getD (q5x x_1) default).owner !=0)∧tq (!q1D (List.take x_1.2 ids) (l.getD x_1.1 default)&&(l.getD (q5x x_1) default).owner !=0)∧tq (!q1D (List.take x_1.2 ids) (l.getD x_1.1 default)&&(l.getD (q5x x_1) default).owner !=0)∧tq (!q1D (List.take x_1.2 ids) (l.getD x_1.1 default)&&(l.getD (q5x x_1) default).owner !=0)∧(qLv l ids x_1→0≤(↑x_1.2:Int)∧(↑x_1.2:Int)<(↑ ids.length:Int))∧tq (!q1D (List.take x_1.2 ids) (l.getD x_1.1 default)&&(l.getD (q5x x_1) default).owner !=0)∧tq (!q1D (List.take x_1.2 ids) (l.getD x_1.1 default)&&(l.getD (q5x x_1) default).owner !=0)∧tq (!q1D (List.take x_1.2 ids) (l.getD x_1.1 default)&&(l.getD (q5x x_1) default).owner !=0)∧tq (!q1D (List.take x_1.2 ids) (l.getD x_1.1 default))∧((qEY l ids x_1→qEY l ids x_1→((l.getD (q5x x_1) default).owner !=0)=true→qLv l ids x_1)∧∀b:Bool,(b=bif q0A.owner (l.getD (q5x x_1) default)!=0 then(l.getD (q5x x_1) default).owner==ids.getD (↑x_1.2:Int).toNat default else false)→((true=true→q1D (List.take x_1.2 ids) (l.getD x_1.1 default)=false→qEY l ids x_1)∧∀b_1:Bool,(b_1=bif q1D (List.take x_1.2 ids) (l.getD x_1.1 default)then true else b)→(inK IntKind.i64 ((↑x_1.2:Int)+1)∧∃y:Nat×Nat,SLe (AS.mk [(q2e l),(q93 ids),(5,V.osl 32000384 (qEa l ids x_1)),(6,vi (↑x_1.1:Int)),(7,V.bool b_1),(8,vi ((↑x_1.2:Int)+1))] [qLl l ids x_1]) (AS.mk [(q2e l),(q93 ids),(5,V.osl 32000384 (q2A (List.take y.1 l) ids).length),(6,vi (↑y.1:Int)),(7,V.bool (q1D (List.take y.2 ids) (l.getD y.1 default))),(8,vi (↑y.2:Int))] [(32000384,Blk.arr 5 (q2A (List.take y.1 l) ids).length (gL (q01 1) (q2A (List.take y.1 l) ids)) 100)])∧(Prod.fst y<l.length∧Prod.snd y≤ids.length)∧R y∧ids.length-Prod.snd y<ids.length-Prod.snd x_1))))∧(decide ((↑x_1.2:Int)<(↑ ids.length:Int))=false→(qEY l ids x_1→qKp l x_1∧(q2A (List.take x_1.1 l) ids).length=(q2A (List.take x_1.1 l) ids).length∧(q2A (List.take x_1.1 l) ids).length+1≤1073741824∧q13 5 1 (q3C [q01 1 (l.getD (q5x x_1) default)])∧(inK IntKind.i64 ((↑x_1.1:Int)+1)∧∃y:Nat,SLe (AS.mk [(q2e l),(q93 ids),(5,V.osl 32000384 ((q2A (List.take x_1.1 l) ids).length+1)),(6,vi ((↑x_1.1:Int)+1))] [(32000384,Blk.arr 5 ((q2A (List.take x_1.1 l) ids).length+1) (q3K (qEa l ids x_1) (gL (q01 1) (q2A (List.take x_1.1 l) ids)) (q3C [q01 1 (l.getD (q5x x_1) default)])) 100)]) (qOi l ids y)∧y≤l.length∧l.length-y<l.length-x))∧((!q1D (List.take x_1.2 ids) (l.getD x_1.1 default))=false→(inK IntKind.i64 ((↑x_1.1:Int)+1)∧∃y:Nat,SLe (AS.mk [(q2e l),(q93 ids),(5,V.osl 32000384 (qEa l ids x_1)),(6,vi ((↑x_1.1:Int)+1))] [qLl l ids x_1]) (qOi l ids y)∧y≤l.length∧l.length-y<l.length-x)))))∧(decide ((↑x:Int)<(↑ l.length:Int))=false→VLe (q0D (q01 1) 2 (q2A (List.take x l) ids)) (q0D (q01 1) 2 (q2A l ids)))):=by
  delta qKp;delta qLl;delta qEa;delta qEY;delta qLv;delta qOi;delta q93;delta q2e;delta q5x;delta vi;obtain⟨hl,hi⟩:=hpre;refine⟨⟨0,q1Q ⟨rfl,VLe.refl _,rfl,VLe.refl _,rfl,VLe.refl _,rfl,VLe.refl _,trivial⟩ ⟨rfl,q3G _,trivial⟩,by omega⟩,fun x hx=>⟨fun h=>?_,fun h=>?_⟩⟩
  ·have hlt:x<l.length:=by simpa using h
   have hn:=qSa l ids x;refine⟨fun p=>p.1=x,⟨(x,0),q1Q ⟨rfl,VLe.refl _,rfl,VLe.refl _,rfl,VLe.refl _,rfl,VLe.refl _,rfl,q0Z (by simp[q1D]),rfl,VLe.refl _,trivial⟩ ⟨rfl,BLe.refl _,trivial⟩,⟨hlt,Nat.zero_le _⟩,rfl⟩,?_⟩;rintro⟨x',k⟩ ⟨_,hk⟩ hR;simp only at hR;subst hR;simp only at hk⊢;simp only[Int.toNat_natCast];refine⟨fun h2=>?_,fun h2=>?_⟩
   ·have hlk:k<ids.length:=by simpa using h2
    repeat (first|refine And.intro (tqI _) ?_|refine And.intro (fun _=>⟨by omega,by omega⟩) ?_|refine And.intro (fun h _ g=>by rw[h,g];rfl) ?_|refine And.intro (fun _ h=>by rw[h];rfl) ?_|intro b hb)
    subst_vars
    have v1:(k:Int)+1=((k+1:Nat):Int):=by omega
    refine⟨q0X (by omega),(x',k+1),q1Q ⟨rfl,VLe.refl _,rfl,VLe.refl _,rfl,VLe.refl _,rfl,VLe.refl _,rfl,q0Z (qSY _ hlk),rfl,q0I v1,trivial⟩ ⟨rfl,BLe.refl _,trivial⟩,⟨hlt,by simp only;omega⟩,rfl,by simp only;omega⟩
   ·have hk2:k=ids.length:=by simp at h2;omega
    subst hk2;simp only[List.take_length];refine⟨fun h3=>⟨⟨by omega,by omega⟩,trivial,by omega,q5e rfl rfl,q0X (by omega),x'+1,?_,by omega,by omega⟩,fun h3=>⟨q0X (by omega),x'+1,?_,by omega,by omega⟩⟩
    ·rw[qTz hlt (by simpa using h3),List.length_append,List.length_singleton];exact q1Q ⟨rfl,VLe.refl _,rfl,VLe.refl _,rfl,VLe.refl _,rfl,q0I (by omega),trivial⟩ ⟨rfl,q66 rfl rfl,trivial⟩
    ·rw[qVm hlt (by simpa using h3)];exact q1Q ⟨rfl,VLe.refl _,rfl,VLe.refl _,rfl,VLe.refl _,rfl,q0I (by omega),trivial⟩ ⟨rfl,BLe.refl _,trivial⟩
  ·have hge:x=l.length:=by simp at h;omega
   subst hge;rw[List.take_length];exact VLe.refl _
 exact Eq.mp (by kernel_rfl) key
theorem qUG:q0R Tryz.prog 217 qKK:=by
 refine sob 1 Tryz.func217 fun args bin ob r bout hDe hob=>?_;unfold qKK at hDe;split at hDe
 ·rename_i a0 a1;cases hDe;exact okB (x0F ((q0K q03) a0) ((q0K q2G) a1) (hob.2.2)) x3p (args_of_vles ⟨hob.1,hob.2.1,trivial⟩)
 ·cases hDe
def qVS (l:List q0A) (ids:List Int):Prop:=l.length≤1000∧ids.length≤1000
noncomputable def x1u (l:List q0A) (ids:List Int):V:=q0D (q01 1) 2 (q2A l ids)
noncomputable def qXQ:q0P:=fun args bin=>match args,bin with
 |[a0,a1],[]=>some (VLe a0 (q0D (q01 1) 1 (((q0K q03) a0)))∧VLe a1 (q0D q42 1 (((q0K q2G) a1)))∧qVS ((q0K q03) a0) ((q0K q2G) a1),x1u ((q0K q03) a0) ((q0K q2G) a1),[])
 |_,_=>none
noncomputable def xFO:Nat→Option (Fl×q0P):=lk [(162,(.ro,qA0)),(225,(.mv,qA9))]
theorem x4r:q0C Tryz.prog xFO:=q02 qCq (q02 qHJ (q04))
noncomputable def x72 (l:List q0A) (ids:List Int):=cxN xFO Tryz.f159 [0,1,3,4]
theorem x9i (l:List q0A) (ids:List Int) (hpre:qVS l ids):q0d (x72 l ids) Tryz.f159 1 [q0D (q01 1) 1 (l),q0D q42 1 (ids)] (fun rr=>VLe rr (x1u l ids)):=by
 have key:(VLe (q0D (q01 1) 1 l) (q0D (q01 1) 1 (q08 l))∧qAD (q08 l))∧((0=0∧5=5∧100=100∧((q30 (q08 l)).length=(q30 (q08 l)).length∧∀i:Nat,i<(q30 (q08 l)).length→ELe (q01 1 ((q30 (q08 l)).getD i default)) (q01 1 ((q89 l).getD i default))))∧VLe (V.ptr [q0D q42 1 ids] 0 1) (q8d q42 1 (q3O q2G (V.ptr [q0D q42 1 ids] 0 1)))∧q9z (q89 l) (q3O q2G (V.ptr [q0D q42 1 ids] 0 1)))∧VLe (q0D (q01 1) 2 (q2W (q89 l) (q3O q2G (V.ptr [q0D q42 1 ids] 0 1)))) (q0D (q01 1) 2 (q2A l ids)):=by
  delta q89;delta q08;obtain⟨hl,hi⟩:=hpre;simp only[q0o,qG3,q30];exact⟨⟨VLe.refl _,hl⟩,⟨⟨trivial,trivial,trivial,trivial,fun i hi=>ELe.refl _⟩,VLe.refl _,hl,hi⟩,VLe.refl _⟩
 exact Eq.mp (by kernel_rfl) key
theorem x69:q0R Tryz.prog 159 qXQ:=by
 refine sob 1 Tryz.func159 fun args bin ob r bout hDe hob=>?_;unfold qXQ at hDe;split at hDe
 ·rename_i a0 a1;cases hDe;exact okB (x9i ((q0K q03) a0) ((q0K q2G) a1) (hob.2.2)) x4r (args_of_vles ⟨hob.1,hob.2.1,trivial⟩)
 ·cases hDe
theorem qRC {l:List q07} {id now:Int} (h:q1q l=0) (h1:inR id 1 9) (h2:inR now 0 9000):(if q1q l≠0 then q1q l else if¬(inR id 1 9∧inR now 0 9000)then 3 else 0)=0:=by
 rw[if_neg (not_not_intro h),if_neg (not_not_intro ⟨h1,h2⟩)]
def qVs (l:List q07) (now:Int):Prop:=q1q l=0∧inR now 0 9000
noncomputable def x3t (l:List q07) (now:Int):V:=q6t 2 ((⟨0,q1M l now,q29 l now⟩:q3H))
noncomputable def qX2:q0P:=fun args bin=>match args,bin with
 |[a0,.int .i64 a1],[]=>some (VLe a0 (q0D (q00 1) 1 (((q0K q05) a0)))∧qVs ((q0K q05) a0) a1,x3t ((q0K q05) a0) a1,[])
 |_,_=>none
noncomputable def qYa (l:List q07) (now:Int):q0M:=
 ⟨Nat,fun i=>⟨[(1,.int .i64 now),(4,.oref 320 0 0),(6,.oref 448 0 0),(17,q0D (q00 1) 1 l),(18,.int .i64 l.length),(19,.int .i64 i)],[(320,.box [.int .i64 0,.nil,.nil]),(448,.box [.int .i64 0,.osl (q2k 448 1) (q1M (l.take i) now).length,.osl (q2k 448 2) (q29 (l.take i) now).length]),(q2k 448 1,.arr 2 (q1M (l.take i) now).length (gL (q00 1) (q1M (l.take i) now)) q0l),(q2k 448 2,.arr 1 (q29 (l.take i) now).length (gL q42 (q29 (l.take i) now)) q0l)]⟩,
  fun i=>i≤l.length,fun i=>l.length-i⟩
noncomputable def xCS (l:List q07) (now:Int):Nat→Option q0M:=fun rg_=>match rg_ with
 |6=>some (qYa l now)
 |_=>none
noncomputable def xFP:=lkR [(224,qQC)]
theorem x7K:q0C Tryz.prog xFP:=q02 qWX (q04)
noncomputable def xAs (l:List q07) (now:Int):=cxL xFP Tryz.f158 [0,1,4,5,6,8,13,17,18,19,20,26] [(6,⟨[(1,none),(4,none),(6,none),(17,none),(18,none),(19,none)],[(320,[]),(448,[(1,2),(2,1)])]⟩)] (xCS l now) []
noncomputable def qEQ (l:List q07):Nat×V:=(17,q0D (q00 1) 1 l)
noncomputable def qEC:Nat×Blk:=(320,Blk.box [vi 0,V.nil,V.nil])
noncomputable def qPr (l:List q07) (now:Int) (y:Nat):AS:=AS.mk [(1,vi now),(4,V.oref 320 0 0),(6,V.oref 448 0 0),(qEQ l),(18,vi (q0O l)),(19,vi (↑y:Int))] [qEC,(448,Blk.box [vi 0,V.osl 65835072 (q1M (List.take y l) now).length,V.osl 65835136 (q29 (List.take y l) now).length]),(65835072,Blk.arr 2 (q1M (List.take y l) now).length (gL (q00 1) (q1M (List.take y l) now)) 100),(65835136,Blk.arr 1 (q29 (List.take y l) now).length (gL q42 (q29 (List.take y l) now)) 100)]
noncomputable def qNt (l:List q07) (now:Int):Bool:=(if q1q (q0F l)≠(0:Int)then q1q (q0F l)else if¬(inR (1:Int) (1:Int) (9:Int)∧inR now 0 9000)then(3:Int)else(0:Int))!=0
theorem x6K (l:List q07) (now:Int) (hpre:qVs l now):q0d (xAs l now) Tryz.f158 1 [q0D (q00 1) 1 (l),.int .i64 (now)] (fun rr=>VLe rr (x3t l now)):=by
 have key:(VLe (q0D (q00 1) 1 l) (q0D (q00 1) 1 (q0F l))∧qP4 (q0F l) (1:Int) now)∧((qNt l now)=true→VLe (V.agg [vi (if q1q (q0F l)≠(0:Int)then q1q (q0F l)else if¬(inR (1:Int) (1:Int) (9:Int)∧inR now 0 9000)then(3:Int)else(0:Int)),V.nil,V.nil]) (q6t 2 (q3H.mk (0:Int) (q1M l now) (q29 l now))))∧((qNt l now)=false→((∃x:Nat,SLe (AS.mk [(1,vi now),(4,V.oref 320 0 0),(6,V.oref 448 0 0),(qEQ l),(18,vi (q0O l)),(19,vi 0)] [qEC,(448,Blk.box [vi 0,V.osl 65835072 0,V.osl 65835136 0]),(65835072,Blk.arr 2 0 (fun(x:Nat) ↦ V.undef) 100),(65835136,Blk.arr 1 0 (fun(x:Nat) ↦ V.undef) 100)]) (AS.mk [(1,vi now),(4,V.oref 320 0 0),(6,V.oref 448 0 0),(qEQ l),(18,vi (q0O l)),(19,vi (↑x:Int))] [qEC,(448,Blk.box [vi 0,V.osl 65835072 (q7t l now x),V.osl 65835136 (q7s l now x)]),(65835072,Blk.arr 2 (q7t l now x) (gL (q00 1) (q1M (List.take x l) now)) 100),(65835136,Blk.arr 1 (q7s l now x) (gL q42 (q29 (List.take x l) now)) 100)])∧x≤l.length)∧∀x:Nat,x≤l.length→(decide ((↑x:Int)<(q0O l))=true→(0≤(↑x:Int)∧(↑x:Int)<(q0O l))∧(decide ((l.getD (q26 x) default).upto≥now)=true→(q1M (List.take x l) now).length=(q1M (List.take x l) now).length∧(q1M (List.take x l) now).length+1≤1073741824∧q13 2 1 (q3C [q00 1 (l.getD (q26 x) default)])∧(inK IntKind.i64 ((↑x:Int)+1)∧∃y:Nat,SLe (AS.mk [(1,vi now),(4,V.oref 320 0 0),(6,V.oref 448 0 0),(qEQ l),(18,vi (q0O l)),(19,vi ((↑x:Int)+1))] [qEC,(448,Blk.box [vi 0,V.osl 65835072 ((q1M (List.take x l) now).length+1),V.osl 65835136 (q7s l now x)]),(65835072,Blk.arr 2 ((q1M (List.take x l) now).length+1) (q3K (q7t l now x) (gL (q00 1) (q1M (List.take x l) now)) (q3C [q00 1 (l.getD (q26 x) default)])) 100),(65835136,Blk.arr 1 (q7s l now x) (gL q42 (q29 (List.take x l) now)) 100)]) (qPr l now y)∧y≤l.length∧l.length-y<l.length-x))∧(decide ((l.getD (q26 x) default).upto≥now)=false→(q29 (List.take x l) now).length=(q29 (List.take x l) now).length∧(q29 (List.take x l) now).length+1≤1073741824∧q13 1 1 (q3C [vi (l.getD (q26 x) default).id])∧(inK IntKind.i64 ((↑x:Int)+1)∧∃y:Nat,SLe (AS.mk [(1,vi now),(4,V.oref 320 0 0),(6,V.oref 448 0 0),(qEQ l),(18,vi (q0O l)),(19,vi ((↑x:Int)+1))] [qEC,(448,Blk.box [vi 0,V.osl 65835072 (q7t l now x),V.osl 65835136 ((q29 (List.take x l) now).length+1)]),(65835072,Blk.arr 2 (q7t l now x) (gL (q00 1) (q1M (List.take x l) now)) 100),(65835136,Blk.arr 1 ((q29 (List.take x l) now).length+1) (q3K (q7s l now x) (gL q42 (q29 (List.take x l) now)) (q3C [vi (l.getD (q26 x) default).id])) 100)]) (qPr l now y)∧y≤l.length∧l.length-y<l.length-x)))∧(decide ((↑x:Int)<(q0O l))=false→VLe (V.agg [vi 0,q0D (q00 1) 2 (q1M (List.take x l) now),q0D q42 2 (q29 (List.take x l) now)]) (q6t 2 (q3H.mk (0:Int) (q1M l now) (q29 l now)))))):=by
  delta q7s;delta q7t;delta q26;delta qNt;delta q0F;delta qPr;delta qEC;delta q0O;delta qEQ;delta vi;obtain⟨h0,hn⟩:=hpre;have hl:=(q4T h0).1;simp only[q0p,qRC h0 (show inR 1 1 9 from⟨by decide,by decide⟩) hn];refine⟨⟨VLe.refl _,by show l.length≤maxLen;unfold maxLen;omega⟩,fun h=>absurd h (by decide),fun _=>⟨⟨0,q1Q ⟨rfl,VLe.refl _,rfl,VLe.refl _,rfl,VLe.refl _,rfl,VLe.refl _,rfl,VLe.refl _,rfl,VLe.refl _,trivial⟩ ⟨rfl,BLe.refl _,rfl,BLe.refl _,rfl,q3G _,rfl,q3G _,trivial⟩,by omega⟩,fun i hi=>⟨fun h=>?_,fun h=>?_⟩⟩⟩
  ·have hlt:i<l.length:=by simpa using h
   have hn:=qHe l now i;simp only[Int.toNat_natCast];refine⟨⟨by omega,by omega⟩,fun h2=>⟨trivial,by omega,q5e rfl rfl,q0X (by omega),i+1,?_,by omega,by omega⟩,fun h2=>⟨trivial,by omega,qLc,q0X (by omega),i+1,?_,by omega,by omega⟩⟩
   ·have g:=qIT hlt (of_decide_eq_true h2);rw[g.1,g.2,List.length_append,List.length_singleton];exact q1Q ⟨rfl,VLe.refl _,rfl,VLe.refl _,rfl,VLe.refl _,rfl,VLe.refl _,rfl,VLe.refl _,rfl,q0I (by omega),trivial⟩ ⟨rfl,BLe.refl _,rfl,BLe.refl _,rfl,q66 rfl rfl,rfl,BLe.refl _,trivial⟩
   ·have g:=qLb hlt (of_decide_eq_false h2);rw[g.1,g.2,List.length_append,List.length_singleton];exact q1Q ⟨rfl,VLe.refl _,rfl,VLe.refl _,rfl,VLe.refl _,rfl,VLe.refl _,rfl,VLe.refl _,rfl,q0I (by omega),trivial⟩ ⟨rfl,BLe.refl _,rfl,BLe.refl _,rfl,BLe.refl _,rfl,q66 rfl rfl,trivial⟩
  ·have hge:i=l.length:=by simp at h;omega
   subst hge;rw[List.take_length];exact VLe.refl _
 exact Eq.mp (by kernel_rfl) key
theorem xCA:q0R Tryz.prog 158 qX2:=by
 refine sob 1 Tryz.func158 fun args bin ob r bout hDe hob=>?_;unfold qX2 at hDe;split at hDe
 ·rename_i a0 a1;cases hDe;exact okB (x6K ((q0K q05) a0) a1 (hob.2)) x7K (args_of_vles ⟨hob.1,VLe.refl _,trivial⟩)
 ·cases hDe
def qWu (l:List q07) (id:Int) (now:Int):Prop:=q1q l=0∧inR id 1 9∧inR now 0 9000
noncomputable def qZk (l:List q07) (id:Int) (now:Int):V:=q1j 2 (q44 l id now)
noncomputable def qYJ:q0P:=fun args bin=>match args,bin with
 |[a0,.int .i64 a1,.int .i64 a2],[]=>some (VLe a0 (q0D (q00 1) 1 (((q0K q05) a0)))∧qWu ((q0K q05) a0) a1 a2,qZk ((q0K q05) a0) a1 a2,[])
 |_,_=>none
noncomputable def xEO:=lkR [(224,qQC),(178,qSC),(228,qPn),(163,qCL)]
theorem xCI:q0C Tryz.prog xEO:=q02 qWX (q02 x3s (q02 qYV (q02 qHj (q04))))
noncomputable def x9c (l:List q07) (id:Int) (now:Int):=cxN xEO Tryz.f160 [0,1,2,6,7,8,9,16,23]
theorem x9K (l:List q07) (id:Int) (now:Int) (hpre:qWu l id now):q0d (x9c l id now) Tryz.f160 1 [q0D (q00 1) 1 (l),.int .i64 (id),.int .i64 (now)] (fun rr=>VLe rr (qZk l id now)):=by
 have key:(q8F l∧qP4 (q0F l) id now)∧((qAh l id now)=true→VLe (V.agg [vi (if q1q (q0F l)≠(0:Int)then q1q (q0F l)else if¬(inR id 1 9∧inR now 0 9000)then(3:Int)else(0:Int)),V.nil]) (q1j 2 (q44 l id now)))∧((qAh l id now)=false→(q8F l∧qSy (q0F l) id now)∧((!q6c (q0F l) id now)=true→VLe (V.agg [vi 9,V.nil]) (q1j 2 (q44 l id now)))∧((!q6c (q0F l) id now)=false→(q8F l∧qCY (q0F l))∧(VLe (q0D (q00 1) 1 (q2f (q0F l))) (q0D (q00 1) 1 (q5v l))∧qPy (q5v l) id)∧inK IntKind.i64 (now+10)∧(0≤(↑ (q6y (q5v l) id):Int)∧(↑ (q6y (q5v l) id):Int)<(↑ (q2f (q0F l)).length:Int))∧(↑ (q6y (q5v l) id):Int).toNat<(q2f (q0F l)).length∧VLe (V.agg [vi 0,V.sl (q2f (q0F l)).length (q65 (gL (q00 1) (q2f (q0F l))) (↑ (q6y (q5v l) id):Int).toNat (V.agg [vi ((q2f (q0F l)).getD (↑ (q6y (q5v l) id):Int).toNat default).id,vi (now+10)])) 2]) (q1j 2 (q44 l id now)))):=by
  delta qAh;delta q8F;delta q5v;delta q0F;delta vi;obtain⟨h0,hid,hn⟩:=hpre;have hk:=q4T h0;have hl:=hk.1;have hn2:=hn;unfold inR at hn2;simp only[q0p,qRC h0 hid hn,q2f];refine⟨⟨VLe.refl _,by show l.length≤maxLen;unfold maxLen;omega⟩,fun h=>absurd h (by decide),fun _=>⟨⟨VLe.refl _,hk,hid⟩,fun h=>qZb (qKE h),fun h=>?_⟩⟩;obtain⟨h1,h2,h3⟩:=qIj h;have e:=qRK hk.2.1 id;have hh:qBB l id=true:=by
   cases c:qBB l id with
   |true=>rfl
   |false=>
    rw[c]at e;rw[e]at h2;have:¬(false=true):=by decide
    rw[if_neg this]at h2;omega
  rw[if_pos hh]at e;have h4:=qLt hh;rw[e,Int.toNat_natCast]at h1;simp only[Int.toNat_natCast];refine⟨⟨VLe.refl _,by show l.length≤1000;omega⟩,⟨VLe.refl _,hk,hid⟩,q0X (by omega),⟨by omega,by omega⟩,h4,xEv h1 rfl ?_ fun j e=>?_⟩
  ·simp[q2F,q00]
  ·simp[q2F,e]
 exact Eq.mp (by kernel_rfl) key
theorem x8U:q0R Tryz.prog 160 qYJ:=by
 refine sob 1 Tryz.func160 fun args bin ob r bout hDe hob=>?_;unfold qYJ at hDe;split at hDe
 ·rename_i a0 a1 a2;cases hDe;exact okB (x9K ((q0K q05) a0) a1 a2 (hob.2)) xCI (args_of_vles ⟨hob.1,VLe.refl _,VLe.refl _,trivial⟩)
 ·cases hDe
set_option maxHeartbeats 16000000
theorem qN5 {s:q06} {c:Int} {o:TOp} {s':q06} {r:q2E} {t1 t2 tr n:Nat} {b:Blk} (h:doF s c o=(s',r)):
  VLe (.tup [.agg [q0D (q01 1) t1 s'.nodes,q0D (q00 1) t2 s'.sessions,.int .i64 s'.now,.osl 0 n],q0V tr r])
   (.tup [.agg [q0D (q01 1) 0 (doS s c o).nodes,q0D (q00 1) 0 (doS s c o).sessions,.int .i64 (doS s c o).now,.osl 0 n],q0V 0 (doR s c o)])∧BLe b b∧True:=by
 obtain⟨h1,h2⟩:=qUn h;rw[h1,h2];exact⟨q5u ⟨q21 ⟨q5z,q5z,VLe.refl _,VLe.refl _,trivial⟩,VLe.refl _,trivial⟩,BLe.refl _,trivial⟩
theorem qIU {s:q06} {c:Int} {o:TOp} {r:q16} {v:Int} {t1 t2 tr n:Nat} {b:Blk} (h:doF s c o=q6X s r v):
  VLe (.tup [.agg [q0D (q01 1) t1 (q3I s r v).nodes,q0D (q00 1) t2 (q3I s r v).sessions,.int .i64 (q3I s r v).now,.osl 0 n],q0V tr (q81 s r v)])
   (.tup [.agg [q0D (q01 1) 0 (doS s c o).nodes,q0D (q00 1) 0 (doS s c o).sessions,.int .i64 (doS s c o).now,.osl 0 n],q0V 0 (doR s c o)])∧BLe b b∧True:=by
 have h2:q6X s r v=(q3I s r v,q81 s r v):=by unfold q3I q81;rfl
 exact qN5 (h.trans h2)
def qD2 (s:q06):Prop:=s.nodes.length≤1000∧s.sessions.length≤1000∧s.marks.length≤1000
noncomputable def q5G (s:q06):q06:=s
noncomputable def qUP (s:q06):List Blk:=[(.arr 5 ((q5G s).marks).length (gL (q09 1) ((q5G s).marks)) q0l)]
noncomputable def qUv (s:q06):V:=.agg [q0D (q01 1) 2 ((q5G s).nodes),q0D (q00 1) 2 ((q5G s).sessions),.int .i64 ((q5G s).now),.osl 0 ((q5G s).marks).length]
noncomputable def qEW:q0P:=fun args bin=>match args,bin with
 |[a0],[]=>some (VLe a0 (q0J 1 ((q0B a0)))∧qD2 (q0B a0),qUv (q0B a0),qUP (q0B a0))
 |_,_=>none
noncomputable def x3l:=lkR [(202,qP6)]
theorem x1b:q0C Tryz.prog x3l:=q02 qVK (q04)
noncomputable def x3R (s:q06):=cxN x3l Tryz.f113 [0,1,2]
theorem x2W (s:q06) (hpre:qD2 s):q3h (x3R s) Tryz.f113 [(3,5)] [q0J 1 (s)] [] (fun rr bs=>VLe rr (qUv s)∧q1y bs (qUP s)):=by
 have key:(VLe (q9Z s) (q0D (q01 1) 1 (q0K q03 (q9Z s)))∧qNg (q0K q03 (q9Z s)))∧0=0∧0+s.sessions.length≤1073741824∧q13 2 s.sessions.length (gL (q00 1) s.sessions)∧(∀i:Nat,i<s.sessions.length→q86 (q00 1 (s.sessions.getD i default))=true)∧0=0∧0+s.marks.length≤1073741824∧q13 5 s.marks.length (gL (q09 1) s.marks)∧(∀i:Nat,i<s.marks.length→q86 (q09 1 (s.marks.getD i default))=true)∧VLe (V.agg [q0D (q01 1) 2 (qDw (q0K q03 (q9Z s))),V.sl (0+s.sessions.length) (q3K 0 (q3C []) (gL (q00 1) s.sessions)) 2,vi s.now,V.osl 0 (0+s.marks.length)]) (V.agg [q0D (q01 1) 2 (q5G s).nodes,q0D (q00 1) 2 (q5G s).sessions,vi (q5G s).now,V.osl 0 (q5G s).marks.length])∧BLe (Blk.arr 5 (0+s.marks.length) (q3K 0 (q3C []) (gL (q09 1) s.marks)) 100) (Blk.arr 5 (q5G s).marks.length (gL (q09 1) (q5G s).marks) 100)∧True:=by
  delta q9Z;delta vi;obtain⟨h1,h2,h3⟩:=hpre;simp only[q0o];refine⟨⟨VLe.refl _,h1⟩,trivial,by omega,fun i hi=>⟨rfl,rfl⟩,fun i hi=>rfl,trivial,by omega,fun i hi=>⟨rfl,rfl⟩,fun i hi=>rfl,q21 ⟨VLe.refl _,?_,VLe.refl _,?_,trivial⟩,?_,trivial⟩
  ·rw[Nat.zero_add,qLx];exact VLe.refl _
  ·rw[Nat.zero_add];exact VLe.refl _
  ·rw[Nat.zero_add,qLx];exact BLe.refl _
 exact Eq.mp (by kernel_rfl) key
theorem qKa:q0R Tryz.prog 113 qEW:=by
 refine q0S q77 (tpl:=[(3,5)]) Tryz.func113 rfl (by kernel_rfl) fun args bin ob r bout hDe hob=>?_;unfold qEW at hDe;split at hDe
 ·rename_i a0;cases hDe;exact okQ (x2W (q0B a0) (hob.2)) x1b (args_of_vles ⟨hob.1,trivial⟩) trivial
 ·cases hDe
def qCZ (s:q06) (r:q16) (v:Int):Prop:=True
noncomputable def qUi (s:q06) (r:q16) (v:Int):V:=.tup [.agg [q0D (q01 1) 0 ((q3I s r v).nodes),q0D (q00 1) 0 ((q3I s r v).sessions),.int .i64 ((q3I s r v).now),.osl 0 (s).marks.length],q0V 0 (q81 s r v)]
noncomputable def qUc (s:q06) (r:q16) (v:Int):List Blk:=[(.arr 5 (s).marks.length (gL (q09 1) (s).marks) q0l)]
noncomputable def x0e:=lkR []
theorem x1L:q0C Tryz.prog x0e:=q04
noncomputable def qZv (s:q06) (r:q16) (v:Int):=cxN x0e Tryz.f196 [0,1,2,3,4,6,7,10]
noncomputable def q71 (s:q06):Blk:=Blk.arr 5 s.marks.length (gL (q09 1) s.marks) 100
noncomputable def qJ8 (s:q06) (r:q16) (v:Int):V:=V.tup [V.agg [q0D (q01 1) 0 (q3I s r v).nodes,q0D (q00 1) 0 (q3I s r v).sessions,vi (q3I s r v).now,V.osl 0 s.marks.length],q0V 0 (q81 s r v)]
theorem x3H (s:q06) (r:q16) (v:Int) (hpre:qCZ s r v):q3h (qZv s r v) Tryz.f196 [] [.agg [q0D (q01 1) 1 ((s).nodes),q0D (q00 1) 1 ((s).sessions),.int .i64 ((s).now),.osl 0 (s).marks.length],q0W 1 (r),.int .i64 (v)] [(.arr 5 (s).marks.length (gL (q09 1) (s).marks) q0l)] (fun rr bs=>VLe rr (qUi s r v)∧q1y bs (qUc s r v)):=by
 have key:((r.code !=0)=true→VLe (V.tup [V.agg [q0D (q01 1) 0 s.nodes,q0D (q00 1) 0 s.sessions,vi s.now,V.osl 0 s.marks.length],V.agg [vi r.code,vi 0,V.str (ByteArray.mk #[])]]) (qJ8 s r v)∧BLe (q71 s) (q71 s)∧True)∧((r.code !=0)=false→VLe (V.tup [V.agg [q0D (q01 1) 0 r.nodes,q0D (q00 1) 0 s.sessions,vi s.now,V.osl 0 s.marks.length],V.agg [vi 0,vi v,V.str r.path]]) (qJ8 s r v)∧BLe (q71 s) (q71 s)∧True):=by
  delta qJ8;delta q71;delta vi;refine⟨fun h=>⟨VLe.of_eq ?_,BLe.refl _,trivial⟩,fun h=>⟨VLe.of_eq ?_,BLe.refl _,trivial⟩⟩
  ·have h1:r.code≠0:=by simpa using h
   unfold q3I q81 q6X;rw[if_pos h1];rfl
  ·have h1:¬r.code≠0:=by simpa using h
   unfold q3I q81 q6X;rw[if_neg h1];rfl
 exact Eq.mp (by kernel_rfl) key
noncomputable def qQd:q0P:=fun args bin=>match args,bin with
 |[.agg [n0,n1,.int .i64 n2,.osl i0 m0],a1,.int .i64 a2],[.arr s0 p0 g0 t0]=>some ((i0=0∧s0=5∧t0=q0l∧p0=m0∧∀i,i<m0→ELe (g0 i) (gL (q09 1) (q0K q0H (.sl m0 g0 1)) i))∧VLe n0 (q0D (q01 1) 1 ((q0K q03) n0))∧VLe n1 (q0D (q00 1) 1 ((q0K q05) n1))∧VLe a1 (q0W 1 ((q0j a1)))∧qCZ (⟨(q0K q03) n0,(q0K q05) n1,n2,q0K q0H (.sl m0 g0 1)⟩:q06) (q0j a1) a2,qUi (⟨(q0K q03) n0,(q0K q05) n1,n2,q0K q0H (.sl m0 g0 1)⟩:q06) (q0j a1) a2,qUc (⟨(q0K q03) n0,(q0K q05) n1,n2,q0K q0H (.sl m0 g0 1)⟩:q06) (q0j a1) a2)
 |_,_=>none
theorem x1x:q0R Tryz.prog 196 qQd:=by
 refine q0S q77 (tpl:=[]) Tryz.func196 rfl (by kernel_rfl) fun args bin ob r bout hDe hob=>?_;unfold qQd at hDe;split at hDe
 ·rename_i n0 n1 n2 i0 m0 a1 a2 s0 p0 g0 t0;cases hDe;obtain⟨⟨rfl,rfl,rfl,rfl,hg⟩,hn0,hn1,hv1,hpre⟩:=hob;exact okQ (x3H (⟨(q0K q03) n0,(q0K q05) n1,n2,q0K q0H (.sl p0 g0 1)⟩:q06) (q0j a1) a2 hpre) x1L (args_of_vles ⟨q21 ⟨hn0,hn1,VLe.refl _,VLe.of_eq (by rw[q3y]),trivial⟩,hv1,VLe.refl _,trivial⟩) ⟨q6m hg,trivial⟩
 ·cases hDe
def qRS (s:q06) (c:Int):Prop:=s.nodes.length≤1000∧s.sessions.length≤1000
noncomputable def qUU (s:q06) (c:Int):V:=.agg [q0D (q01 1) 0 ((q83 s c).nodes),q0D (q00 1) 0 ((q83 s c).sessions),.int .i64 ((q83 s c).now),.osl 0 (s).marks.length]
noncomputable def qUx (s:q06) (c:Int):List Blk:=[(.arr 5 (s).marks.length (gL (q09 1) (s).marks) q0l)]
noncomputable def qSq (s:q06) (c:Int):q0M:=
 ⟨Nat,fun i=>⟨[(1,.int .i64 c),(2,.oref 192 0 0),(4,.oref 320 0 0),(5,.osl (q25 5) (q2u (s.sessions.take i) c).length),(6,.int .i64 i)],[(q25 5,.arr 2 (q2u (s.sessions.take i) c).length (gL (q00 1) (q2u (s.sessions.take i) c)) q0l),(192,.box [q0D (q01 1) 1 s.nodes,q0D (q00 1) 1 s.sessions,.int .i64 s.now,.osl 0 s.marks.length]),(320,.box [.nil,.nil,.int .i64 0,.nil]),(0,.arr 5 s.marks.length (gL (q09 1) s.marks) q0l)]⟩,
  fun i=>i≤s.sessions.length,fun i=>s.sessions.length-i⟩
noncomputable def qZl (s:q06) (c:Int):Nat→Option q0M:=fun k0=>match k0 with
 |3=>some (qSq s c)
 |_=>none
noncomputable def x46:=lkR [(217,qKK)]
theorem qZj:q0C Tryz.prog x46:=q02 qUG (q04)
noncomputable def x38 (s:q06) (c:Int):=cxL x46 Tryz.f195 [0,1,2,4,5,6,12,22] [(3,⟨[(1,none),(2,none),(4,none),(5,some 2),(6,none)],[(192,[]),(320,[]),(0,[])]⟩)] (qZl s c) []
noncomputable def q2S (s:q06):Nat:=s.marks.length
noncomputable def qDc (s:q06):Nat×Blk:=(192,Blk.box [q0D (q01 1) 1 s.nodes,q0D (q00 1) 1 (q2s s),vi s.now,V.osl 0 (q2S s)])
noncomputable def qDH (s:q06):Nat×Blk:=(0,Blk.arr 5 (q2S s) (gL (q09 1) s.marks) 100)
noncomputable def qJn (s:q06) (c:Int) (y:Nat):AS:=AS.mk [(1,vi c),(2,V.oref 192 0 0),(4,V.oref 320 0 0),(5,V.osl 32000384 (q2u (List.take y (q2s s)) c).length),(6,vi (↑y:Int))] [(32000384,Blk.arr 2 (q2u (List.take y (q2s s)) c).length (gL (q00 1) (q2u (List.take y (q2s s)) c)) 100),(qDc s),q7x,(qDH s)]
noncomputable def qJY (s:q06) (c:Int) (x:Nat):List (Nat×Blk):=[(32000384,Blk.arr 2 (qGt s c x) (gL (q00 1) (q2u (List.take x (q2s s)) c)) 100),(qDc s),q7x,(qDH s)]
theorem x0a (s:q06) (c:Int) (hpre:qRS s c):q3h (x38 s c) Tryz.f195 [] [.agg [q0D (q01 1) 1 ((s).nodes),q0D (q00 1) 1 ((s).sessions),.int .i64 ((s).now),.osl 0 (s).marks.length],.int .i64 (c)] [(.arr 5 (s).marks.length (gL (q09 1) (s).marks) q0l)] (fun rr bs=>VLe rr (qUU s c)∧q1y bs (qUx s c)):=by
 have key:((∃x:Nat,SLe (AS.mk [(1,vi c),(2,V.oref 192 0 0),(4,V.oref 320 0 0),(5,V.osl 32000384 0),(6,vi 0)] [(32000384,Blk.arr 2 0 (q3C []) 100),(qDc s),q7x,(qDH s)]) (AS.mk [(1,vi c),(2,V.oref 192 0 0),(4,V.oref 320 0 0),(5,V.osl 32000384 (qGt s c x)),(6,vi (↑x:Int))] (qJY s c x))∧x≤(q2s s).length)∧∀x:Nat,x≤(q2s s).length→(decide ((↑x:Int)<(↑ (q2s s).length:Int))=true→(0≤(↑x:Int)∧(↑x:Int)<(↑ (q2s s).length:Int))∧((((q2s s).getD (↑x:Int).toNat default).id !=c)=true→(0≤(↑x:Int)∧(↑x:Int)<(↑ (q2s s).length:Int))∧(q2u (List.take x (q2s s)) c).length=(q2u (List.take x (q2s s)) c).length∧(q2u (List.take x (q2s s)) c).length+1≤1073741824∧q13 2 1 (q3C [q00 1 ((q2s s).getD (↑x:Int).toNat default)])∧(inK IntKind.i64 ((↑x:Int)+1)∧∃y:Nat,SLe (AS.mk [(1,vi c),(2,V.oref 192 0 0),(4,V.oref 320 0 0),(5,V.osl 32000384 ((q2u (List.take x (q2s s)) c).length+1)),(6,vi ((↑x:Int)+1))] [(32000384,Blk.arr 2 ((q2u (List.take x (q2s s)) c).length+1) (q3K (qGt s c x) (gL (q00 1) (q2u (List.take x (q2s s)) c)) (q3C [q00 1 ((q2s s).getD (↑x:Int).toNat default)])) 100),(qDc s),q7x,(qDH s)]) (qJn s c y)∧y≤(q2s s).length∧(q2s s).length-y<(q2s s).length-x))∧((((q2s s).getD (↑x:Int).toNat default).id !=c)=false→(inK IntKind.i64 ((↑x:Int)+1)∧∃y:Nat,SLe (AS.mk [(1,vi c),(2,V.oref 192 0 0),(4,V.oref 320 0 0),(5,V.osl 32000384 (qGt s c x)),(6,vi ((↑x:Int)+1))] (qJY s c x)) (qJn s c y)∧y≤(q2s s).length∧(q2s s).length-y<(q2s s).length-x)))∧(decide ((↑x:Int)<(↑ (q2s s).length:Int))=false→(VLe (q9Z s) (q0D (q01 1) 1 (q0K q03 (q9Z s)))∧VLe (V.sl 1 (q3C [vi c]) 1) (q0D q42 1 (q0K q2G (V.sl 1 (q3C [vi c]) 1)))∧qKu (q0K q03 (q9Z s)) (q0K q2G (V.sl 1 (q3C [vi c]) 1)))∧VLe (V.agg [q0D (q01 1) 2 (q2A (q0K q03 (q9Z s)) (q0K q2G (V.sl 1 (q3C [vi c]) 1))),q0D (q00 1) 2 (q2u (List.take x (q2s s)) c),vi s.now,V.osl 0 (q2S s)]) (V.agg [q0D (q01 1) 0 (q83 s c).nodes,q0D (q00 1) 0 (q83 s c).sessions,vi (q83 s c).now,V.osl 0 (q2S s)])∧BLe (Blk.arr 5 (q2S s) (gL (q09 1) s.marks) 100) (Blk.arr 5 (q2S s) (gL (q09 1) s.marks) 100)∧True)):=by
  delta qJY;delta q9Z;delta qGt;delta qJn;delta qDH;delta q7x;delta qDc;delta q2S;delta q2s;delta vi;obtain⟨hn,hs⟩:=hpre;have ew:q0K q2G (.sl 1 (q3C [.int .i64 c]) 1)=[c]:=rfl;simp only[q0o,ew];refine⟨⟨0,q1Q ⟨rfl,VLe.refl _,rfl,VLe.refl _,rfl,VLe.refl _,rfl,VLe.refl _,rfl,VLe.refl _,trivial⟩ ⟨rfl,q3G _,rfl,BLe.refl _,rfl,BLe.refl _,rfl,BLe.refl _,trivial⟩,by omega⟩,fun i hi=>⟨fun h=>?_,fun h=>?_⟩⟩
  ·have hlt:i<s.sessions.length:=by simpa using h
   have n1:=qOd s.sessions c i;simp only[Int.toNat_natCast];refine⟨⟨by omega,by omega⟩,fun h2=>⟨⟨by omega,by omega⟩,trivial,by omega,q5e rfl rfl,q0X (by omega),i+1,?_,by omega,by omega⟩,fun h2=>⟨q0X (by omega),i+1,?_,by omega,by omega⟩⟩
   ·rw[qO0 hlt (by simpa using h2),List.length_append,List.length_singleton];exact q1Q ⟨rfl,VLe.refl _,rfl,VLe.refl _,rfl,VLe.refl _,rfl,VLe.refl _,rfl,q0I (by omega),trivial⟩ ⟨rfl,q66 rfl rfl,rfl,BLe.refl _,rfl,BLe.refl _,rfl,BLe.refl _,trivial⟩
   ·rw[qTu hlt (by simpa using h2)];exact q1Q ⟨rfl,VLe.refl _,rfl,VLe.refl _,rfl,VLe.refl _,rfl,VLe.refl _,rfl,q0I (by omega),trivial⟩ ⟨rfl,BLe.refl _,rfl,BLe.refl _,rfl,BLe.refl _,rfl,BLe.refl _,trivial⟩
  ·have hge:i=s.sessions.length:=by simp at h;omega
   subst hge;rw[List.take_length];refine⟨⟨VLe.refl _,q96 (fun i hi=>?_) (.inl rfl),hn,by show 1≤1000;omega⟩,?_⟩
   ·have:i=0:=by omega
    subst this;exact ELe.refl _
   ·unfold q83;exact⟨q21 ⟨q5z,q5z,VLe.refl _,VLe.refl _,trivial⟩,BLe.refl _,trivial⟩
 exact Eq.mp (by kernel_rfl) key
noncomputable def qQX:q0P:=fun args bin=>match args,bin with
 |[.agg [n0,n1,.int .i64 n2,.osl i0 m0],.int .i64 a1],[.arr s0 p0 g0 t0]=>some ((i0=0∧s0=5∧t0=q0l∧p0=m0∧∀i,i<m0→ELe (g0 i) (gL (q09 1) (q0K q0H (.sl m0 g0 1)) i))∧VLe n0 (q0D (q01 1) 1 ((q0K q03) n0))∧VLe n1 (q0D (q00 1) 1 ((q0K q05) n1))∧qRS (⟨(q0K q03) n0,(q0K q05) n1,n2,q0K q0H (.sl m0 g0 1)⟩:q06) a1,qUU (⟨(q0K q03) n0,(q0K q05) n1,n2,q0K q0H (.sl m0 g0 1)⟩:q06) a1,qUx (⟨(q0K q03) n0,(q0K q05) n1,n2,q0K q0H (.sl m0 g0 1)⟩:q06) a1)
 |_,_=>none
theorem x0I:q0R Tryz.prog 195 qQX:=by
 refine q0S q77 (tpl:=[]) Tryz.func195 rfl (by kernel_rfl) fun args bin ob r bout hDe hob=>?_;unfold qQX at hDe;split at hDe
 ·rename_i n0 n1 n2 i0 m0 a1 s0 p0 g0 t0;cases hDe;obtain⟨⟨rfl,rfl,rfl,rfl,hg⟩,hn0,hn1,hpre⟩:=hob;exact okQ (x0a (⟨(q0K q03) n0,(q0K q05) n1,n2,q0K q0H (.sl p0 g0 1)⟩:q06) a1 hpre) qZj (args_of_vles ⟨q21 ⟨hn0,hn1,VLe.refl _,VLe.of_eq (by rw[q3y]),trivial⟩,VLe.refl _,trivial⟩) ⟨q6m hg,trivial⟩
 ·cases hDe
def qEF (s:q06) (c:Int) (o:TOp):Prop:=q1A s.nodes=0∧q1q s.sessions=0∧inR s.now 0 9000∧inR c 1 9∧opF o=0
noncomputable def qUX (s:q06) (c:Int) (o:TOp):V:=.tup [.agg [q0D (q01 1) 0 ((doS s c o).nodes),q0D (q00 1) 0 ((doS s c o).sessions),.int .i64 ((doS s c o).now),.osl 0 (s).marks.length],q0V 0 (doR s c o)]
noncomputable def qV9 (s:q06) (c:Int) (o:TOp):List Blk:=[(.arr 5 (s).marks.length (gL (q09 1) (s).marks) q0l)]
noncomputable def x0q:Nat→Option (Fl×q0P):=lk [(193,(.ro,qX8)),(194,(.ro,qTs)),(195,(.rw,qQX)),(196,(.rw,qQd)),(197,(.ro,qPi)),(198,(.ro,qOE)),(200,(.ro,qNl)),(199,(.ro,qH4)),(201,(.ro,qWL))]
theorem x1U:q0C Tryz.prog x0q:=q02 x9f (q02 x2L (q02 x0I (q02 x1x (q02 x1N (q02 x3V (q02 x1n (q02 qNT (q02 xCs (q04)))))))))
noncomputable def qZN (s:q06) (c:Int) (o:TOp):=cxN x0q Tryz.f112 [0,1,2,3,6,7,8,9,10,11,16,25,41,47,48,54,59,81,98,108]
noncomputable def q4e (s:q06):List q0A:=s.nodes
noncomputable def q1E (s:q06):List q0A:=q0K q03 (q0D (q01 1) 1 (q4e s))
noncomputable def q1o (s:q06):List q0U:=q0K q0H (q0D (q09 1) 1 (q1C s))
noncomputable def qFy (s:q06):List q0U:=(q06.mk (q1E s) (q1G s) (q11 s) (q1o s)).marks
noncomputable def q6P (s:q06) (c:Int) (o:TOp):V:=V.tup [V.agg [q0D (q01 1) 0 (doS s c o).nodes,q0D (q00 1) 0 (doS s c o).sessions,vi (doS s c o).now,V.osl 0 (q1C s).length],q0V 0 (doR s c o)]
def q9W (s:q06):Prop:=0=0∧5=5∧100=100∧((q1C s).length=(q1C s).length∧∀i:Nat,i<(q1C s).length→ELe (q09 1 ((q1C s).getD i default)) (q09 1 ((q1o s).getD i default)))
noncomputable def qGD (s:q06):Blk:=Blk.arr 5 (q1C s).length (gL (q09 1) (q1C s)) 100
noncomputable def q4m (s:q06) (o:TOp):V:=q0W 1 (q2P (q1E s) o.path o.data o.version)
def q5O (s:q06):Prop:=VLe (q0D (q01 1) 1 (q4e s)) (q0D (q01 1) 1 (q1E s))
noncomputable def q6k (s:q06):Nat:=(qFy s).length
def q7X (s:q06):Prop:=BLe (Blk.arr 5 (q6k s) (gL (q09 1) (qFy s)) 100) (qGD s)∧True
noncomputable def q6q (s:q06) (o:TOp):V:=q0W 1 (q2j (q1E s) o.path o.data (0:Int) o.seq)
noncomputable def q6e (s:q06) (c:Int) (o:TOp):V:=q0W 1 (q2j (q1E s) o.path o.data c o.seq)
noncomputable def q6i (s:q06) (o:TOp):V:=q0W 1 (q3X (q1E s) o.path o.version)
noncomputable def qCB (s:q06):List V:=[q0D (q01 1) 0 (q4e s),q0D (q00 1) 0 s.sessions,vi (q11 s),V.osl 0 (q1C s).length]
def q7R (s:q06):Prop:=(q1C s).length=(qFy s).length
noncomputable def q7m (s:q06) (o:TOp):Nat:=(atN (q1E s) o.path).toNat
def qAU (s:q06):Prop:=BLe (qGD s) (qGD s)∧True
theorem x1I (s:q06) (c:Int) (o:TOp) (hpre:qEF s c o):q3h (qZN s c o) Tryz.f112 [] [.agg [q0D (q01 1) 1 ((s).nodes),q0D (q00 1) 1 ((s).sessions),.int .i64 ((s).now),.osl 0 (s).marks.length],.int .i64 (c),q3f 1 (o)] [(.arr 5 (s).marks.length (gL (q09 1) (s).marks) q0l)] (fun rr bs=>VLe rr (qUX s c o)∧q1y bs (qV9 s c o)):=by
 have key:((o.kind==1)=true→(q5U s∧qYk (q1G s) c (q11 s))∧(((q9a (q1G s) c (q11 s)).code !=0)=true→VLe (V.tup [V.agg (qCB s),V.agg [vi (q9a (q1G s) c (q11 s)).code,vi 0,V.str (ByteArray.mk #[])]]) (q6P s c o)∧qAU s)∧(((q9a (q1G s) c (q11 s)).code !=0)=false→VLe (V.tup [V.agg [q0D (q01 1) 0 (q4e s),q0D (q00 1) 2 (q9a (q1G s) c (q11 s)).sessions,vi (q11 s),V.osl 0 (q1C s).length],V.agg [vi 0,vi 0,V.str (ByteArray.mk #[])]]) (q6P s c o)∧qAU s))∧((o.kind==1)=false→(q5U s∧qSM (q1G s) c (q11 s))∧((!q6c (q1G s) c (q11 s))=true→VLe (V.tup [V.agg (qCB s),V.agg [vi 9,vi 0,V.str (ByteArray.mk #[])]]) (q6P s c o)∧qAU s)∧((!q6c (q1G s) c (q11 s))=false→((o.kind==2)=true→(q9W s∧q5O s∧q5U s∧qRS (q06.mk (q1E s) (q1G s) (q11 s) (q1o s)) c)∧q7R s∧VLe (V.tup [V.agg [q0D (q01 1) 0 (q83 (q06.mk (q1E s) (q1G s) (q11 s) (q1o s)) c).nodes,q0D (q00 1) 0 (q83 (q06.mk (q1E s) (q1G s) (q11 s) (q1o s)) c).sessions,vi (q83 (q06.mk (q1E s) (q1G s) (q11 s) (q1o s)) c).now,V.osl 0 (q6k s)],V.agg [vi 0,vi 0,V.str (ByteArray.mk #[])]]) (q6P s c o)∧q7X s)∧((o.kind==2)=false→((o.kind==3)=true→(o.own=true→(q5O s∧qM4 (q1E s) o.path o.data c o.seq)∧(q9W s∧q5O s∧q5U s∧VLe (q6e s c o) (q0W 1 (q0j (q6e s c o)))∧qCZ (q06.mk (q1E s) (q1G s) (q11 s) (q1o s)) (q0j (q6e s c o)) (0:Int))∧q7R s∧VLe (V.tup [V.agg [q0D (q01 1) 0 (q3I (q06.mk (q1E s) (q1G s) (q11 s) (q1o s)) (q0j (q6e s c o)) (0:Int)).nodes,q0D (q00 1) 0 (q3I (q06.mk (q1E s) (q1G s) (q11 s) (q1o s)) (q0j (q6e s c o)) (0:Int)).sessions,vi (q3I (q06.mk (q1E s) (q1G s) (q11 s) (q1o s)) (q0j (q6e s c o)) (0:Int)).now,V.osl 0 (q6k s)],q0V 1 (q81 (q06.mk (q1E s) (q1G s) (q11 s) (q1o s)) (q0j (q6e s c o)) (0:Int))]) (q6P s c o)∧q7X s)∧(o.own=false→(q5O s∧qM4 (q1E s) o.path o.data (0:Int) o.seq)∧(q9W s∧q5O s∧q5U s∧VLe (q6q s o) (q0W 1 (q0j (q6q s o)))∧qCZ (q06.mk (q1E s) (q1G s) (q11 s) (q1o s)) (q0j (q6q s o)) (0:Int))∧q7R s∧VLe (V.tup [V.agg [q0D (q01 1) 0 (q3I (q06.mk (q1E s) (q1G s) (q11 s) (q1o s)) (q0j (q6q s o)) (0:Int)).nodes,q0D (q00 1) 0 (q3I (q06.mk (q1E s) (q1G s) (q11 s) (q1o s)) (q0j (q6q s o)) (0:Int)).sessions,vi (q3I (q06.mk (q1E s) (q1G s) (q11 s) (q1o s)) (q0j (q6q s o)) (0:Int)).now,V.osl 0 (q6k s)],q0V 1 (q81 (q06.mk (q1E s) (q1G s) (q11 s) (q1o s)) (q0j (q6q s o)) (0:Int))]) (q6P s c o)∧q7X s))∧((o.kind==3)=false→((o.kind==4)=true→(q5O s∧qRF (q1E s) o.path o.version)∧(q9W s∧q5O s∧q5U s∧VLe (q6i s o) (q0W 1 (q0j (q6i s o)))∧qCZ (q06.mk (q1E s) (q1G s) (q11 s) (q1o s)) (q0j (q6i s o)) (0:Int))∧q7R s∧VLe (V.tup [V.agg [q0D (q01 1) 0 (q3I (q06.mk (q1E s) (q1G s) (q11 s) (q1o s)) (q0j (q6i s o)) (0:Int)).nodes,q0D (q00 1) 0 (q3I (q06.mk (q1E s) (q1G s) (q11 s) (q1o s)) (q0j (q6i s o)) (0:Int)).sessions,vi (q3I (q06.mk (q1E s) (q1G s) (q11 s) (q1o s)) (q0j (q6i s o)) (0:Int)).now,V.osl 0 (q6k s)],q0V 1 (q81 (q06.mk (q1E s) (q1G s) (q11 s) (q1o s)) (q0j (q6i s o)) (0:Int))]) (q6P s c o)∧q7X s)∧((o.kind==4)=false→((o.kind==5)=true→(q5O s∧q9o (q1E s) o.path)∧(decide (atN (q1E s) o.path≥(0:Int))=true→((0:Int)≤atN (q1E s) o.path∧atN (q1E s) o.path<(↑ (q4e s).length:Int))∧inK IntKind.i64 (((q4e s).getD (q7m s o) default).version+(1:Int))∧(q5O s∧qM7 (q1E s) o.path o.data o.version)∧(q9W s∧q5O s∧q5U s∧VLe (q4m s o) (q0W 1 (q0j (q4m s o)))∧qCZ (q06.mk (q1E s) (q1G s) (q11 s) (q1o s)) (q0j (q4m s o)) (((q4e s).getD (q7m s o) default).version+(1:Int)))∧q7R s∧VLe (V.tup [V.agg [q0D (q01 1) 0 (q3I (q06.mk (q1E s) (q1G s) (q11 s) (q1o s)) (q0j (q4m s o)) (((q4e s).getD (q7m s o) default).version+(1:Int))).nodes,q0D (q00 1) 0 (q3I (q06.mk (q1E s) (q1G s) (q11 s) (q1o s)) (q0j (q4m s o)) (((q4e s).getD (q7m s o) default).version+(1:Int))).sessions,vi (q3I (q06.mk (q1E s) (q1G s) (q11 s) (q1o s)) (q0j (q4m s o)) (((q4e s).getD (q7m s o) default).version+(1:Int))).now,V.osl 0 (q6k s)],q0V 1 (q81 (q06.mk (q1E s) (q1G s) (q11 s) (q1o s)) (q0j (q4m s o)) (((q4e s).getD (q7m s o) default).version+(1:Int)))]) (q6P s c o)∧q7X s)∧(decide (atN (q1E s) o.path≥(0:Int))=false→(q5O s∧qM7 (q1E s) o.path o.data o.version)∧(q9W s∧q5O s∧q5U s∧VLe (q4m s o) (q0W 1 (q0j (q4m s o)))∧qCZ (q06.mk (q1E s) (q1G s) (q11 s) (q1o s)) (q0j (q4m s o)) (0:Int))∧q7R s∧VLe (V.tup [V.agg [q0D (q01 1) 0 (q3I (q06.mk (q1E s) (q1G s) (q11 s) (q1o s)) (q0j (q4m s o)) (0:Int)).nodes,q0D (q00 1) 0 (q3I (q06.mk (q1E s) (q1G s) (q11 s) (q1o s)) (q0j (q4m s o)) (0:Int)).sessions,vi (q3I (q06.mk (q1E s) (q1G s) (q11 s) (q1o s)) (q0j (q4m s o)) (0:Int)).now,V.osl 0 (q6k s)],q0V 1 (q81 (q06.mk (q1E s) (q1G s) (q11 s) (q1o s)) (q0j (q4m s o)) (0:Int))]) (q6P s c o)∧q7X s))∧((o.kind==5)=false→(VLe (q0b 1 s) (q0b 1 (q14 (q0b 1 s)))∧VLe (q3f 1 o) (q3f 1 (q0x (q3f 1 o)))∧qXP (q14 (q0b 1 s)) (q0x (q3f 1 o)))∧VLe (V.tup [V.agg (qCB s),q0V 1 (q4j (q14 (q0b 1 s)).nodes (q0x (q3f 1 o)))]) (q6P s c o)∧qAU s)))))):=by
  delta qAU;delta q7m;delta q7R;delta qCB;delta q6i;delta q6e;delta q6q;delta q7X;delta q6k;delta q5U;delta q5O;delta q4m;delta qGD;delta q9W;delta q6P;delta qFy;delta q1o;delta q1C;delta q11;delta q1G;delta q1E;delta q4e;delta vi;obtain⟨ht,hs,hnow,hc,ho⟩:=hpre;obtain⟨hl,hr,hn⟩:=q2J ht;have hk:=q4T hs;have hsl:=hk.1;simp only[q0p,q0o,q1X,q9D,q3F,q7P,q2i,Int.toNat_natCast];have hnl:s.nodes.length≤1000:=by omega
  have hsl2:s.sessions.length≤1000:=by omega
  have hnm:s.nodes.length≤maxLen:=by unfold maxLen;omega
  have hsm:s.sessions.length≤maxLen:=by unfold maxLen;omega
  have hlt:qMN s.nodes:=fun z hz=>by
   obtain⟨a1,a2,a3,a4,a5,a6,a7⟩:=hn z hz;unfold inR at a5 a7;exact⟨(q5N a2).1,by omega,a5.1,a7.1⟩
  have hp:3≤o.kind→o.kind≤8→0<o.path.size∧o.path.size≤900:=fun g g2=>by
   have p0:=qQj ho (by unfold q8j inR;omega);have:=q8C p0;exact⟨(q5N (q4n p0)).1,by omega⟩
  have okk:okK o.kind:=by
   unfold opF at ho;split at ho
   ·cases ho
   ·rename_i g;exact Classical.byContradiction fun g2=>g (.inl g2)
  unfold okK inR at okk;refine⟨fun k1=>⟨⟨VLe.refl _,hsl2,hk.2.1,hnow⟩,fun h=>?_,fun h=>?_⟩,fun k1=>⟨⟨VLe.refl _,hsm⟩,fun h=>?_,fun hlv=>?_⟩⟩
  ·have e:doF s c o=(s,⟨(q4S s.sessions c s.now).code,0,q1f⟩):=by rw[do1 k1,if_pos (show(q4S s.sessions c s.now).code≠0 from bnT h)]
   exact qN5 (tr:=0) e
  ·have e:doF s c o=(⟨s.nodes,(q4S s.sessions c s.now).sessions,s.now,s.marks⟩,⟨0,0,q1f⟩):=by rw[do1 k1,if_neg (show¬(q4S s.sessions c s.now).code≠0 from bnF h)]
   exact qN5 (tr:=0) e
  ·have e:doF s c o=(s,⟨9,0,q1f⟩):=by rw[doL k1,if_pos (by simpa using h)]
   exact qN5 (tr:=0) e
  have lv:¬¬q6c s.sessions c s.now=true:=by simpa using hlv
  have dL:=doL (s:=s) (c:=c) k1;rw[if_neg lv]at dL;refine⟨fun k2=>⟨⟨⟨trivial,trivial,trivial,trivial,fun i hi=>ELe.refl _⟩,VLe.refl _,VLe.refl _,hnl,hsl2⟩,trivial,?_⟩,fun k2=>?_⟩
  ·have e:doF s c o=(q83 s c,⟨0,0,q1f⟩):=by
    unfold q83;rw[dL,if_pos (eq_of_beq k2)]
   exact qN5 (tr:=0) e
  have n2:¬o.kind=2:=by simpa using k2
  rw[if_neg n2]at dL;refine⟨fun k3=>⟨fun ow=>⟨⟨VLe.refl _,hnl,hlt,hp (by have:=eq_of_beq k3;omega) okk.2⟩,⟨⟨trivial,trivial,trivial,trivial,fun i hi=>ELe.refl _⟩,VLe.refl _,VLe.refl _,VLe.refl _,trivial⟩,trivial,qIU ?_⟩,fun ow=>⟨⟨VLe.refl _,hnl,hlt,hp (by have:=eq_of_beq k3;omega) okk.2⟩,⟨⟨trivial,trivial,trivial,trivial,fun i hi=>ELe.refl _⟩,VLe.refl _,VLe.refl _,VLe.refl _,trivial⟩,trivial,qIU ?_⟩⟩,fun k3=>?_⟩
  ·rw[dL,if_pos (eq_of_beq k3),if_pos ow]
  ·rw[dL,if_pos (eq_of_beq k3),if_neg (by rw[ow];decide)]
  have n3:¬o.kind=3:=by simpa using k3
  rw[if_neg n3]at dL;refine⟨fun k4=>⟨⟨VLe.refl _,hnl,hlt⟩,⟨⟨trivial,trivial,trivial,trivial,fun i hi=>ELe.refl _⟩,VLe.refl _,VLe.refl _,VLe.refl _,trivial⟩,trivial,qIU ?_⟩,fun k4=>?_⟩
  ·rw[dL,if_pos (eq_of_beq k4)]
  have n4:¬o.kind=4:=by simpa using k4
  rw[if_neg n4]at dL;refine⟨fun k5=>⟨⟨VLe.refl _,hnm⟩,fun ha=>?_,fun ha=>⟨⟨VLe.refl _,hnl,hlt⟩,⟨⟨trivial,trivial,trivial,trivial,fun i hi=>ELe.refl _⟩,VLe.refl _,VLe.refl _,VLe.refl _,trivial⟩,trivial,qIU ?_⟩⟩,fun k5=>⟨⟨VLe.refl _,VLe.refl _,hnl,hlt,?_⟩,?_⟩⟩
  ·have a0:0≤atN s.nodes o.path:=of_decide_eq_true ha;have a1:atN s.nodes o.path<s.nodes.length∨atN s.nodes o.path=-1:=qAq _ _;have hm:(s.nodes.getD (atN s.nodes o.path).toNat default)∈s.nodes:=q3w (by omega);have hv:=(hn _ hm).2.2.2.2.1;unfold inR at hv;refine⟨⟨a0,by omega⟩,q0X (by omega),⟨VLe.refl _,hnl,hlt⟩,⟨⟨trivial,trivial,trivial,trivial,fun i hi=>ELe.refl _⟩,VLe.refl _,VLe.refl _,VLe.refl _,trivial⟩,trivial,qIU ?_⟩;rw[dL,if_pos (eq_of_beq k5)];unfold qTW;rw[if_pos a0]
  ·have a0:¬0≤atN s.nodes o.path:=of_decide_eq_false ha;rw[dL,if_pos (eq_of_beq k5)];unfold qTW;rw[if_neg a0]
  all_goals have n5:¬o.kind=5:=by simpa using k5
  all_goals have n1:¬o.kind=1:=by simpa using k1
  ·show 6≤o.kind;omega
  ·have e:doF s c o=(s,q4j s.nodes o):=by rw[dL,if_neg n5]
   exact qN5 (tr:=0) e
 exact Eq.mp (by kernel_rfl) key
noncomputable def qLy:q0P:=fun args bin=>match args,bin with
 |[.agg [n0,n1,.int .i64 n2,.osl i0 m0],.int .i64 a1,a2],[.arr s0 p0 g0 t0]=>some ((i0=0∧s0=5∧t0=q0l∧p0=m0∧∀i,i<m0→ELe (g0 i) (gL (q09 1) (q0K q0H (.sl m0 g0 1)) i))∧VLe n0 (q0D (q01 1) 1 ((q0K q03) n0))∧VLe n1 (q0D (q00 1) 1 ((q0K q05) n1))∧VLe a2 (q3f 1 ((q0x a2)))∧qEF (⟨(q0K q03) n0,(q0K q05) n1,n2,q0K q0H (.sl m0 g0 1)⟩:q06) a1 (q0x a2),qUX (⟨(q0K q03) n0,(q0K q05) n1,n2,q0K q0H (.sl m0 g0 1)⟩:q06) a1 (q0x a2),qV9 (⟨(q0K q03) n0,(q0K q05) n1,n2,q0K q0H (.sl m0 g0 1)⟩:q06) a1 (q0x a2))
 |_,_=>none
theorem qUZ:q0R Tryz.prog 112 qLy:=by
 refine q0S q77 (tpl:=[]) Tryz.func112 rfl (by kernel_rfl) fun args bin ob r bout hDe hob=>?_;unfold qLy at hDe;split at hDe
 ·rename_i n0 n1 n2 i0 m0 a1 a2 s0 p0 g0 t0;cases hDe;obtain⟨⟨rfl,rfl,rfl,rfl,hg⟩,hn0,hn1,hv2,hpre⟩:=hob;exact okQ (x1I (⟨(q0K q03) n0,(q0K q05) n1,n2,q0K q0H (.sl p0 g0 1)⟩:q06) a1 (q0x a2) hpre) x1U (args_of_vles ⟨q21 ⟨hn0,hn1,VLe.refl _,VLe.of_eq (by rw[q3y]),trivial⟩,VLe.refl _,hv2,trivial⟩) ⟨q6m hg,trivial⟩
 ·cases hDe
theorem qHb {r:q0E} {i:Nat} {c:Int} (h1:¬¬(inR r.client 1 9∧inR r.number 1 99∧inR r.time 0 9000)) (h2:¬(r.ops.length<1∨3<r.ops.length)) (hz:q1s (qJA r.ops) i=0) (hlt:i<r.ops.length) (hc:c=qJA r.ops i) (h0:c≠0):q7T r=c:=by
 have e:=q5T hz (show qJA r.ops i≠0 by rw[←hc];exact h0) r.ops.length hlt;unfold q7T;rw[if_neg h1,if_neg h2,e,←hc,if_pos h0]
theorem or3 {A B C:Prop} [Decidable A] [Decidable B] [Decidable C]:(bif (bif !decide A then true else !decide B)then true else !decide C)=decide (¬(A∧B∧C)):=by
 by_cases a:A<;>by_cases b:B<;>by_cases c:C<;>simp[a,b,c]
theorem rq1 {r:q0E} (h:¬(inR r.client 1 9∧inR r.number 1 99∧inR r.time 0 9000)):q7T r=3:=if_pos h
theorem rq2 {r:q0E} (h:¬¬(inR r.client 1 9∧inR r.number 1 99∧inR r.time 0 9000)) (h2:r.ops.length<1∨3<r.ops.length):q7T r=2:=by
 unfold q7T;rw[if_neg h,if_pos h2]
theorem rq3 {r:q0E} (h:¬¬(inR r.client 1 9∧inR r.number 1 99∧inR r.time 0 9000)) (h2:¬(r.ops.length<1∨3<r.ops.length)) (hz:q1s (qJA r.ops) r.ops.length=0):
  q7T r=if 1<r.ops.length∧r.ops.any q2T=true then 1 else 0:=by
 unfold q7T;rw[if_neg h,if_neg h2,if_neg (not_not_intro hz)]
theorem bz0 {c:Int} (h:(c !=0)=false):c=0:=by simpa using h
theorem qVu {o:TOp} (h:opF o=0):decide (o.kind≤2)=q2T o:=by
 have h1:inR o.kind 1 8:=by
  unfold opF at h;split at h
  ·cases h
  ·rename_i g;exact Classical.byContradiction fun g2=>g (.inl g2)
 unfold inR at h1;unfold q2T;rw[Bool.eq_iff_iff,decide_eq_true_eq,decide_eq_true_eq];omega
def qYR (o:TOp):Prop:=True
noncomputable def x2j (o:TOp):V:=.bool (q2T o)
noncomputable def qXz:q0P:=fun args bin=>match args,bin with
 |[a0],[]=>some (VLe a0 (q0Q 1 ((q0a a0)))∧qYR (q0a a0),x2j (q0a a0),[])
 |_,_=>none
noncomputable def xDb:=lkR []
theorem x6y:q0C Tryz.prog xDb:=q04
noncomputable def x8L (o:TOp):=cxN xDb Tryz.f157 [0,1,2]
theorem x9u (o:TOp) (hpre:qYR o):q0d (x8L o) Tryz.f157 0 [q0Q 1 (o)] (fun rr=>VLe rr (x2j o)):=by
 have key:tq (!TOp.kind o==1)∧tq (!TOp.kind o==1)∧((true=true→(o.kind==1)=false→(!TOp.kind o==1)=true)∧∀b:Bool,(b=bif TOp.kind o==1 then true else o.kind==2)→VLe (V.bool b) (V.bool (q2T o))):=by
  refine⟨tqI _,tqI _,fun _ h=>by rw[h];rfl,fun b hb=>q0Z ?_⟩;rw[hb];unfold q2T;by_cases a:o.kind=1<;>by_cases c:o.kind=2<;>simp[a,c]
 exact Eq.mp (by kernel_rfl) key
theorem xBC:q0R Tryz.prog 157 qXz:=by
 refine sob 0 Tryz.func157 fun args bin ob r bout hDe hob=>?_;unfold qXz at hDe;split at hDe
 ·rename_i a0;cases hDe;exact okB (x9u (q0a a0) (hob.2)) x6y (args_of_vles ⟨hob.1,trivial⟩)
 ·cases hDe
def qDP (xs:List TOp):Prop:=xs.length≤maxLen∧(True)
noncomputable def qHE (xs:List TOp):V:=.int .i64 (q5l (fun o=>q2T o) xs)
noncomputable def qCg:q0P:=fun args bin=>match args,bin with
 |[a0,.fn 157 []],[]=>some (VLe a0 (q0D (q0Q 1) 1 (((q0K q0a) a0)))∧qDP ((q0K q0a) a0),qHE ((q0K q0a) a0),[])
 |_,_=>none
noncomputable def qJF (xs:List TOp):q0M:=
 ⟨Nat,fun i=>⟨[(0,q0D (q0Q 1) 1 xs),(1,.fn 157 []),(7,.int .i64 xs.length),(8,.int .i64 i)],[]⟩,
  fun i=>i≤xs.length∧∀j,j<i→(fun o=>q2T o) (xs.getD j default)=false,fun i=>xs.length-i⟩
noncomputable def qOW (xs:List TOp):Nat→Option q0M:=fun rg_=>match rg_ with
 |2=>some (qJF xs)
 |_=>none
noncomputable def qKA:=lkR [(157,qXz)]
theorem qNo:q0C Tryz.prog qKA:=q02 xBC (q04)
noncomputable def qPv (xs:List TOp):=cxL qKA Tryz.f223 [0,1,4,5,7,8,9,16] [(2,⟨[(0,none),(1,none),(7,none),(8,none)],[]⟩)] (qOW xs) []
noncomputable def q36 (xs:List TOp) (x:Nat):V:=q0Q 1 (xs.getD (↑x:Int).toNat default)
noncomputable def q0s (xs:List TOp):Int:=(↑ xs.length:Int)
noncomputable def q7E:Nat×V:=(1,V.fn (157:FuncId) [])
def qAn (xs:List TOp) (x:Nat):Prop:=(x≤xs.length∧∀j:Nat,j<x→q2T (xs.getD j default)=false)
theorem qOx (xs:List TOp) (hpre:qDP xs):q0d (qPv xs) Tryz.f223 0 [q0D (q0Q 1) 1 (xs),.fn 157 []] (fun rr=>VLe rr (qHE xs)):=by
 have key:((∃x:Nat,SLe (AS.mk [(0,q0D (q0Q 1) 1 xs),q7E,(7,vi (q0s xs)),(8,vi 0)] []) (AS.mk [(0,q0D (q0Q 1) 1 xs),q7E,(7,vi (q0s xs)),(8,vi (↑x:Int))] [])∧qAn xs x)∧∀x:Nat,qAn xs x→(decide ((↑x:Int)<(q0s xs))=true→(0≤(↑x:Int)∧(↑x:Int)<(q0s xs))∧(VLe (q36 xs x) (q0Q 1 (q0a (q36 xs x)))∧qYR (q0a (q36 xs x)))∧(q2T (q0a (q36 xs x))=true→VLe (vi (↑x:Int)) (vi (q5l (fun(o:TOp) ↦ q2T o) xs)))∧(q2T (q0a (q36 xs x))=false→(inK IntKind.i64 ((↑x:Int)+1)∧∃y:Nat,SLe (AS.mk [(0,q0D (q0Q 1) 1 xs),q7E,(7,vi (q0s xs)),(8,vi ((↑x:Int)+1))] []) (AS.mk [(0,q0D (q0Q 1) 1 xs),q7E,(7,vi (q0s xs)),(8,vi (↑y:Int))] [])∧(y≤xs.length∧∀j:Nat,j<y→q2T (xs.getD j default)=false)∧xs.length-y<xs.length-x)))∧(decide ((↑x:Int)<(q0s xs))=false→VLe (vi (-1)) (vi (q5l (fun(o:TOp) ↦ q2T o) xs)))):=by
  delta qAn;delta q7E;delta q0s;delta q36;delta vi;obtain⟨hlen,hp⟩:=hpre;unfold maxLen at hlen;refine⟨⟨0,SLe.refl _,by omega,fun j hj=>absurd hj (Nat.not_lt_zero j)⟩,?_⟩;rintro i ⟨hi,hj⟩;refine⟨fun h=>?_,fun h=>?_⟩
  ·have hlt:i<xs.length:=by simpa using h
   have hin:xs.getD i default∈xs:=by simp[hlt]
   simp only[Int.toNat_natCast,q4G,q6T];refine⟨⟨by omega,by omega⟩,⟨VLe.refl _,trivial⟩,fun h2=>q0I (q3i hlt hj h2).symm,fun h2=>⟨q0X (by omega),i+1,SLe.refl _,⟨by omega,fun j h3=>?_⟩,by omega⟩⟩;rcases Nat.lt_or_ge j i with h4|h4
   ·exact hj j h4
   ·have:j=i:=by omega
    subst this;exact h2
  ·have hge:i=xs.length:=by simp at h;omega
   exact q0I (q4b fun j h3=>hj j (by omega)).symm
 exact Eq.mp (by kernel_rfl) key
theorem qOb:q0R Tryz.prog 223 qCg:=by
 refine sob 0 Tryz.func223 fun args bin ob r bout hDe hob=>?_;unfold qCg at hDe;split at hDe
 ·rename_i a0;cases hDe;exact okB (qOx ((q0K q0a) a0) (hob.2)) qNo (args_of_vles ⟨hob.1,VLe.refl _,trivial⟩)
 ·cases hDe
def qCI (xs:List TOp):Prop:=xs.length≤maxLen∧(True)
noncomputable def qIk (xs:List TOp):V:=.bool (xs.any (fun o=>q2T o))
noncomputable def qDo:q0P:=fun args bin=>match args,bin with
 |[a0,.fn 157 []],[]=>some (VLe a0 (q0D (q0Q 1) 1 (((q0K q0a) a0)))∧qCI ((q0K q0a) a0),qIk ((q0K q0a) a0),[])
 |_,_=>none
noncomputable def qKv:=lkR [(223,qCg)]
theorem qR3:q0C Tryz.prog qKv:=q02 qOb (q04)
noncomputable def qPH (xs:List TOp):=cxN qKv Tryz.f156 [0,1,4]
theorem qRt (xs:List TOp) (hpre:qCI xs):q0d (qPH xs) Tryz.f156 0 [q0D (q0Q 1) 1 (xs),.fn 157 []] (fun rr=>VLe rr (qIk xs)):=by
 have key:(VLe (q0D (q0Q 1) 1 xs) (q0D (q0Q 1) 1 (q0K q0a (q0D (q0Q 1) 1 xs)))∧qDP (q0K q0a (q0D (q0Q 1) 1 xs)))∧VLe (V.bool (decide (q5l (fun(o:TOp) ↦ q2T o) (q0K q0a (q0D (q0Q 1) 1 xs))≥(0:Int)))) (V.bool (List.any xs fun(o:TOp) ↦ q2T o)):=by
  simp only[q8f,q9m,q6T];refine⟨?_,q0Z (q6O _ _)⟩
  repeat' (first|exact VLe.refl _|exact hpre|apply And.intro)
 exact Eq.mp (by kernel_rfl) key
theorem qQz:q0R Tryz.prog 156 qDo:=by
 refine sob 0 Tryz.func156 fun args bin ob r bout hDe hob=>?_;unfold qDo at hDe;split at hDe
 ·rename_i a0;cases hDe;exact okB (qRt ((q0K q0a) a0) (hob.2)) qR3 (args_of_vles ⟨hob.1,VLe.refl _,trivial⟩)
 ·cases hDe
def xBw (r:q0E):Prop:=r.ops.length≤maxLen
noncomputable def xEM (r:q0E):V:=.int .i64 (q7T r)
noncomputable def xCK:q0P:=fun args bin=>match args,bin with
 |[a0],[]=>some (VLe a0 (q0t 1 ((q0N a0)))∧xBw (q0N a0),xEM (q0N a0),[])
 |_,_=>none
noncomputable def x2d (r:q0E):q0M:=
 ⟨Nat,fun i=>⟨[(1,.oref 128 0 0),(30,q0D (q0Q 1) 1 r.ops),(31,.int .i64 r.ops.length),(32,.int .i64 i)],[(128,.box (q0t 1 r).cells)]⟩,
  fun i=>i≤r.ops.length∧q1s (qJA r.ops) i=0,fun i=>r.ops.length-i⟩
noncomputable def xFk (r:q0E):Nat→Option q0M:=fun rg_=>match rg_ with
 |6=>some (x2d r)
 |_=>none
noncomputable def D93:=lkR [(107,qMa),(120,q9i),(119,qNe),(108,qXc),(156,qDo)]
theorem xGO:q0C Tryz.prog D93:=q02 qT1 (q02 qBu (q02 qVq (q02 x6H (q02 qQz (q04)))))
noncomputable def xGQ (r:q0E):=cxL D93 Tryz.f93 [0,1,2,4,5,6,23,30,31,32,33,39,50] [(6,⟨[(1,none),(30,none),(31,none),(32,none)],[(128,[])]⟩)] (xFk r) []
noncomputable def q0v (r:q0E):List TOp:=r.ops
noncomputable def qMz (r:q0E):Nat:=(q0v r).length
noncomputable def q0k (r:q0E):Int:=r.client
noncomputable def qQx (r:q0E):Nat×Blk:=(128,Blk.box [vi (q0k r),vi r.number,vi r.time,q0D (q0Q 1) 1 (q0v r)])
noncomputable def q7D (r:q0E) (x:Nat):V:=q0Q 1 ((q0v r).getD (↑x:Int).toNat default)
noncomputable def q2C (r:q0E):Int:=(↑ (qMz r):Int)
noncomputable def qPt (r:q0E):Nat×V:=(30,q0D (q0Q 1) 1 (q0v r))
theorem xHA (r:q0E) (hpre:xBw r):q0d (xGQ r) Tryz.f93 0 [q0t 1 (r)] (fun rr=>VLe rr (xEM r)):=by
 have key:qGK (q0k r)∧tq (!!decide (inR (q0k r) 1 9))∧tq (!!decide (inR (q0k r) 1 9))∧((!!decide (inR (q0k r) 1 9))=true→q64 r.number (1:Int) (99:Int))∧tq (!!decide (inR (q0k r) 1 9))∧((true=true→(!decide (inR (q0k r) 1 9))=false→(!!decide (inR (q0k r) 1 9))=true)∧∀b:Bool,(b=bif !decide (inR (q0k r) 1 9)then true else !decide (inR r.number 1 99))→tq (!b)∧tq (!b)∧((!b)=true→qN1 r.time)∧tq (!b)∧((true=true→b=false→(!b)=true)∧∀b_1:Bool,(b_1=bif b then true else !decide (inR r.time 0 9000))→(b_1=true→VLe (vi 3) (vi (q7T r)))∧(b_1=false→q64 (q2C r) (1:Int) (3:Int)∧((!decide (inR (q2C r) (1:Int) (3:Int)))=true→VLe (vi 2) (vi (q7T r)))∧((!decide (inR (q2C r) (1:Int) (3:Int)))=false→((∃x:Nat,SLe (AS.mk [(1,V.oref 128 0 0),(qPt r),(31,vi (q2C r)),(32,vi 0)] [qQx r]) (AS.mk [(1,V.oref 128 0 0),(qPt r),(31,vi (q2C r)),(32,vi (↑x:Int))] [qQx r])∧x≤(q0v r).length∧q1s (qJA (q0v r)) x=(0:Int))∧∀x:Nat,x≤(q0v r).length∧q1s (qJA (q0v r)) x=(0:Int)→(decide ((↑x:Int)<(q2C r))=true→(0≤(↑x:Int)∧(↑x:Int)<(q2C r))∧(VLe (q7D r x) (q0Q 1 (q0a (q7D r x)))∧qYq (q0a (q7D r x)))∧((opF (q0a (q7D r x))!=0)=true→VLe (vi (opF (q0a (q7D r x)))) (vi (q7T r)))∧((opF (q0a (q7D r x))!=0)=false→(inK IntKind.i64 ((↑x:Int)+1)∧∃y:Nat,SLe (AS.mk [(1,V.oref 128 0 0),(qPt r),(31,vi (q2C r)),(32,vi ((↑x:Int)+1))] [qQx r]) (AS.mk [(1,V.oref 128 0 0),(qPt r),(31,vi (q2C r)),(32,vi (↑y:Int))] [qQx r])∧(y≤(q0v r).length∧q1s (qJA (q0v r)) y=(0:Int))∧(q0v r).length-y<(q0v r).length-x)))∧(decide ((↑x:Int)<(q2C r))=false→tq (decide ((q2C r)>1))∧tq (decide ((q2C r)>1))∧(decide ((q2C r)>1)=true→VLe (q0D (q0Q 1) 1 (q0v r)) (q0D (q0Q 1) 1 (q0K q0a (q0D (q0Q 1) 1 (q0v r))))∧qCI (q0K q0a (q0D (q0Q 1) 1 (q0v r))))∧((true=true→decide ((q2C r)>1)=true→decide ((q2C r)>1)=true)∧∀b_2:Bool,(b_2=bif decide ((q2C r)>1)then List.any (q0K q0a (q0D (q0Q 1) 1 (q0v r))) fun(o:TOp) ↦ q2T o else false)→(b_2=true→VLe (vi 1) (vi (q7T r)))∧(b_2=false→VLe (vi 0) (vi (q7T r)))))))))):=by
  delta qPt;delta q2C;delta q7D;delta qQx;delta q0k;delta qMz;delta q0v;delta vi;have hl:r.ops.length≤maxLen:=hpre;have hl2:=hl;unfold maxLen at hl2
  repeat (first|refine And.intro (tqI _) ?_|refine And.intro trivial ?_|refine And.intro (fun _=>trivial) ?_|refine And.intro (fun _ h=>by rw[h];rfl) ?_|intro q hq)
  rename_i q1 hq1;have e0:q=decide (¬(inR r.client 1 9∧inR r.number 1 99∧inR r.time 0 9000)):=by rw[hq,hq1];exact or3
  rw[e0];clear e0 hq hq1;refine⟨fun h=>q0I (rq1 (of_decide_eq_true h)).symm,fun h=>?_⟩;have ha:=of_decide_eq_false h;refine⟨trivial,fun h2=>?_,fun h2=>?_⟩
  ·have h3:¬inR (r.ops.length:Int) 1 3:=by simpa using h2
   unfold inR at h3;exact q0I (rq2 ha (by omega)).symm
  have hb:¬(r.ops.length<1∨3<r.ops.length):=by
   have h3:inR (r.ops.length:Int) 1 3:=by simpa using h2
   unfold inR at h3;omega
  refine⟨⟨0,SLe.refl _,by omega,rfl⟩,?_⟩;rintro i ⟨hi,hz⟩;refine⟨fun h3=>?_,fun h3=>?_⟩
  ·have hlt:i<r.ops.length:=by simpa using h3
   simp only[Int.toNat_natCast,q4G];exact⟨⟨by omega,by omega⟩,⟨VLe.refl _,trivial⟩,fun h4=>q0I (qHb ha hb hz hlt rfl (bne_iff_ne.1 h4)).symm,fun h4=>⟨q0X (by omega),i+1,SLe.refl _,⟨by omega,q4F hz (bz0 h4)⟩,by omega⟩⟩
  ·have hge:i=r.ops.length:=by have:=of_decide_eq_false h3;omega
   subst hge;simp only[q9m]
   repeat (first|refine And.intro (tqI _) ?_|refine And.intro (fun _=>⟨VLe.refl _,hl,trivial⟩) ?_|refine And.intro (fun _ h=>h) ?_|intro q hq)
   have e1:q=decide (1<r.ops.length∧r.ops.any q2T=true):=by
    rw[hq];show(bif decide ((r.ops.length:Int)>1)then r.ops.any q2T else false)=_;generalize r.ops.any q2T=y;by_cases a:1<r.ops.length
    ·have:decide ((r.ops.length:Int)>1)=true:=decide_eq_true (by omega);rw[this];simp[a]
    ·have:decide ((r.ops.length:Int)>1)=false:=decide_eq_false (by omega);rw[this];simp[a]
   rw[e1,rq3 ha hb hz];refine⟨fun h=>?_,fun h=>?_⟩
   ·rw[if_pos (of_decide_eq_true h)];exact VLe.refl _
   ·rw[if_neg (of_decide_eq_false h)];exact VLe.refl _
 exact Eq.mp (by kernel_rfl) key
theorem xGg:q0R Tryz.prog 93 xCK:=by
 refine sob 0 Tryz.func93 fun args bin ob r bout hDe hob=>?_;unfold xCK at hDe;split at hDe
 ·rename_i a0;cases hDe;exact okB (xHA (q0N a0) (hob.2)) xGO (args_of_vles ⟨hob.1,trivial⟩)
 ·cases hDe
def xCF (r:q0E):Prop:=r.ops.length≤maxLen
noncomputable def xDj (r:q0E):V:=.int .i64 (q7T r)
noncomputable def x5n:q0P:=fun args bin=>match args,bin with
 |[a0],[]=>some (VLe a0 (q0n 1 ((q0L a0)))∧xCF (q0L a0),xDj (q0L a0),[])
 |_,_=>none
noncomputable def x2X (r:q0E):q0M:=
 ⟨Nat,fun i=>⟨[(0,q0n 1 r),(3,.int .i64 i)],[]⟩,
  fun i=>i≤r.ops.length∧q1s (qJA r.ops) i=0,fun i=>r.ops.length-i⟩
noncomputable def qX7 (r:q0E):q0M:=
 ⟨Nat,fun i=>⟨[(0,q0n 1 r),(5,.int .i64 i)],[]⟩,
  fun i=>i≤r.ops.length∧(1<r.ops.length→∀k,k<i→q2T (r.ops.getD k default)=false),fun i=>r.ops.length-i⟩
noncomputable def xG5 (r:q0E):Nat→Option q0M:=fun rg_=>match rg_ with
 |6=>some (x2X r)
 |12=>some (qX7 r)
 |_=>none
noncomputable def D88:=lkR [(110,qQ4),(151,qA8),(137,qSN),(111,qW6)]
theorem xFe:q0C Tryz.prog D88:=q02 qW8 (q02 qBp (q02 x3a (q02 x8I (q04))))
noncomputable def xGt (r:q0E):=cxL D88 Tryz.f88 [0,2,3,4,5,27,41,48,59,75,86] [(6,⟨[(0,none),(3,none)],[]⟩),(12,⟨[(0,none),(5,none)],[]⟩)] (xG5 r) []
noncomputable def q5D (r:q0E) (x:Nat):V:=q3f 1 ((q0v r).getD (↑x:Int).toNat default)
def qY1 (r:q0E) (x_1:Nat):Prop:=x_1≤(q0v r).length∧(1<(q0v r).length→∀k:Nat,k<x_1→q2T ((q0v r).getD k default)=false)
noncomputable def qMZ (r:q0E) (x_1:Nat):Bool:=decide ((↑x_1:Int)<(q2C r))
noncomputable def qFj (r:q0E):Nat×V:=(0,q0n 1 r)
theorem xGv (r:q0E) (hpre:xCF r):q0d (xGt r) Tryz.f88 0 [q0n 1 (r)] (fun rr=>VLe rr (xDj r)):=by
 have key:qIc (q0k r)∧tq (!!decide (inR (q0k r) 1 9))∧tq (!!decide (inR (q0k r) 1 9))∧tq (!!decide (inR (q0k r) 1 9))∧tq (!!decide (inR (q0k r) 1 9))∧((!!decide (inR (q0k r) 1 9))=true→q62 r.number (1:Int) (99:Int))∧tq (!!decide (inR (q0k r) 1 9))∧((true=true→(!decide (inR (q0k r) 1 9))=false→(!!decide (inR (q0k r) 1 9))=true)∧∀b:Bool,(b=bif !decide (inR (q0k r) 1 9)then true else !decide (inR r.number 1 99))→tq (!b)∧tq (!b)∧tq (!b)∧tq (!b)∧((!b)=true→qPe r.time)∧tq (!b)∧((true=true→b=false→(!b)=true)∧∀b_1:Bool,(b_1=bif b then true else !decide (inR r.time 0 9000))→(b_1=true→VLe (vi 3) (vi (q7T r)))∧(b_1=false→tq (!decide ((q2C r)<1))∧tq (!decide ((q2C r)<1))∧tq (!decide ((q2C r)<1))∧tq (!decide ((q2C r)<1))∧tq (!decide ((q2C r)<1))∧((true=true→decide ((q2C r)<1)=false→(!decide ((q2C r)<1))=true)∧∀b_2:Bool,(b_2=bif decide ((q2C r)<1)then true else decide ((q2C r)>3))→(b_2=true→VLe (vi 2) (vi (q7T r)))∧(b_2=false→((∃x:Nat,SLe (AS.mk [(qFj r),(3,vi 0)] []) (AS.mk [(qFj r),(3,vi (↑x:Int))] [])∧x≤(q0v r).length∧q1s (qJA (q0v r)) x=(0:Int))∧∀x:Nat,x≤(q0v r).length∧q1s (qJA (q0v r)) x=(0:Int)→(decide ((↑x:Int)<(q2C r))=true→(0≤(↑x:Int)∧(↑x:Int)<(q2C r))∧(VLe (q5D r x) (q3f 1 (q0x (q5D r x)))∧qWO (q0x (q5D r x)))∧((opF (q0x (q5D r x))!=0)=true→VLe (vi (opF (q0x (q5D r x)))) (vi (q7T r)))∧((opF (q0x (q5D r x))!=0)=false→(inK IntKind.i64 ((↑x:Int)+1)∧∃y:Nat,SLe (AS.mk [(qFj r),(3,vi ((↑x:Int)+1))] []) (AS.mk [(qFj r),(3,vi (↑y:Int))] [])∧(y≤(q0v r).length∧q1s (qJA (q0v r)) y=(0:Int))∧(q0v r).length-y<(q0v r).length-x)))∧(decide ((↑x:Int)<(q2C r))=false→((∃x_1:Nat,SLe (AS.mk [(qFj r),(5,vi 0)] []) (AS.mk [(qFj r),(5,vi (↑x_1:Int))] [])∧qY1 r x_1)∧∀x_1:Nat,qY1 r x_1→tq (qMZ r x_1)∧tq (qMZ r x_1)∧tq (qMZ r x_1)∧tq (qMZ r x_1)∧tq (qMZ r x_1)∧((true=true→decide ((↑x_1:Int)<(q2C r))=true→decide ((↑x_1:Int)<(q2C r))=true)∧∀b_3:Bool,(b_3=bif decide ((↑x_1:Int)<(q2C r))then decide ((q2C r)>1)else false)→(b_3=true→(0≤(↑x_1:Int)∧(↑x_1:Int)<(q2C r))∧(decide (((q0v r).getD (↑x_1:Int).toNat default).kind≤(2:Int))=true→VLe (vi 1) (vi (q7T r)))∧(decide (((q0v r).getD (↑x_1:Int).toNat default).kind≤(2:Int))=false→(inK IntKind.i64 ((↑x_1:Int)+1)∧∃y:Nat,SLe (AS.mk [(qFj r),(5,vi ((↑x_1:Int)+1))] []) (AS.mk [(qFj r),(5,vi (↑y:Int))] [])∧(y≤(q0v r).length∧(1<(q0v r).length→∀k:Nat,k<y→q2T ((q0v r).getD k default)=false))∧(q0v r).length-y<(q0v r).length-x_1)))∧(b_3=false→VLe (vi 0) (vi (q7T r)))))))))))):=by
  delta qFj;delta qMZ;delta q0k;delta qY1;delta q2C;delta q5D;delta qMz;delta q0v;delta vi;have hl:r.ops.length≤maxLen:=hpre;have hl2:=hl;unfold maxLen at hl2
  repeat (first|refine And.intro (tqI _) ?_|refine And.intro trivial ?_|refine And.intro (fun _=>trivial) ?_|refine And.intro (fun _ h=>by rw[h];rfl) ?_|intro q hq)
  rename_i q1 hq1;have e0:q=decide (¬(inR r.client 1 9∧inR r.number 1 99∧inR r.time 0 9000)):=by rw[hq,hq1];exact or3
  rw[e0];clear e0 hq hq1;refine⟨fun h=>q0I (rq1 (of_decide_eq_true h)).symm,fun h=>?_⟩;have ha:=of_decide_eq_false h
  repeat (first|refine And.intro (tqI _) ?_|refine And.intro (fun _ h=>by rw[h];rfl) ?_|intro q hq)
  have e1:q=decide (r.ops.length<1∨3<r.ops.length):=by
   rw[hq];by_cases a:r.ops.length<1
   ·have:decide ((r.ops.length:Int)<1)=true:=decide_eq_true (by omega);rw[this];simp[a]
   ·have:decide ((r.ops.length:Int)<1)=false:=decide_eq_false (by omega);rw[this,Bool.eq_iff_iff];simp only[cond_false,decide_eq_true_eq];omega
  rw[e1];clear e1 hq;refine⟨fun h2=>q0I (rq2 ha (of_decide_eq_true h2)).symm,fun h2=>?_⟩;have hb:=of_decide_eq_false h2;refine⟨⟨0,SLe.refl _,by omega,rfl⟩,?_⟩;rintro i ⟨hi,hz⟩;refine⟨fun h3=>?_,fun h3=>?_⟩
  ·have hlt:i<r.ops.length:=by simpa using h3
   simp only[Int.toNat_natCast,q7P];exact⟨⟨by omega,by omega⟩,⟨VLe.refl _,trivial⟩,fun h4=>q0I (qHb ha hb hz hlt rfl (bne_iff_ne.1 h4)).symm,fun h4=>⟨q0X (by omega),i+1,SLe.refl _,⟨by omega,q4F hz (bz0 h4)⟩,by omega⟩⟩
  ·have hge:i=r.ops.length:=by have:=of_decide_eq_false h3;omega
   subst hge;refine⟨⟨0,SLe.refl _,by omega,fun _ k hk=>absurd hk (Nat.not_lt_zero k)⟩,?_⟩;rintro i ⟨hi2,hn⟩
   repeat (first|refine And.intro (tqI _) ?_|refine And.intro (fun _ h=>h) ?_|intro q hq)
   refine⟨fun h4=>?_,fun h4=>?_⟩
   ·have h5:i<r.ops.length∧1<r.ops.length:=by
     rw[hq]at h4;by_cases a:(i:Int)<r.ops.length
     ·rw[decide_eq_true a]at h4;have:=of_decide_eq_true h4;omega
     ·rw[decide_eq_false a]at h4;cases h4
    have hop:opF (r.ops.getD i default)=0:=q7H hz i h5.1;have hm:r.ops.getD i default∈r.ops:=by simp[h5.1]
    simp only[Int.toNat_natCast,qVu hop];refine⟨⟨by omega,by omega⟩,fun h6=>?_,fun h6=>⟨q0X (by omega),i+1,SLe.refl _,⟨by omega,fun g k hk=>?_⟩,by omega⟩⟩
    ·rw[rq3 ha hb hz,if_pos ⟨h5.2,List.any_eq_true.2 ⟨_,hm,h6⟩⟩];exact VLe.refl _
    ·by_cases e:k=i
     ·subst e;exact h6
     ·exact hn g k (by omega)
   ·rw[rq3 ha hb hz,if_neg ?_]
    ·exact VLe.refl _
    rintro⟨g1,g2⟩;have h5:¬i<r.ops.length:=fun a=>by
     rw[hq,decide_eq_true (show(i:Int)<r.ops.length by omega),cond_true]at h4;have:=of_decide_eq_false h4;omega
    obtain⟨x,hx,hx2⟩:=List.any_eq_true.1 g2;obtain⟨k,hk,rfl⟩:=List.getElem_of_mem hx;have:=hn g1 k (by omega);have e:r.ops.getD k default=r.ops[k]:=by simp[hk]
    rw[e,hx2]at this;cases this
 exact Eq.mp (by kernel_rfl) key
theorem xFc:q0R Tryz.prog 88 x5n:=by
 refine sob 0 Tryz.func88 fun args bin ob r bout hDe hob=>?_;unfold x5n at hDe;split at hDe
 ·rename_i a0;cases hDe;exact okB (xGv (q0L a0) (hob.2)) xFe (args_of_vles ⟨hob.1,trivial⟩)
 ·cases hDe
noncomputable def q2p (c:Int) (s:q06) (ops:List TOp):Nat→q06×q2E
 |0=>(s,⟨0,0,q1f⟩)
 |k+1=>(doS (q2p c s ops k).1 c (ops.getD k default),doR (q2p c s ops k).1 c (ops.getD k default))
def q6b (c:Int) (s:q06) (ops:List TOp) (n:Nat):Prop:=∀j,j<n→(q2p c s ops (j+1)).2.code=0
theorem q6b.next {c:Int} {s:q06} {ops:List TOp} {n:Nat} (h:q6b c s ops n) (h2:(doR (q2p c s ops n).1 c (ops.getD n default)).code=0):q6b c s ops (n+1):=fun j hj=>by
 by_cases e:j=n
 ·subst e;exact h2
 ·exact h j (by omega)
theorem qJ5 {c:Int} {s:q06} {ops:List TOp}:∀{k:Nat},k≤ops.length→q6b c s ops k→qN4 c s ops 0 s ⟨0,0,q1f⟩=qN4 c s (ops.drop k) k (q2p c s ops k).1 (q2p c s ops k).2
 |0,_,_=>rfl
 |k+1,hk,h=>by
  rw[qJ5 (k:=k) (by omega) fun j hj=>h j (by omega),List.drop_eq_getElem_cons (show k<ops.length by omega)];have e:ops[k]'(by omega)=ops.getD k default:=by simp[show k<ops.length by omega]
  have h0:(doR (q2p c s ops k).1 c (ops.getD k default)).code=0:=h k (by omega);rw[e]
  conv=>lhs;unfold qN4
  rw[if_neg (not_not_intro h0)];rfl
theorem qLz {c:Int} {s:q06} {ops:List TOp} (h:q6b c s ops ops.length):q70 s c ops=(q2p c s ops ops.length).1∧qGw s c ops=(q2p c s ops ops.length).2:=by
 have e:=qJ5 (k:=ops.length) (Nat.le_refl _) h;rw[List.drop_length]at e;exact qO9 e
theorem qJ2 {c:Int} {s:q06} {ops:List TOp} {k:Nat} (hk:k<ops.length) (h:q6b c s ops k) (h2:(doR (q2p c s ops k).1 c (ops.getD k default)).code≠0):
  q70 s c ops=s∧qGw s c ops=⟨(doR (q2p c s ops k).1 c (ops.getD k default)).code,k,q1f⟩:=by
 have e:=qJ5 (k:=k) (by omega) h;have e0:ops[k]=ops.getD k default:=by simp[hk]
 rw[List.drop_eq_getElem_cons hk,e0]at e;unfold qN4 at e;rw[if_pos h2]at e;exact qO9 (show qN4 c s ops 0 s ⟨0,0,q1f⟩=_ by unfold qN4;exact e)
theorem qFG {c:Int} {s:q06} {ops:List TOp} (h:q2H s) (hc:inR c 1 9) (ho:∀o∈ops,opF o=0):∀{k:Nat},k≤ops.length→q2H (q2p c s ops k).1∧(q2p c s ops k).1.marks=s.marks
 |0,_=>⟨h,rfl⟩
 |k+1,hk=>by
  obtain⟨h1,h2⟩:=qFG h hc ho (k:=k) (by omega);have hm:ops.getD k default∈ops:=by simp[show k<ops.length by omega]
  obtain⟨h3,_,h4⟩:=qUz h1 hc (ho _ hm);exact⟨h3,h4.trans h2⟩
theorem qKN {s:q06} {r:q0E} (h:0≤q72 s.marks r.client r.number):qCF s r=s∧qDy s r=(q8V s.marks (q72 s.marks r.client r.number).toNat).reply∧qCW s r=0:=by
 unfold qCF qDy qCW;rw[if_pos h,if_pos h,if_pos h];exact⟨rfl,rfl,rfl⟩
theorem qGL {s:q06} {r:q0E} (h:¬0≤q72 s.marks r.client r.number) (h2:40≤s.marks.length):qCF s r=s∧qDy s r=⟨0,0,q1f⟩∧qCW s r=2:=by
 unfold qCF qDy qCW;rw[if_neg h,if_neg h,if_neg h,if_pos h2,if_pos h2,if_pos h2];exact⟨rfl,rfl,rfl⟩
theorem qGA {s:q06} {r:q0E} (h:¬0≤q72 s.marks r.client r.number) (h2:¬40≤s.marks.length):
  qCF s r=⟨(q70 (q1O s r) r.client r.ops).nodes,(q70 (q1O s r) r.client r.ops).sessions,(q70 (q1O s r) r.client r.ops).now,(q70 (q1O s r) r.client r.ops).marks++[⟨r.client,r.number,qGw (q1O s r) r.client r.ops⟩]⟩
   ∧qDy s r=qGw (q1O s r) r.client r.ops∧qCW s r=0:=by
 unfold qCF qDy qCW;rw[if_neg h,if_neg h,if_neg h,if_neg h2,if_neg h2,if_neg h2];exact⟨rfl,rfl,rfl⟩
theorem rf1 {s:q06} {r:q0E} (h:q1a s≠0):q2Z s r=⟨q1a s,⟨0,0,q1f⟩,⟨[],[],0,[]⟩⟩:=by
 unfold q2Z;rw[if_pos h]
theorem rf2 {s:q06} {r:q0E} (h:q1a s=0) (h2:q7T r≠0):q2Z s r=⟨q7T r,⟨0,0,q1f⟩,⟨[],[],0,[]⟩⟩:=by
 unfold q2Z;rw[if_neg (not_not_intro h),if_pos h2]
theorem rf3 {s:q06} {r:q0E} (h:q1a s=0) (h2:q7T r=0) (h3:qCW s r≠0):q2Z s r=⟨qCW s r,⟨0,0,q1f⟩,⟨[],[],0,[]⟩⟩:=by
 unfold q2Z;rw[if_neg (not_not_intro h),if_neg (not_not_intro h2),if_pos h3]
theorem rf4 {s:q06} {r:q0E} (h:q1a s=0) (h2:q7T r=0) (h3:qCW s r=0):q2Z s r=⟨0,qDy s r,qCF s r⟩:=by
 unfold q2Z;rw[if_neg (not_not_intro h),if_neg (not_not_intro h2),if_neg (not_not_intro h3)]
theorem nzT {c:Int} (h:(c !=0)=true):c≠0:=by simpa using h
theorem zzT {c:Int} (h:(c !=0)=false):c=0:=by simpa using h
theorem agV {x y:q0f} (h:y=x):VLe (q0m 0 x) (q0m 0 y):=by rw[h];exact VLe.refl _
theorem xCQ {k:Int} {y:q0f} (h:y=⟨k,⟨0,0,q1f⟩,⟨[],[],0,[]⟩⟩):VLe (.agg [.int .i64 k,.int .i64 0,.int .i64 0,.str ⟨#[]⟩,.nil,.nil,.int .i64 0,.nil]) (q0m 0 y):=by
 rw[h];exact q21 ⟨VLe.refl _,VLe.refl _,VLe.refl _,VLe.refl _,q8D _ _,q8D _ _,VLe.refl _,q8D _ _,trivial⟩
theorem stN (n:List q0A) (se:List q07) (t:Int) (m:List q0U):q0B (.agg [q0D (q01 1) 1 n,q0D (q00 1) 1 se,.int .i64 t,q0D (q09 1) 1 m])=⟨n,se,t,m⟩:=q1X 1 ⟨n,se,t,m⟩
theorem stE (s:q06):(⟨s.nodes,s.sessions,s.now,s.marks⟩:q06)=s:=rfl
def qKW (s:q06) (r:q0E):Prop:=q2H s∧inR r.client 1 9∧inR r.time 0 9000
noncomputable def qUb (s:q06) (r:q0E):V:=.agg [q0D (q01 1) 0 ((q5r s r.client r.time).nodes),q0D (q00 1) 0 ((q5r s r.client r.time).sessions),.int .i64 ((q5r s r.client r.time).now),.osl 0 (s).marks.length]
noncomputable def qUQ (s:q06) (r:q0E):List Blk:=[(.arr 5 (s).marks.length (gL (q09 1) (s).marks) q0l)]
noncomputable def x2b:=lkR [(215,qXO),(216,qYd),(217,qKK),(218,qXN)]
theorem x2y:q0C Tryz.prog x2b:=q02 xC2 (q02 x7Z (q02 qUG (q02 x8u (q04))))
noncomputable def x0h (s:q06) (r:q0E):=cxN x2b Tryz.f143 [0,1,2,4,5,6,7,41]
noncomputable def q58 (r:q0E):Int:=r.time
noncomputable def qB1 (s:q06) (r:q0E):V:=q0D (q00 1) 1 (q1M (q1G s) (max s.now (q58 r)))
noncomputable def qJi (s:q06) (r:q0E):V:=V.agg [q0D (q01 1) 0 (q5r s r.client (q58 r)).nodes,q0D (q00 1) 0 (q5r s r.client (q58 r)).sessions,vi (q5r s r.client (q58 r)).now,V.osl 0 s.marks.length]
noncomputable def qAe (s:q06) (r:q0E):V:=q0D q42 1 (q29 (q1G s) (max s.now (q58 r)))
noncomputable def qJo (s:q06) (r:q0E):Bool:=(q44 (q0K q05 (qB1 s r)) r.client (max s.now (q58 r))).code==0
theorem x0i (s:q06) (r:q0E) (hpre:qKW s r):q3h (x0h s r) Tryz.f143 [] [.agg [q0D (q01 1) 1 ((s).nodes),q0D (q00 1) 1 ((s).sessions),.int .i64 ((s).now),.osl 0 (s).marks.length],q0n 1 (r)] [(.arr 5 (s).marks.length (gL (q09 1) (s).marks) q0l)] (fun rr bs=>VLe rr (qUb s r)∧q1y bs (qUQ s r)):=by
 have key:qWW s.now (q58 r)∧(VLe (q0D (q00 1) 1 s.sessions) (q0D (q00 1) 1 (q1G s))∧qY4 (q1G s) (max s.now (q58 r)))∧(VLe (q0D (q01 1) 1 s.nodes) (q0D (q01 1) 1 (q1F s))∧VLe (qAe s r) (q0D q42 1 (q0K q2G (qAe s r)))∧qKu (q1F s) (q0K q2G (qAe s r)))∧(VLe (qB1 s r) (q0D (q00 1) 1 (q0K q05 (qB1 s r)))∧qXZ (q0K q05 (qB1 s r)) r.client (max s.now (q58 r)))∧((qJo s r)=true→VLe (V.agg [q0D (q01 1) 2 (q2A (q1F s) (q0K q2G (qAe s r))),q0D (q00 1) 2 (q44 (q0K q05 (qB1 s r)) r.client (max s.now (q58 r))).sessions,vi (max s.now (q58 r)),V.osl 0 s.marks.length]) (qJi s r)∧BLe (q71 s) (q71 s)∧True)∧((qJo s r)=false→VLe (V.agg [q0D (q01 1) 2 (q2A (q1F s) (q0K q2G (qAe s r))),q0D (q00 1) 2 (q1M (q1G s) (max s.now (q58 r))),vi (max s.now (q58 r)),V.osl 0 s.marks.length]) (qJi s r)∧BLe (q71 s) (q71 s)∧True):=by
  delta qJo;delta q1F;delta q71;delta qAe;delta qJi;delta qB1;delta q58;delta q1G;delta vi;obtain⟨hok,hc,ht⟩:=hpre;have hl:=(q4T hok.2.1).1;have hn:=(q2J hok.1).1;have hm:inR (max s.now r.time) 0 9000:=by
   have:=hok.2.2;unfold inR at this ht⊢;omega
  have a1:(q1M s.sessions (max s.now r.time)).length≤s.sessions.length:=List.length_filter_le _ _;have a2:(q29 s.sessions (max s.now r.time)).length≤s.sessions.length:=by
   unfold q29;rw[List.length_map];exact List.length_filter_le _ _
  simp only[q0p,q0o,q8f];refine⟨trivial,⟨VLe.refl _,by show s.sessions.length≤1000;omega⟩,⟨VLe.refl _,VLe.refl _,by omega,by omega⟩,⟨VLe.refl _,by omega,hm⟩,fun h=>?_,fun h=>?_⟩
  ·have e:q5r s r.client r.time=⟨q2A s.nodes (q29 s.sessions (max s.now r.time)),(q44 (q1M s.sessions (max s.now r.time)) r.client (max s.now r.time)).sessions,max s.now r.time,s.marks⟩:=by
    unfold q5r qDK;rw[if_pos (eq_of_beq h)]
   rw[e];exact⟨q21 ⟨q5z,q5z,VLe.refl _,VLe.refl _,trivial⟩,BLe.refl _,trivial⟩
  ·have e:q5r s r.client r.time=⟨q2A s.nodes (q29 s.sessions (max s.now r.time)),q1M s.sessions (max s.now r.time),max s.now r.time,s.marks⟩:=by
    unfold q5r qDK;rw[if_neg (by simpa using h)]
   rw[e];exact⟨q21 ⟨q5z,q5z,VLe.refl _,VLe.refl _,trivial⟩,BLe.refl _,trivial⟩
 exact Eq.mp (by kernel_rfl) key
noncomputable def qL0:q0P:=fun args bin=>match args,bin with
 |[.agg [n0,n1,.int .i64 n2,.osl i0 m0],a1],[.arr s0 p0 g0 t0]=>some ((i0=0∧s0=5∧t0=q0l∧p0=m0∧∀i,i<m0→ELe (g0 i) (gL (q09 1) (q0K q0H (.sl m0 g0 1)) i))∧VLe n0 (q0D (q01 1) 1 ((q0K q03) n0))∧VLe n1 (q0D (q00 1) 1 ((q0K q05) n1))∧VLe a1 (q0n 1 ((q0L a1)))∧qKW (⟨(q0K q03) n0,(q0K q05) n1,n2,q0K q0H (.sl m0 g0 1)⟩:q06) (q0L a1),qUb (⟨(q0K q03) n0,(q0K q05) n1,n2,q0K q0H (.sl m0 g0 1)⟩:q06) (q0L a1),qUQ (⟨(q0K q03) n0,(q0K q05) n1,n2,q0K q0H (.sl m0 g0 1)⟩:q06) (q0L a1))
 |_,_=>none
theorem qUY:q0R Tryz.prog 143 qL0:=by
 refine q0S q77 (tpl:=[]) Tryz.func143 rfl (by kernel_rfl) fun args bin ob r bout hDe hob=>?_;unfold qL0 at hDe;split at hDe
 ·rename_i n0 n1 n2 i0 m0 a1 s0 p0 g0 t0;cases hDe;obtain⟨⟨rfl,rfl,rfl,rfl,hg⟩,hn0,hn1,hv1,hpre⟩:=hob;exact okQ (x0i (⟨(q0K q03) n0,(q0K q05) n1,n2,q0K q0H (.sl p0 g0 1)⟩:q06) (q0L a1) hpre) x2y (args_of_vles ⟨q21 ⟨hn0,hn1,VLe.refl _,VLe.of_eq (by rw[q3y]),trivial⟩,hv1,trivial⟩) ⟨q6m hg,trivial⟩
 ·cases hDe
def qQR (s:q06) (r:q0E):Prop:=q2H s∧inR r.client 1 9∧(∀o∈r.ops,opF o=0)∧1≤r.ops.length∧r.ops.length≤3∧s.marks.length≤40∧q6b r.client s r.ops r.ops.length
noncomputable def qVE (s:q06) (r:q0E):V:=.tup [.agg [q0D (q01 1) 0 ((q70 s r.client r.ops).nodes),q0D (q00 1) 0 ((q70 s r.client r.ops).sessions),.int .i64 ((q70 s r.client r.ops).now),.osl 1 (q70 s r.client r.ops).marks.length],q0V 0 (qGw s r.client r.ops)]
noncomputable def qVA (s:q06) (r:q0E):List Blk:=[(.arr 5 (s).marks.length (gL (q09 1) (s).marks) q0l),(.arr 5 (q70 s r.client r.ops).marks.length (gL (q09 1) (q70 s r.client r.ops).marks) q0l)]
noncomputable def qSD (s:q06) (r:q0E):q0M:=
 ⟨Nat,fun i=>⟨[(1,q0n 1 r),(2,.oref 192 0 0),(4,.oref 320 0 0),(5,.oref 384 0 0),(6,.oref 448 0 0),(7,.oref 512 0 0),(8,.int .i64 i)],[(192,.box [q0D (q01 1) 1 s.nodes,q0D (q00 1) 1 s.sessions,.int .i64 s.now,.osl 0 s.marks.length]),(320,.box [.nil,.nil,.int .i64 0,.nil]),(384,.box [.int .i64 0,.int .i64 0,.str ⟨#[]⟩]),(448,.box [q0D (q01 1) 0 (q2p r.client s r.ops i).1.nodes,q0D (q00 1) 0 (q2p r.client s r.ops i).1.sessions,.int .i64 (q2p r.client s r.ops i).1.now,.osl (q2k 448 3) s.marks.length]),(q2k 448 3,.arr 5 s.marks.length (gL (q09 1) s.marks) q0l),(512,.box [.int .i64 (q2p r.client s r.ops i).2.code,.int .i64 (q2p r.client s r.ops i).2.value,.str (q2p r.client s r.ops i).2.path]),(0,.arr 5 s.marks.length (gL (q09 1) s.marks) q0l)]⟩,
  fun i=>i≤r.ops.length∧q6b r.client s r.ops i,fun i=>r.ops.length-i⟩
noncomputable def x1e (s:q06) (r:q0E):Nat→Option q0M:=fun k0=>match k0 with
 |4=>some (qSD s r)
 |_=>none
noncomputable def x2R:Nat→Option (Fl×q0P):=lk [(113,(.ro,qEW)),(112,(.rw,qLy))]
theorem qZ6:q0C Tryz.prog x2R:=q02 qKa (q02 qUZ (q04))
noncomputable def x0H (s:q06) (r:q0E):=cxL x2R Tryz.f142 [0,1,2,4,5,6,7,8,9,10,19,40] [(4,⟨[(1,none),(2,none),(4,none),(5,none),(6,none),(7,none),(8,none)],[(192,[]),(320,[]),(384,[]),(448,[(3,5)]),(512,[]),(0,[])]⟩)] (x1e s r) [1000004]
noncomputable def q7b (s:q06) (r:q0E) (x:Nat):V:=V.agg [q0D (q01 1) 1 (Prod.fst (q2p (q0k r) s (q0v r) x)).nodes,q0D (q00 1) 1 (Prod.fst (q2p (q0k r) s (q0v r) x)).sessions,vi (Prod.fst (q2p (q0k r) s (q0v r) x)).now,q0D (q09 1) 1 s.marks]
noncomputable def q3T (s:q06) (r:q0E) (x:Nat):q06:=q5G (q0B (q7b s r x))
noncomputable def q2a (s:q06):q06:=q5G (q0B (q0J 1 s))
noncomputable def q7e (s:q06):Nat×Blk:=(192,Blk.box [q0D (q01 1) 1 s.nodes,q0D (q00 1) 1 s.sessions,vi s.now,V.osl 0 (q2S s)])
noncomputable def q7d:Nat×Blk:=(384,Blk.box [vi 0,vi 0,V.str (ByteArray.mk #[])])
noncomputable def q4I (s:q06):Nat→V:=gL (q09 1) s.marks
noncomputable def qBG (s:q06) (r:q0E) (y:Nat):AS:=AS.mk [(1,q0n 1 r),(2,V.oref 192 0 0),(4,V.oref 320 0 0),(5,V.oref 384 0 0),(6,V.oref 448 0 0),(7,V.oref 512 0 0),(8,vi (↑y:Int))] [(q7e s),q7x,q7d,(448,Blk.box [q0D (q01 1) 0 (Prod.fst (q2p (q0k r) s (q0v r) y)).nodes,q0D (q00 1) 0 (Prod.fst (q2p (q0k r) s (q0v r) y)).sessions,vi (Prod.fst (q2p (q0k r) s (q0v r) y)).now,V.osl 65835200 (q2S s)]),(65835200,Blk.arr 5 (q2S s) (q4I s) 100),(512,Blk.box [vi (Prod.snd (q2p (q0k r) s (q0v r) y)).code,vi (Prod.snd (q2p (q0k r) s (q0v r) y)).value,V.str (Prod.snd (q2p (q0k r) s (q0v r) y)).path]),(0,Blk.arr 5 (q2S s) (q4I s) 100)]
noncomputable def q24 (s:q06):List q07:=q0K q05 (q0D (q00 1) 1 (q2a s).sessions)
noncomputable def q3N (s:q06) (r:q0E) (x:Nat):List q07:=q0K q05 (q0D (q00 1) 1 (q3T s r x).sessions)
noncomputable def q1r (s:q06):List q0U:=(q2a s).marks
noncomputable def q23 (s:q06):List q0U:=q0K q0H (q0D (q09 1) 1 (q1r s))
noncomputable def q22 (s:q06):List q0A:=q0K q03 (q0D (q01 1) 1 (q2a s).nodes)
noncomputable def q3R (s:q06) (r:q0E) (x:Nat):List q0U:=q0K q0H (q0D (q09 1) 1 (q3T s r x).marks)
noncomputable def q3W (s:q06) (r:q0E) (x:Nat):List q0A:=q0K q03 (q0D (q01 1) 1 (q3T s r x).nodes)
noncomputable def q2M (r:q0E):V:=q3f 1 ((q0v r).getD 0 default)
noncomputable def q2q (s:q06) (r:q0E) (x:Nat):Int:=(q3T s r x).now
noncomputable def q5a (s:q06) (r:q0E) (x:Nat):List q0U:=(q06.mk (q3W s r x) (q3N s r x) (q2q s r x) (q3R s r x)).marks
noncomputable def q2r (s:q06):Int:=(q2a s).now
noncomputable def q5f (s:q06):List q0U:=(q06.mk (q22 s) (q24 s) (q2r s) (q23 s)).marks
noncomputable def q8r (s:q06) (r:q0E) (x:Nat):Bool:=(doR (q06.mk (q3W s r x) (q3N s r x) (q2q s r x) (q3R s r x)) (q0k r) (q0x (q5D r x))).code !=0
noncomputable def q8l (s:q06) (r:q0E):Bool:=(doR (q06.mk (q22 s) (q24 s) (q2r s) (q23 s)) (q0k r) (q0x (q2M r))).code !=0
theorem x3m (s:q06) (r:q0E) (hpre:qQR s r):q3h (x0H s r) Tryz.f142 [(3,5)] [.agg [q0D (q01 1) 1 ((s).nodes),q0D (q00 1) 1 ((s).sessions),.int .i64 ((s).now),.osl 0 (s).marks.length],q0n 1 (r)] [(.arr 5 (s).marks.length (gL (q09 1) (s).marks) q0l)] (fun rr bs=>VLe rr (qVE s r)∧q1y bs (qVA s r)):=by
 have key:(∃N:Nat,(((decide (0<(q2C r))=true→(VLe (q0J 1 s) (q0J 1 (q0B (q0J 1 s)))∧qD2 (q0B (q0J 1 s)))∧((0:Int)≤(0:Int)∧0<(q2C r))∧((0=0∧5=5∧100=100∧((q1r s).length=(q1r s).length∧∀i:Nat,i<(q1r s).length→ELe (q09 1 ((q1r s).getD i default)) (q09 1 ((q23 s).getD i default))))∧VLe (q0D (q01 1) 1 (q2a s).nodes) (q0D (q01 1) 1 (q22 s))∧VLe (q0D (q00 1) 1 (q2a s).sessions) (q0D (q00 1) 1 (q24 s))∧VLe (q2M r) (q3f 1 (q0x (q2M r)))∧qEF (q06.mk (q22 s) (q24 s) (q2r s) (q23 s)) (q0k r) (q0x (q2M r)))∧(q1r s).length=(q5f s).length∧((q8l s r)=true→False)∧((q8l s r)=false→(inK IntKind.i64 ((0:Int)+(1:Int))∧∃y:Nat,SLe (AS.mk [(1,q0n 1 r),(2,V.oref 192 0 0),(4,V.oref 320 0 0),(5,V.oref 384 0 0),(6,V.oref 448 0 0),(7,V.oref 512 0 0),(8,vi ((0:Int)+(1:Int)))] [(q7e s),q7x,q7d,(448,Blk.box [q0D (q01 1) 0 (doS (q06.mk (q22 s) (q24 s) (q2r s) (q23 s)) (q0k r) (q0x (q2M r))).nodes,q0D (q00 1) 0 (doS (q06.mk (q22 s) (q24 s) (q2r s) (q23 s)) (q0k r) (q0x (q2M r))).sessions,vi (doS (q06.mk (q22 s) (q24 s) (q2r s) (q23 s)) (q0k r) (q0x (q2M r))).now,V.osl 65835200 (q5f s).length]),(65835200,Blk.arr 5 (q5f s).length (gL (q09 1) (q5f s)) 100),(512,Blk.box [vi (doR (q06.mk (q22 s) (q24 s) (q2r s) (q23 s)) (q0k r) (q0x (q2M r))).code,vi (doR (q06.mk (q22 s) (q24 s) (q2r s) (q23 s)) (q0k r) (q0x (q2M r))).value,V.str (doR (q06.mk (q22 s) (q24 s) (q2r s) (q23 s)) (q0k r) (q0x (q2M r))).path]),(0,Blk.arr 5 (q2S s) (q4I s) 100)]) (qBG s r y)∧(y≤(q0v r).length∧q6b (q0k r) s (q0v r) y)∧(q0v r).length-y<N)))∧(decide (0<(q2C r))=false→False))∧∀x:Nat,x≤(q0v r).length∧q6b (q0k r) s (q0v r) x→(decide ((↑x:Int)<(q2C r))=true→(VLe (q7b s r x) (q0J 1 (q0B (q7b s r x)))∧qD2 (q0B (q7b s r x)))∧(0≤(↑x:Int)∧(↑x:Int)<(q2C r))∧((0=0∧5=5∧100=100∧((q3T s r x).marks.length=(q3T s r x).marks.length∧∀i:Nat,i<(q3T s r x).marks.length→ELe (q09 1 ((q3T s r x).marks.getD i default)) (q09 1 ((q3R s r x).getD i default))))∧VLe (q0D (q01 1) 1 (q3T s r x).nodes) (q0D (q01 1) 1 (q3W s r x))∧VLe (q0D (q00 1) 1 (q3T s r x).sessions) (q0D (q00 1) 1 (q3N s r x))∧VLe (q5D r x) (q3f 1 (q0x (q5D r x)))∧qEF (q06.mk (q3W s r x) (q3N s r x) (q2q s r x) (q3R s r x)) (q0k r) (q0x (q5D r x)))∧(q3T s r x).marks.length=(q5a s r x).length∧((q8r s r x)=true→False)∧((q8r s r x)=false→(inK IntKind.i64 ((↑x:Int)+1)∧∃y:Nat,SLe (AS.mk [(1,q0n 1 r),(2,V.oref 192 0 0),(4,V.oref 320 0 0),(5,V.oref 384 0 0),(6,V.oref 448 0 0),(7,V.oref 512 0 0),(8,vi ((↑x:Int)+1))] [(q7e s),q7x,q7d,(448,Blk.box [q0D (q01 1) 0 (doS (q06.mk (q3W s r x) (q3N s r x) (q2q s r x) (q3R s r x)) (q0k r) (q0x (q5D r x))).nodes,q0D (q00 1) 0 (doS (q06.mk (q3W s r x) (q3N s r x) (q2q s r x) (q3R s r x)) (q0k r) (q0x (q5D r x))).sessions,vi (doS (q06.mk (q3W s r x) (q3N s r x) (q2q s r x) (q3R s r x)) (q0k r) (q0x (q5D r x))).now,V.osl 65835200 (q5a s r x).length]),(65835200,Blk.arr 5 (q5a s r x).length (gL (q09 1) (q5a s r x)) 100),(512,Blk.box [vi (doR (q06.mk (q3W s r x) (q3N s r x) (q2q s r x) (q3R s r x)) (q0k r) (q0x (q5D r x))).code,vi (doR (q06.mk (q3W s r x) (q3N s r x) (q2q s r x) (q3R s r x)) (q0k r) (q0x (q5D r x))).value,V.str (doR (q06.mk (q3W s r x) (q3N s r x) (q2q s r x) (q3R s r x)) (q0k r) (q0x (q5D r x))).path]),(0,Blk.arr 5 (q2S s) (q4I s) 100)]) (qBG s r y)∧(y≤(q0v r).length∧q6b (q0k r) s (q0v r) y)∧(q0v r).length-y<(q0v r).length-x)))∧(decide ((↑x:Int)<(q2C r))=false→VLe (V.tup [V.agg [q0D (q01 1) 0 (Prod.fst (q2p (q0k r) s (q0v r) x)).nodes,q0D (q00 1) 0 (Prod.fst (q2p (q0k r) s (q0v r) x)).sessions,vi (Prod.fst (q2p (q0k r) s (q0v r) x)).now,V.osl 1 (q2S s)],q0V 1 (Prod.snd (q2p (q0k r) s (q0v r) x))]) (V.tup [V.agg [q0D (q01 1) 0 (q70 s (q0k r) (q0v r)).nodes,q0D (q00 1) 0 (q70 s (q0k r) (q0v r)).sessions,vi (q70 s (q0k r) (q0v r)).now,V.osl 1 (q70 s (q0k r) (q0v r)).marks.length],q0V 0 (qGw s (q0k r) (q0v r))])∧BLe (Blk.arr 5 (q2S s) (q4I s) 100) (Blk.arr 5 (q2S s) (q4I s) 100)∧BLe (Blk.arr 5 (q2S s) (q4I s) 100) (Blk.arr 5 (q70 s (q0k r) (q0v r)).marks.length (gL (q09 1) (q70 s (q0k r) (q0v r)).marks) 100)∧True))):=by
  delta q2C;delta q8l;delta qMz;delta q8r;delta q5f;delta q2r;delta q5a;delta q2q;delta q2M;delta q5D;delta q3W;delta q3R;delta q22;delta q23;delta q1r;delta q3N;delta q24;delta qBG;delta q4I;delta q7d;delta q7x;delta q7e;delta q2S;delta q2a;delta q3T;delta q7b;delta q0v;delta q0k;delta vi;obtain⟨hok,hc,ho,h1,h3,hmk,hw⟩:=hpre;have hl:=(q4T hok.2.1).1;have hn:=(q2J hok.1).1;have ok:∀k,k≤r.ops.length→q2H (q2p r.client s r.ops k).1∧(q2p r.client s r.ops k).1.marks=s.marks:=fun k hk=>qFG hok hc ho hk;have hop:∀k,k<r.ops.length→opF (r.ops.getD k default)=0:=fun k hk=>ho _ (by simp[hk]);simp only[q1X,q0o,q0p,q2i,q7P,q4C,q5G,Int.toNat_natCast,stE];refine⟨10,⟨fun _=>⟨⟨VLe.refl _,by omega,by omega,by omega⟩,⟨by omega,by omega⟩,⟨⟨trivial,trivial,trivial,trivial,fun i hi=>ELe.refl _⟩,VLe.refl _,VLe.refl _,VLe.refl _,hok.1,hok.2.1,hok.2.2,hc,hop 0 (by omega)⟩,trivial,fun h=>?_,fun h=>⟨q0X (by omega),1,q1Q ⟨rfl,VLe.refl _,rfl,VLe.refl _,rfl,VLe.refl _,rfl,VLe.refl _,rfl,VLe.refl _,rfl,VLe.refl _,rfl,VLe.refl _,trivial⟩ ⟨rfl,BLe.refl _,rfl,BLe.refl _,rfl,BLe.refl _,rfl,BLe.refl _,rfl,BLe.refl _,rfl,BLe.refl _,rfl,BLe.refl _,trivial⟩,⟨by omega,fun j hj=>?_⟩,by omega⟩⟩,fun h=>?_⟩,?_⟩
  ·exact absurd (hw 0 (by omega)) (bne_iff_ne.1 h)
  ·have:j=0:=by omega
   subst this;exact bz0 h
  ·have:=of_decide_eq_false h;omega
  rintro x ⟨hx,hwx⟩;obtain⟨okx,hmx⟩:=ok x hx;have hlx:=(q4T okx.2.1).1;have hnx:=(q2J okx.1).1;have e:(⟨(q2p r.client s r.ops x).1.nodes,(q2p r.client s r.ops x).1.sessions,(q2p r.client s r.ops x).1.now,s.marks⟩:q06)=(q2p r.client s r.ops x).1:=by rw[←hmx]
  have vx:VLe (.agg [q0D (q01 1) 1 (q2p r.client s r.ops x).1.nodes,q0D (q00 1) 1 (q2p r.client s r.ops x).1.sessions,.int .i64 (q2p r.client s r.ops x).1.now,q0D (q09 1) 1 s.marks]) (q0J 1 (q2p r.client s r.ops x).1):=by
   rw[←hmx];exact VLe.refl _
  simp only[stN,e,hmx];refine⟨fun h=>?_,fun h=>?_⟩
  ·have hlt:x<r.ops.length:=by simpa using h
   refine⟨⟨vx,by omega,by omega,by rw[hmx];omega⟩,⟨by omega,by omega⟩,⟨⟨trivial,trivial,trivial,trivial,fun i hi=>ELe.refl _⟩,VLe.refl _,VLe.refl _,VLe.refl _,okx.1,okx.2.1,okx.2.2,hc,hop x hlt⟩,trivial,fun h2=>?_,fun h2=>⟨q0X (by omega),x+1,q1Q ⟨rfl,VLe.refl _,rfl,VLe.refl _,rfl,VLe.refl _,rfl,VLe.refl _,rfl,VLe.refl _,rfl,VLe.refl _,rfl,VLe.refl _,trivial⟩ ⟨rfl,BLe.refl _,rfl,BLe.refl _,rfl,BLe.refl _,rfl,BLe.refl _,rfl,BLe.refl _,rfl,BLe.refl _,rfl,BLe.refl _,trivial⟩,⟨by omega,hwx.next (bz0 h2)⟩,by omega⟩⟩;exact absurd (hw x hlt) (bne_iff_ne.1 h2)
  ·have hge:x=r.ops.length:=by have:=of_decide_eq_false h;omega
   obtain⟨g1,g2⟩:=qLz hw;rw[g1,g2,←hge,hmx];exact⟨q5u ⟨q21 ⟨q5z,q5z,VLe.refl _,VLe.refl _,trivial⟩,VLe.refl _,trivial⟩,BLe.refl _,BLe.refl _,trivial⟩
 exact Eq.mp (by kernel_rfl) key
noncomputable def qNw:q0P:=fun args bin=>match args,bin with
 |[.agg [n0,n1,.int .i64 n2,.osl i0 m0],a1],[.arr s0 p0 g0 t0]=>some ((i0=0∧s0=5∧t0=q0l∧p0=m0∧∀i,i<m0→ELe (g0 i) (gL (q09 1) (q0K q0H (.sl m0 g0 1)) i))∧VLe n0 (q0D (q01 1) 1 ((q0K q03) n0))∧VLe n1 (q0D (q00 1) 1 ((q0K q05) n1))∧VLe a1 (q0n 1 ((q0L a1)))∧qQR (⟨(q0K q03) n0,(q0K q05) n1,n2,q0K q0H (.sl m0 g0 1)⟩:q06) (q0L a1),qVE (⟨(q0K q03) n0,(q0K q05) n1,n2,q0K q0H (.sl m0 g0 1)⟩:q06) (q0L a1),qVA (⟨(q0K q03) n0,(q0K q05) n1,n2,q0K q0H (.sl m0 g0 1)⟩:q06) (q0L a1))
 |_,_=>none
theorem x47:q0R Tryz.prog 142 qNw:=by
 refine q0S q77 (tpl:=[(3,5)]) Tryz.func142 rfl (by kernel_rfl) fun args bin ob r bout hDe hob=>?_;unfold qNw at hDe;split at hDe
 ·rename_i n0 n1 n2 i0 m0 a1 s0 p0 g0 t0;cases hDe;obtain⟨⟨rfl,rfl,rfl,rfl,hg⟩,hn0,hn1,hv1,hpre⟩:=hob;exact okQ (x3m (⟨(q0K q03) n0,(q0K q05) n1,n2,q0K q0H (.sl p0 g0 1)⟩:q06) (q0L a1) hpre) qZ6 (args_of_vles ⟨q21 ⟨hn0,hn1,VLe.refl _,VLe.of_eq (by rw[q3y]),trivial⟩,hv1,trivial⟩) ⟨q6m hg,trivial⟩
 ·cases hDe
def qRv (s:q06) (r:q0E):Prop:=q2H s∧inR r.client 1 9∧(∀o∈r.ops,opF o=0)∧1≤r.ops.length∧r.ops.length≤3∧s.marks.length≤40∧¬q6b r.client s r.ops r.ops.length
noncomputable def qUN (s:q06) (r:q0E):V:=.tup [.agg [q0D (q01 1) 0 ((q70 s r.client r.ops).nodes),q0D (q00 1) 0 ((q70 s r.client r.ops).sessions),.int .i64 ((q70 s r.client r.ops).now),.osl 0 (s).marks.length],q0V 0 (qGw s r.client r.ops)]
noncomputable def qVD (s:q06) (r:q0E):List Blk:=[(.arr 5 (s).marks.length (gL (q09 1) (s).marks) q0l)]
noncomputable def qSW (s:q06) (r:q0E):q0M:=
 ⟨Nat,fun i=>⟨[(1,q0n 1 r),(2,.oref 192 0 0),(4,.oref 320 0 0),(5,.oref 384 0 0),(6,.oref 448 0 0),(7,.oref 512 0 0),(8,.int .i64 i)],[(192,.box [q0D (q01 1) 1 s.nodes,q0D (q00 1) 1 s.sessions,.int .i64 s.now,.osl 0 s.marks.length]),(320,.box [.nil,.nil,.int .i64 0,.nil]),(384,.box [.int .i64 0,.int .i64 0,.str ⟨#[]⟩]),(448,.box [q0D (q01 1) 0 (q2p r.client s r.ops i).1.nodes,q0D (q00 1) 0 (q2p r.client s r.ops i).1.sessions,.int .i64 (q2p r.client s r.ops i).1.now,.osl (q2k 448 3) s.marks.length]),(q2k 448 3,.arr 5 s.marks.length (gL (q09 1) s.marks) q0l),(512,.box [.int .i64 (q2p r.client s r.ops i).2.code,.int .i64 (q2p r.client s r.ops i).2.value,.str (q2p r.client s r.ops i).2.path]),(0,.arr 5 s.marks.length (gL (q09 1) s.marks) q0l)]⟩,
  fun i=>i≤r.ops.length∧q6b r.client s r.ops i,fun i=>r.ops.length-i⟩
noncomputable def qZm (s:q06) (r:q0E):Nat→Option q0M:=fun k0=>match k0 with
 |4=>some (qSW s r)
 |_=>none
noncomputable def qZ7:Nat→Option (Fl×q0P):=lk [(113,(.ro,qEW)),(112,(.rw,qLy))]
theorem qZV:q0C Tryz.prog qZ7:=q02 qKa (q02 qUZ (q04))
noncomputable def x17 (s:q06) (r:q0E):=cxL qZ7 Tryz.f142 [0,1,2,4,5,6,7,8,9,10,19,40] [(4,⟨[(1,none),(2,none),(4,none),(5,none),(6,none),(7,none),(8,none)],[(192,[]),(320,[]),(384,[]),(448,[(3,5)]),(512,[]),(0,[])]⟩)] (qZm s r) [1000004]
noncomputable def qCn (s:q06) (r:q0E):V:=V.tup [V.agg [q0D (q01 1) 0 (q70 s (q0k r) (q0v r)).nodes,q0D (q00 1) 0 (q70 s (q0k r) (q0v r)).sessions,vi (q70 s (q0k r) (q0v r)).now,V.osl 0 (q2S s)],q0V 0 (qGw s (q0k r) (q0v r))]
def qA3 (s:q06):Prop:=BLe (Blk.arr 5 (q2S s) (q4I s) 100) (Blk.arr 5 (q2S s) (q4I s) 100)∧True
noncomputable def qBx (s:q06):List V:=[q0D (q01 1) 0 s.nodes,q0D (q00 1) 0 s.sessions,vi s.now,V.osl 0 (q2S s)]
noncomputable def qG5 (s:q06) (r:q0E) (x:Nat):Int:=(doR (q06.mk (q3W s r x) (q3N s r x) (q2q s r x) (q3R s r x)) (q0k r) (q0x (q5D r x))).code
noncomputable def qFS (s:q06) (r:q0E):Int:=(doR (q06.mk (q22 s) (q24 s) (q2r s) (q23 s)) (q0k r) (q0x (q2M r))).code
theorem x37 (s:q06) (r:q0E) (hpre:qRv s r):q3h (x17 s r) Tryz.f142 [] [.agg [q0D (q01 1) 1 ((s).nodes),q0D (q00 1) 1 ((s).sessions),.int .i64 ((s).now),.osl 0 (s).marks.length],q0n 1 (r)] [(.arr 5 (s).marks.length (gL (q09 1) (s).marks) q0l)] (fun rr bs=>VLe rr (qUN s r)∧q1y bs (qVD s r)):=by
 have key:(∃N:Nat,(((decide (0<(q2C r))=true→(VLe (q0J 1 s) (q0J 1 (q0B (q0J 1 s)))∧qD2 (q0B (q0J 1 s)))∧((0:Int)≤(0:Int)∧0<(q2C r))∧((0=0∧5=5∧100=100∧((q1r s).length=(q1r s).length∧∀i:Nat,i<(q1r s).length→ELe (q09 1 ((q1r s).getD i default)) (q09 1 ((q23 s).getD i default))))∧VLe (q0D (q01 1) 1 (q2a s).nodes) (q0D (q01 1) 1 (q22 s))∧VLe (q0D (q00 1) 1 (q2a s).sessions) (q0D (q00 1) 1 (q24 s))∧VLe (q2M r) (q3f 1 (q0x (q2M r)))∧qEF (q06.mk (q22 s) (q24 s) (q2r s) (q23 s)) (q0k r) (q0x (q2M r)))∧(q1r s).length=(q5f s).length∧((q8l s r)=true→VLe (V.tup [V.agg (qBx s),V.agg [vi (qFS s r),vi 0,V.str (ByteArray.mk #[])]]) (qCn s r)∧qA3 s)∧((q8l s r)=false→(inK IntKind.i64 ((0:Int)+(1:Int))∧∃y:Nat,SLe (AS.mk [(1,q0n 1 r),(2,V.oref 192 0 0),(4,V.oref 320 0 0),(5,V.oref 384 0 0),(6,V.oref 448 0 0),(7,V.oref 512 0 0),(8,vi ((0:Int)+(1:Int)))] [(q7e s),q7x,q7d,(448,Blk.box [q0D (q01 1) 0 (doS (q06.mk (q22 s) (q24 s) (q2r s) (q23 s)) (q0k r) (q0x (q2M r))).nodes,q0D (q00 1) 0 (doS (q06.mk (q22 s) (q24 s) (q2r s) (q23 s)) (q0k r) (q0x (q2M r))).sessions,vi (doS (q06.mk (q22 s) (q24 s) (q2r s) (q23 s)) (q0k r) (q0x (q2M r))).now,V.osl 65835200 (q5f s).length]),(65835200,Blk.arr 5 (q5f s).length (gL (q09 1) (q5f s)) 100),(512,Blk.box [vi (qFS s r),vi (doR (q06.mk (q22 s) (q24 s) (q2r s) (q23 s)) (q0k r) (q0x (q2M r))).value,V.str (doR (q06.mk (q22 s) (q24 s) (q2r s) (q23 s)) (q0k r) (q0x (q2M r))).path]),(0,Blk.arr 5 (q2S s) (q4I s) 100)]) (qBG s r y)∧(y≤(q0v r).length∧q6b (q0k r) s (q0v r) y)∧(q0v r).length-y<N)))∧(decide (0<(q2C r))=false→VLe (V.tup [V.agg (qBx s),V.agg [vi 0,vi 0,V.str (ByteArray.mk #[])]]) (qCn s r)∧qA3 s))∧∀x:Nat,x≤(q0v r).length∧q6b (q0k r) s (q0v r) x→(decide ((↑x:Int)<(q2C r))=true→(VLe (q7b s r x) (q0J 1 (q0B (q7b s r x)))∧qD2 (q0B (q7b s r x)))∧(0≤(↑x:Int)∧(↑x:Int)<(q2C r))∧((0=0∧5=5∧100=100∧((q3T s r x).marks.length=(q3T s r x).marks.length∧∀i:Nat,i<(q3T s r x).marks.length→ELe (q09 1 ((q3T s r x).marks.getD i default)) (q09 1 ((q3R s r x).getD i default))))∧VLe (q0D (q01 1) 1 (q3T s r x).nodes) (q0D (q01 1) 1 (q3W s r x))∧VLe (q0D (q00 1) 1 (q3T s r x).sessions) (q0D (q00 1) 1 (q3N s r x))∧VLe (q5D r x) (q3f 1 (q0x (q5D r x)))∧qEF (q06.mk (q3W s r x) (q3N s r x) (q2q s r x) (q3R s r x)) (q0k r) (q0x (q5D r x)))∧(q3T s r x).marks.length=(q5a s r x).length∧((q8r s r x)=true→VLe (V.tup [V.agg (qBx s),V.agg [vi (qG5 s r x),vi (↑x:Int),V.str (ByteArray.mk #[])]]) (qCn s r)∧qA3 s)∧((q8r s r x)=false→(inK IntKind.i64 ((↑x:Int)+1)∧∃y:Nat,SLe (AS.mk [(1,q0n 1 r),(2,V.oref 192 0 0),(4,V.oref 320 0 0),(5,V.oref 384 0 0),(6,V.oref 448 0 0),(7,V.oref 512 0 0),(8,vi ((↑x:Int)+1))] [(q7e s),q7x,q7d,(448,Blk.box [q0D (q01 1) 0 (doS (q06.mk (q3W s r x) (q3N s r x) (q2q s r x) (q3R s r x)) (q0k r) (q0x (q5D r x))).nodes,q0D (q00 1) 0 (doS (q06.mk (q3W s r x) (q3N s r x) (q2q s r x) (q3R s r x)) (q0k r) (q0x (q5D r x))).sessions,vi (doS (q06.mk (q3W s r x) (q3N s r x) (q2q s r x) (q3R s r x)) (q0k r) (q0x (q5D r x))).now,V.osl 65835200 (q5a s r x).length]),(65835200,Blk.arr 5 (q5a s r x).length (gL (q09 1) (q5a s r x)) 100),(512,Blk.box [vi (qG5 s r x),vi (doR (q06.mk (q3W s r x) (q3N s r x) (q2q s r x) (q3R s r x)) (q0k r) (q0x (q5D r x))).value,V.str (doR (q06.mk (q3W s r x) (q3N s r x) (q2q s r x) (q3R s r x)) (q0k r) (q0x (q5D r x))).path]),(0,Blk.arr 5 (q2S s) (q4I s) 100)]) (qBG s r y)∧(y≤(q0v r).length∧q6b (q0k r) s (q0v r) y)∧(q0v r).length-y<(q0v r).length-x)))∧(decide ((↑x:Int)<(q2C r))=false→VLe (V.tup [V.agg [q0D (q01 1) 0 (Prod.fst (q2p (q0k r) s (q0v r) x)).nodes,q0D (q00 1) 0 (Prod.fst (q2p (q0k r) s (q0v r) x)).sessions,vi (Prod.fst (q2p (q0k r) s (q0v r) x)).now,q0D (q09 1) 2 s.marks],q0V 1 (Prod.snd (q2p (q0k r) s (q0v r) x))]) (qCn s r)∧qA3 s))):=by
  delta q2C;delta qFS;delta q8l;delta qMz;delta qG5;delta q8r;delta qBx;delta q5f;delta q2r;delta q5a;delta q2q;delta q2M;delta qA3;delta q5D;delta q3W;delta q3R;delta q22;delta q23;delta q1r;delta q3N;delta q24;delta qCn;delta qBG;delta q4I;delta q7d;delta q7x;delta q7e;delta q2S;delta q2a;delta q3T;delta q7b;delta q0v;delta q0k;delta vi;obtain⟨hok,hc,ho,h1,h3,hmk,hw⟩:=hpre;have hl:=(q4T hok.2.1).1;have hn:=(q2J hok.1).1;have ok:∀k,k≤r.ops.length→q2H (q2p r.client s r.ops k).1∧(q2p r.client s r.ops k).1.marks=s.marks:=fun k hk=>qFG hok hc ho hk;have hop:∀k,k<r.ops.length→opF (r.ops.getD k default)=0:=fun k hk=>ho _ (by simp[hk]);simp only[q1X,q0o,q0p,q2i,q7P,q4C,q5G,Int.toNat_natCast,stE];refine⟨10,⟨fun _=>⟨⟨VLe.refl _,by omega,by omega,by omega⟩,⟨by omega,by omega⟩,⟨⟨trivial,trivial,trivial,trivial,fun i hi=>ELe.refl _⟩,VLe.refl _,VLe.refl _,VLe.refl _,hok.1,hok.2.1,hok.2.2,hc,hop 0 (by omega)⟩,trivial,fun h=>?_,fun h=>⟨q0X (by omega),1,q1Q ⟨rfl,VLe.refl _,rfl,VLe.refl _,rfl,VLe.refl _,rfl,VLe.refl _,rfl,VLe.refl _,rfl,VLe.refl _,rfl,VLe.refl _,trivial⟩ ⟨rfl,BLe.refl _,rfl,BLe.refl _,rfl,BLe.refl _,rfl,BLe.refl _,rfl,BLe.refl _,rfl,BLe.refl _,rfl,BLe.refl _,trivial⟩,⟨by omega,fun j hj=>?_⟩,by omega⟩⟩,fun h=>?_⟩,?_⟩
  ·obtain⟨g1,g2⟩:=qJ2 (c:=r.client) (s:=s) (ops:=r.ops) (k:=0) (by omega) (fun j hj=>absurd hj (Nat.not_lt_zero j)) (bne_iff_ne.1 h);rw[g1,g2];exact⟨VLe.refl _,BLe.refl _,trivial⟩
  ·have:j=0:=by omega
   subst this;exact bz0 h
  ·exact absurd (of_decide_eq_false h) (by omega)
  rintro x ⟨hx,hwx⟩;obtain⟨okx,hmx⟩:=ok x hx;have hlx:=(q4T okx.2.1).1;have hnx:=(q2J okx.1).1;have e:(⟨(q2p r.client s r.ops x).1.nodes,(q2p r.client s r.ops x).1.sessions,(q2p r.client s r.ops x).1.now,s.marks⟩:q06)=(q2p r.client s r.ops x).1:=by rw[←hmx]
  have vx:VLe (.agg [q0D (q01 1) 1 (q2p r.client s r.ops x).1.nodes,q0D (q00 1) 1 (q2p r.client s r.ops x).1.sessions,.int .i64 (q2p r.client s r.ops x).1.now,q0D (q09 1) 1 s.marks]) (q0J 1 (q2p r.client s r.ops x).1):=by
   rw[←hmx];exact VLe.refl _
  simp only[stN,e,hmx];refine⟨fun h=>?_,fun h=>?_⟩
  ·have hlt:x<r.ops.length:=by simpa using h
   refine⟨⟨vx,by omega,by omega,by rw[hmx];omega⟩,⟨by omega,by omega⟩,⟨⟨trivial,trivial,trivial,trivial,fun i hi=>ELe.refl _⟩,VLe.refl _,VLe.refl _,VLe.refl _,okx.1,okx.2.1,okx.2.2,hc,hop x hlt⟩,trivial,fun h2=>?_,fun h2=>⟨q0X (by omega),x+1,q1Q ⟨rfl,VLe.refl _,rfl,VLe.refl _,rfl,VLe.refl _,rfl,VLe.refl _,rfl,VLe.refl _,rfl,VLe.refl _,rfl,VLe.refl _,trivial⟩ ⟨rfl,BLe.refl _,rfl,BLe.refl _,rfl,BLe.refl _,rfl,BLe.refl _,rfl,BLe.refl _,rfl,BLe.refl _,rfl,BLe.refl _,trivial⟩,⟨by omega,hwx.next (bz0 h2)⟩,by omega⟩⟩;obtain⟨g1,g2⟩:=qJ2 hlt hwx (bne_iff_ne.1 h2);rw[g1,g2];exact⟨VLe.refl _,BLe.refl _,trivial⟩
  ·have hge:x=r.ops.length:=by have:=of_decide_eq_false h;omega
   exact absurd (hge▸hwx) hw
 exact Eq.mp (by kernel_rfl) key
noncomputable def qQ2:q0P:=fun args bin=>match args,bin with
 |[.agg [n0,n1,.int .i64 n2,.osl i0 m0],a1],[.arr s0 p0 g0 t0]=>some ((i0=0∧s0=5∧t0=q0l∧p0=m0∧∀i,i<m0→ELe (g0 i) (gL (q09 1) (q0K q0H (.sl m0 g0 1)) i))∧VLe n0 (q0D (q01 1) 1 ((q0K q03) n0))∧VLe n1 (q0D (q00 1) 1 ((q0K q05) n1))∧VLe a1 (q0n 1 ((q0L a1)))∧qRv (⟨(q0K q03) n0,(q0K q05) n1,n2,q0K q0H (.sl m0 g0 1)⟩:q06) (q0L a1),qUN (⟨(q0K q03) n0,(q0K q05) n1,n2,q0K q0H (.sl m0 g0 1)⟩:q06) (q0L a1),qVD (⟨(q0K q03) n0,(q0K q05) n1,n2,q0K q0H (.sl m0 g0 1)⟩:q06) (q0L a1))
 |_,_=>none
theorem x1a:q0R Tryz.prog 142 qQ2:=by
 refine q0S q77 (tpl:=[]) Tryz.func142 rfl (by kernel_rfl) fun args bin ob r bout hDe hob=>?_;unfold qQ2 at hDe;split at hDe
 ·rename_i n0 n1 n2 i0 m0 a1 s0 p0 g0 t0;cases hDe;obtain⟨⟨rfl,rfl,rfl,rfl,hg⟩,hn0,hn1,hv1,hpre⟩:=hob;exact okQ (x37 (⟨(q0K q03) n0,(q0K q05) n1,n2,q0K q0H (.sl p0 g0 1)⟩:q06) (q0L a1) hpre) qZV (args_of_vles ⟨q21 ⟨hn0,hn1,VLe.refl _,VLe.of_eq (by rw[q3y]),trivial⟩,hv1,trivial⟩) ⟨q6m hg,trivial⟩
 ·cases hDe
def x00 (s:q06) (r:q0E):Prop:=q1a s=0∧q7T r=0∧q6b r.client (q1O s r) r.ops r.ops.length
noncomputable def qVz (s:q06) (r:q0E):V:=.tup [q0J 0 (qCF s r),q0V 0 (qDy s r),.int .i64 (qCW s r)]
noncomputable def x2p:q0P:=fun args bin=>match args,bin with
 |[a0,a1],[]=>some (VLe a0 (q0J 1 ((q0B a0)))∧VLe a1 (q0n 1 ((q0L a1)))∧x00 (q0B a0) (q0L a1),qVz (q0B a0) (q0L a1),[])
 |_,_=>none
noncomputable def xDu:Nat→Option (Fl×q0P):=lk [(141,(.ro,qO4)),(113,(.ro,qEW)),(143,(.rw,qL0)),(142,(.rw,qNw))]
theorem x7D:q0C Tryz.prog xDu:=q02 qYp (q02 qKa (q02 qUY (q02 x47 (q04))))
noncomputable def xAj (s:q06) (r:q0E):=cxN xDu Tryz.f71 [0,1,2,4,5,6,7,8,9,20,32]
noncomputable def q1Z (r:q0E):V:=q0n 1 r
noncomputable def q5h (r:q0E):Int:=(q0L (q1Z r)).client
noncomputable def qH8 (s:q06) (r:q0E):V:=q0D (q01 1) 1 (q5r (q06.mk (q22 s) (q24 s) (q2a s).now (q23 s)) (q5h r) (q0L (q1Z r)).time).nodes
noncomputable def q3S (s:q06) (r:q0E):List q0A:=q0K q03 (qH8 s r)
noncomputable def qIW (s:q06) (r:q0E):V:=q0D (q00 1) 1 (q5r (q06.mk (q22 s) (q24 s) (q2a s).now (q23 s)) (q5h r) (q0L (q1Z r)).time).sessions
noncomputable def q3L (s:q06) (r:q0E):List q07:=q0K q05 (qIW s r)
noncomputable def q5H (s:q06) (r:q0E):Int:=(q5r (q06.mk (q22 s) (q24 s) (q2a s).now (q23 s)) (q5h r) (q0L (q1Z r)).time).now
noncomputable def q6S (s:q06):List q0U:=(q06.mk (q22 s) (q24 s) (q2a s).now (q23 s)).marks
noncomputable def q4q (s:q06):List q0U:=q0K q0H (q0D (q09 1) 1 (q6S s))
noncomputable def q55 (r:q0E):List TOp:=(q0L (q1Z r)).ops
noncomputable def qD5 (s:q06) (r:q0E):List q0U:=(q70 (q06.mk (q3S s r) (q3L s r) (q5H s r) (q4q s)) (q5h r) (q55 r)).marks
noncomputable def qET (s:q06) (r:q0E):Nat→V:=q3C [V.agg [vi r.client,vi r.number,vi (qGw (q06.mk (q3S s r) (q3L s r) (q5H s r) (q4q s)) (q5h r) (q55 r)).code,vi (qGw (q06.mk (q3S s r) (q3L s r) (q5H s r) (q4q s)) (q5h r) (q55 r)).value,V.str (qGw (q06.mk (q3S s r) (q3L s r) (q5H s r) (q4q s)) (q5h r) (q55 r)).path]]
noncomputable def q5s (s:q06):List q0U:=(q14 (q0b 1 s)).marks
noncomputable def q8O (s:q06) (r:q0E):V:=V.tup [q0J 0 (qCF s r),q0V 0 (qDy s r),vi (qCW s r)]
def qAv (s:q06):Prop:=VLe (q0J 1 s) (q0J 1 (q0B (q0J 1 s)))∧qD2 (q0B (q0J 1 s))
theorem xBE (s:q06) (r:q0E) (hpre:x00 s r):q0d (xAj s r) Tryz.f71 0 [q0J 1 (s),q0n 1 (r)] (fun rr=>VLe rr (qVz s r)):=by
 have key:(VLe (q0b 1 s) (q0b 1 (q14 (q0b 1 s)))∧qNX (q14 (q0b 1 s)) r.client r.number)∧(decide (q72 (q5s s) r.client r.number≥(0:Int))=true→qAv s∧((0:Int)≤q72 (q5s s) r.client r.number∧q72 (q5s s) r.client r.number<(↑ s.marks.length:Int))∧VLe (V.tup [q0J 0 (q2a s),q0V 1 (s.marks.getD (q72 (q5s s) r.client r.number).toNat default).reply,vi 0]) (q8O s r))∧(decide (q72 (q5s s) r.client r.number≥(0:Int))=false→(decide ((↑ s.marks.length:Int)≥40)=true→VLe (V.tup [q0J 0 s,V.agg [vi 0,vi 0,V.str (ByteArray.mk #[])],vi 2]) (q8O s r))∧(decide ((↑ s.marks.length:Int)≥40)=false→qAv s∧((0=0∧5=5∧100=100∧((q1r s).length=(q1r s).length∧∀i:Nat,i<(q1r s).length→ELe (q09 1 ((q1r s).getD i default)) (q09 1 ((q23 s).getD i default))))∧VLe (q0D (q01 1) 1 (q2a s).nodes) (q0D (q01 1) 1 (q22 s))∧VLe (q0D (q00 1) 1 (q2a s).sessions) (q0D (q00 1) 1 (q24 s))∧VLe (q1Z r) (q0n 1 (q0L (q1Z r)))∧qKW (q06.mk (q22 s) (q24 s) (q2a s).now (q23 s)) (q0L (q1Z r)))∧(q1r s).length=(q6S s).length∧((0=0∧5=5∧100=100∧((q6S s).length=(q6S s).length∧∀i:Nat,i<(q6S s).length→ELe (q09 1 ((q6S s).getD i default)) (q09 1 ((q4q s).getD i default))))∧VLe (qH8 s r) (q0D (q01 1) 1 (q3S s r))∧VLe (qIW s r) (q0D (q00 1) 1 (q3L s r))∧VLe (q1Z r) (q0n 1 (q0L (q1Z r)))∧qQR (q06.mk (q3S s r) (q3L s r) (q5H s r) (q4q s)) (q0L (q1Z r)))∧(q6S s).length=(q06.mk (q3S s r) (q3L s r) (q5H s r) (q4q s)).marks.length∧(qD5 s r).length=(qD5 s r).length∧(qD5 s r).length+1≤1073741824∧q13 5 1 (qET s r)∧VLe (V.tup [V.agg [q0D (q01 1) 0 (q70 (q06.mk (q3S s r) (q3L s r) (q5H s r) (q4q s)) (q5h r) (q55 r)).nodes,q0D (q00 1) 0 (q70 (q06.mk (q3S s r) (q3L s r) (q5H s r) (q4q s)) (q5h r) (q55 r)).sessions,vi (q70 (q06.mk (q3S s r) (q3L s r) (q5H s r) (q4q s)) (q5h r) (q55 r)).now,V.sl ((qD5 s r).length+1) (q3K (qD5 s r).length (gL (q09 1) (qD5 s r)) (qET s r)) 0],q0V 1 (qGw (q06.mk (q3S s r) (q3L s r) (q5H s r) (q4q s)) (q5h r) (q55 r)),vi 0]) (q8O s r))):=by
  delta qAv;delta q8O;delta q5s;delta qET;delta qD5;delta q55;delta q4q;delta q6S;delta q5H;delta q3L;delta qIW;delta q3S;delta qH8;delta q5h;delta q1Z;delta q23;delta q1r;delta q24;delta q22;delta q2a;delta vi;obtain⟨hs,hr,hw⟩:=hpre;obtain⟨f1,f2,f3,f4⟩:=qC7 hs;obtain⟨r1,r2,r3,r4,r5,r6⟩:=qLi hr;have hl:=(q4T f2).1;have hn:=(q2J f1).1;obtain⟨okB,hmB⟩:=qCA (c:=r.client) (show q2H s from⟨f1,f2,f3⟩) r3;have eB:(⟨(q5r s r.client r.time).nodes,(q5r s r.client r.time).sessions,(q5r s r.client r.time).now,s.marks⟩:q06)=q1O s r:=by
   rw[←hmB];rfl
  have hmB2:(q1O s r).marks=s.marks:=hmB;have okB2:q2H (q1O s r):=okB;simp only[q1X,q3F,q0o,q0p,q2i,q4C,q5G,Int.toNat_natCast,stE,eB,hmB2];have hA:=(qIz okB2 r1 r6).2;rw[hmB2]at hA;refine⟨⟨VLe.refl _,by show s.marks.length≤maxLen;unfold maxLen;omega⟩,fun h=>⟨⟨VLe.refl _,by omega,by omega,by omega⟩,⟨of_decide_eq_true h,qVJ (of_decide_eq_true h)⟩,?_⟩,fun h=>⟨fun h2=>?_,fun h2=>⟨⟨VLe.refl _,by omega,by omega,by omega⟩,⟨⟨trivial,trivial,trivial,trivial,fun i hi=>ELe.refl _⟩,VLe.refl _,VLe.refl _,VLe.refl _,⟨f1,f2,f3⟩,r1,r3⟩,trivial,⟨⟨trivial,trivial,trivial,trivial,fun i hi=>ELe.refl _⟩,VLe.refl _,VLe.refl _,VLe.refl _,okB2,r1,r6,r4,r5,by rw[hmB2];exact f4,hw⟩,trivial,trivial,by first|omega|(rw[hA];omega),q5e rfl rfl,?_⟩⟩⟩
  ·obtain⟨e1,e2,e3⟩:=qKN (of_decide_eq_true h);rw[e1,e2,e3];exact VLe.refl _
  ·obtain⟨e1,e2,e3⟩:=qGL (of_decide_eq_false h) (by have:=of_decide_eq_true h2;omega);rw[e1,e2,e3];exact VLe.refl _
  ·obtain⟨e1,e2,e3⟩:=qGA (of_decide_eq_false h) (by have:=of_decide_eq_false h2;omega);rw[e1,e2,e3];exact q5u ⟨q21 ⟨VLe.refl _,VLe.refl _,VLe.refl _,q9y rfl rfl,trivial⟩,VLe.refl _,VLe.refl _,trivial⟩
 exact Eq.mp (by kernel_rfl) key
theorem x62:q0R Tryz.prog 71 x2p:=by
 refine sob 0 Tryz.func71 fun args bin ob r bout hDe hob=>?_;unfold x2p at hDe;split at hDe
 ·rename_i a0 a1;cases hDe;exact okB (xBE (q0B a0) (q0L a1) (hob.2.2)) x7D (args_of_vles ⟨hob.1,hob.2.1,trivial⟩)
 ·cases hDe
def qZo (s:q06) (r:q0E):Prop:=q1a s=0∧q7T r=0∧¬q6b r.client (q1O s r) r.ops r.ops.length
noncomputable def x0Q (s:q06) (r:q0E):V:=.tup [q0J 0 (qCF s r),q0V 0 (qDy s r),.int .i64 (qCW s r)]
noncomputable def x05:q0P:=fun args bin=>match args,bin with
 |[a0,a1],[]=>some (VLe a0 (q0J 1 ((q0B a0)))∧VLe a1 (q0n 1 ((q0L a1)))∧qZo (q0B a0) (q0L a1),x0Q (q0B a0) (q0L a1),[])
 |_,_=>none
noncomputable def xEY:Nat→Option (Fl×q0P):=lk [(141,(.ro,qO4)),(113,(.ro,qEW)),(143,(.rw,qL0)),(142,(.rw,qQ2))]
theorem x8a:q0C Tryz.prog xEY:=q02 qYp (q02 qKa (q02 qUY (q02 x1a (q04))))
noncomputable def x5a (s:q06) (r:q0E):=cxN xEY Tryz.f71 [0,1,2,4,5,6,7,8,9,20,32]
noncomputable def qBW (s:q06) (r:q0E):List q0U:=(q06.mk (q3S s r) (q3L s r) (q5H s r) (q4q s)).marks
theorem x5E (s:q06) (r:q0E) (hpre:qZo s r):q0d (x5a s r) Tryz.f71 0 [q0J 1 (s),q0n 1 (r)] (fun rr=>VLe rr (x0Q s r)):=by
 have key:(VLe (q0b 1 s) (q0b 1 (q14 (q0b 1 s)))∧qNX (q14 (q0b 1 s)) r.client r.number)∧(decide (q72 (q5s s) r.client r.number≥(0:Int))=true→qAv s∧((0:Int)≤q72 (q5s s) r.client r.number∧q72 (q5s s) r.client r.number<(↑ s.marks.length:Int))∧VLe (V.tup [q0J 0 (q2a s),q0V 1 (s.marks.getD (q72 (q5s s) r.client r.number).toNat default).reply,vi 0]) (q8O s r))∧(decide (q72 (q5s s) r.client r.number≥(0:Int))=false→(decide ((↑ s.marks.length:Int)≥40)=true→VLe (V.tup [q0J 0 s,V.agg [vi 0,vi 0,V.str (ByteArray.mk #[])],vi 2]) (q8O s r))∧(decide ((↑ s.marks.length:Int)≥40)=false→qAv s∧((0=0∧5=5∧100=100∧((q1r s).length=(q1r s).length∧∀i:Nat,i<(q1r s).length→ELe (q09 1 ((q1r s).getD i default)) (q09 1 ((q23 s).getD i default))))∧VLe (q0D (q01 1) 1 (q2a s).nodes) (q0D (q01 1) 1 (q22 s))∧VLe (q0D (q00 1) 1 (q2a s).sessions) (q0D (q00 1) 1 (q24 s))∧VLe (q1Z r) (q0n 1 (q0L (q1Z r)))∧qKW (q06.mk (q22 s) (q24 s) (q2a s).now (q23 s)) (q0L (q1Z r)))∧(q1r s).length=(q6S s).length∧((0=0∧5=5∧100=100∧((q6S s).length=(q6S s).length∧∀i:Nat,i<(q6S s).length→ELe (q09 1 ((q6S s).getD i default)) (q09 1 ((q4q s).getD i default))))∧VLe (qH8 s r) (q0D (q01 1) 1 (q3S s r))∧VLe (qIW s r) (q0D (q00 1) 1 (q3L s r))∧VLe (q1Z r) (q0n 1 (q0L (q1Z r)))∧qRv (q06.mk (q3S s r) (q3L s r) (q5H s r) (q4q s)) (q0L (q1Z r)))∧(q6S s).length=(qBW s r).length∧(qBW s r).length=(qBW s r).length∧(qBW s r).length+1≤1073741824∧q13 5 1 (qET s r)∧VLe (V.tup [V.agg [q0D (q01 1) 0 (q70 (q06.mk (q3S s r) (q3L s r) (q5H s r) (q4q s)) (q5h r) (q55 r)).nodes,q0D (q00 1) 0 (q70 (q06.mk (q3S s r) (q3L s r) (q5H s r) (q4q s)) (q5h r) (q55 r)).sessions,vi (q70 (q06.mk (q3S s r) (q3L s r) (q5H s r) (q4q s)) (q5h r) (q55 r)).now,V.sl ((qBW s r).length+1) (q3K (qBW s r).length (gL (q09 1) (qBW s r)) (qET s r)) 0],q0V 1 (qGw (q06.mk (q3S s r) (q3L s r) (q5H s r) (q4q s)) (q5h r) (q55 r)),vi 0]) (q8O s r))):=by
  delta qAv;delta q8O;delta q5s;delta qET;delta q55;delta qBW;delta q4q;delta q6S;delta q5H;delta q3L;delta qIW;delta q3S;delta qH8;delta q5h;delta q1Z;delta q23;delta q1r;delta q24;delta q22;delta q2a;delta vi;obtain⟨hs,hr,hw⟩:=hpre;obtain⟨f1,f2,f3,f4⟩:=qC7 hs;obtain⟨r1,r2,r3,r4,r5,r6⟩:=qLi hr;have hl:=(q4T f2).1;have hn:=(q2J f1).1;obtain⟨okB,hmB⟩:=qCA (c:=r.client) (show q2H s from⟨f1,f2,f3⟩) r3;have eB:(⟨(q5r s r.client r.time).nodes,(q5r s r.client r.time).sessions,(q5r s r.client r.time).now,s.marks⟩:q06)=q1O s r:=by
   rw[←hmB];rfl
  have hmB2:(q1O s r).marks=s.marks:=hmB;have okB2:q2H (q1O s r):=okB;simp only[q1X,q3F,q0o,q0p,q2i,q4C,q5G,Int.toNat_natCast,stE,eB,hmB2];have hA:=(qIz okB2 r1 r6).2;rw[hmB2]at hA;refine⟨⟨VLe.refl _,by show s.marks.length≤maxLen;unfold maxLen;omega⟩,fun h=>⟨⟨VLe.refl _,by omega,by omega,by omega⟩,⟨of_decide_eq_true h,qVJ (of_decide_eq_true h)⟩,?_⟩,fun h=>⟨fun h2=>?_,fun h2=>⟨⟨VLe.refl _,by omega,by omega,by omega⟩,⟨⟨trivial,trivial,trivial,trivial,fun i hi=>ELe.refl _⟩,VLe.refl _,VLe.refl _,VLe.refl _,⟨f1,f2,f3⟩,r1,r3⟩,trivial,⟨⟨trivial,trivial,trivial,trivial,fun i hi=>ELe.refl _⟩,VLe.refl _,VLe.refl _,VLe.refl _,okB2,r1,r6,r4,r5,by rw[hmB2];exact f4,hw⟩,trivial,trivial,by first|omega|(rw[hA];omega),q5e rfl rfl,?_⟩⟩⟩
  ·obtain⟨e1,e2,e3⟩:=qKN (of_decide_eq_true h);rw[e1,e2,e3];exact VLe.refl _
  ·obtain⟨e1,e2,e3⟩:=qGL (of_decide_eq_false h) (by have:=of_decide_eq_true h2;omega);rw[e1,e2,e3];exact VLe.refl _
  ·obtain⟨e1,e2,e3⟩:=qGA (of_decide_eq_false h) (by have:=of_decide_eq_false h2;omega);rw[e1,e2,e3];exact q5u ⟨q21 ⟨VLe.refl _,VLe.refl _,VLe.refl _,by rw[hA];exact q9y rfl rfl,trivial⟩,VLe.refl _,VLe.refl _,trivial⟩
 exact Eq.mp (by kernel_rfl) key
theorem x7v:q0R Tryz.prog 71 x05:=by
 refine sob 0 Tryz.func71 fun args bin ob r bout hDe hob=>?_;unfold x05 at hDe;split at hDe
 ·rename_i a0 a1;cases hDe;exact okB (x5E (q0B a0) (q0L a1) (hob.2.2)) x8a (args_of_vles ⟨hob.1,hob.2.1,trivial⟩)
 ·cases hDe
theorem qSZ {P:Program} {f:Nat} {D D1 D2:q0P} (h1:q0R P f D1) (h2:q0R P f D2)
  (h:∀args bin ob r bout,D args bin=some (ob,r,bout)→ob→(∃ob',D1 args bin=some (ob',r,bout)∧ob')∨∃ob',D2 args bin=some (ob',r,bout)∧ob'):q0R P f D:=
 ⟨fun args bin ob r bout hD hob=>(h args bin ob r bout hD hob).elim (fun⟨_,a,b⟩=>h1.does args bin _ r bout a b) fun⟨_,a,b⟩=>h2.does args bin _ r bout a b⟩
def xDk (s:q06) (r:q0E):Prop:=q1a s=0∧q7T r=0
noncomputable def xAf:q0P:=fun args bin=>match args,bin with
 |[a0,a1],[]=>some (VLe a0 (q0J 1 (q0B a0))∧VLe a1 (q0n 1 (q0L a1))∧xDk (q0B a0) (q0L a1),qVz (q0B a0) (q0L a1),[])
 |_,_=>none
theorem xHE:q0R Tryz.prog 71 xAf:=qSZ x62 x7v fun args bin ob r bout hD hob=>by
 unfold xAf at hD;split at hD
 ·rename_i a0 a1;cases hD;obtain⟨h0,h1,hp⟩:=hob;by_cases c:q6b (q0L a1).client (q1O (q0B a0) (q0L a1)) (q0L a1).ops (q0L a1).ops.length
  ·exact .inl ⟨_,rfl,h0,h1,hp.1,hp.2,c⟩
  ·exact .inr ⟨_,rfl,h0,h1,hp.1,hp.2,c⟩
 ·cases hD
def x4M (s:q06) (r:q0E):Prop:=s.bd∧r.ops.length≤maxLen
noncomputable def xDO (s:q06) (r:q0E):V:=q0m 0 (q2Z s r)
noncomputable def xCj:q0P:=fun args bin=>match args,bin with
 |[a0,a1],[]=>some (VLe a0 (q0J 1 ((q0B a0)))∧VLe a1 (q0t 1 ((q0N a1)))∧x4M (q0B a0) (q0N a1),xDO (q0B a0) (q0N a1),[])
 |_,_=>none
noncomputable def D33:=lkR [(87,xA7),(88,x5n),(71,xAf)]
theorem xFU:q0C Tryz.prog D33:=q02 xH4 (q02 xFc (q02 xHE (q04)))
noncomputable def xGK (s:q06) (r:q0E):=cxN D33 Tryz.f33 [0,1,2,3,4,5,6,7,8,9,12,17,27]
theorem xGW (s:q06) (r:q0E) (hpre:x4M s r):q0d (xGK s r) Tryz.f33 0 [q0J 1 (s),q0t 1 (r)] (fun rr=>VLe rr (xDO s r)):=by
 have key:(VLe (q0b 1 s) (q0b 1 (q14 (q0b 1 s)))∧x90 (q14 (q0b 1 s)))∧((q1a (q14 (q0b 1 s))!=0)=true→VLe (V.agg [vi (q1a (q14 (q0b 1 s))),vi 0,vi 0,V.str (ByteArray.mk #[]),V.nil,V.nil,vi 0,V.nil]) (q0m 0 (q2Z s r)))∧((q1a (q14 (q0b 1 s))!=0)=false→(VLe (q1Z r) (q0n 1 (q0L (q1Z r)))∧xCF (q0L (q1Z r)))∧((q7T (q0L (q1Z r))!=0)=true→VLe (V.agg [vi (q7T (q0L (q1Z r))),vi 0,vi 0,V.str (ByteArray.mk #[]),V.nil,V.nil,vi 0,V.nil]) (q0m 0 (q2Z s r)))∧((q7T (q0L (q1Z r))!=0)=false→(VLe (q10 s) (q0J 1 (q0B (q10 s)))∧VLe (q1Z r) (q0n 1 (q0L (q1Z r)))∧xDk (q0B (q10 s)) (q0L (q1Z r)))∧((qCW (q0B (q10 s)) (q0L (q1Z r))!=0)=true→VLe (V.agg [vi (qCW (q0B (q10 s)) (q0L (q1Z r))),vi 0,vi 0,V.str (ByteArray.mk #[]),V.nil,V.nil,vi 0,V.nil]) (q0m 0 (q2Z s r)))∧((qCW (q0B (q10 s)) (q0L (q1Z r))!=0)=false→VLe (V.agg [vi 0,vi (qDy (q0B (q10 s)) (q0L (q1Z r))).code,vi (qDy (q0B (q10 s)) (q0L (q1Z r))).value,V.str (qDy (q0B (q10 s)) (q0L (q1Z r))).path,q0D (q01 1) 0 (qCF (q0B (q10 s)) (q0L (q1Z r))).nodes,q0D (q00 1) 0 (qCF (q0B (q10 s)) (q0L (q1Z r))).sessions,vi (qCF (q0B (q10 s)) (q0L (q1Z r))).now,q0D (q09 1) 0 (qCF (q0B (q10 s)) (q0L (q1Z r))).marks]) (q0m 0 (q2Z s r))))):=by
  delta q10;delta q1Z;delta vi;obtain⟨hb,ho⟩:=hpre;simp only[q1X,q3F,q4C];exact⟨⟨VLe.refl _,hb⟩,fun h=>xCQ (rf1 (nzT h)),fun h=>⟨⟨VLe.refl _,ho⟩,fun h2=>xCQ (rf2 (zzT h) (nzT h2)),fun h2=>⟨⟨VLe.refl _,VLe.refl _,zzT h,zzT h2⟩,fun h3=>xCQ (rf3 (zzT h) (zzT h2) (nzT h3)),fun h3=>agV (x:=⟨0,qDy s r,qCF s r⟩) (rf4 (zzT h) (zzT h2) (zzT h3))⟩⟩⟩
 exact Eq.mp (by kernel_rfl) key
theorem xFf:q0R Tryz.prog 33 xCj:=by
 refine sob 0 Tryz.func33 fun args bin ob r bout hDe hob=>?_;unfold xCj at hDe;split at hDe
 ·rename_i a0 a1;cases hDe;exact okB (xGW (q0B a0) (q0N a1) (hob.2.2)) xFU (args_of_vles ⟨hob.1,hob.2.1,trivial⟩)
 ·cases hDe
def xAU (s:q06) (r:q0E):Prop:=q1a s=0∧q7T r=0
noncomputable def xE6 (s:q06) (r:q0E):V:=.tup [q0V 0 (qDy s r),q0J 0 (qCF s r),.int .i64 (qCW s r)]
noncomputable def x6I:q0P:=fun args bin=>match args,bin with
 |[a0,a1],[]=>some (VLe a0 (q0J 1 ((q0B a0)))∧VLe a1 (q0t 1 ((q0N a1)))∧xAU (q0B a0) (q0N a1),xE6 (q0B a0) (q0N a1),[])
 |_,_=>none
noncomputable def qYi (s:q06) (r:q0E):q0M:=
 ⟨Nat,fun i=>⟨[(2,.oref 192 0 0),(3,.oref 256 0 0),(4,.oref 320 0 0),(5,.oref 384 0 0),(6,.int .i64 0),(10,.oref 704 0 0),(11,.oref 768 0 0),(76,q0D (q0Q 1) 1 r.ops),(77,.int .i64 r.ops.length),(78,.int .i64 i)],[(192,.box [q0D (q01 1) 0 (q1O s r).nodes,q0D (q00 1) 0 (q1O s r).sessions,.int .i64 (q1O s r).now,q0D (q09 1) 0 (q1O s r).marks]),(256,.box (q0t 1 r).cells),(320,.box [.int .i64 0,.int .i64 0,.str ⟨#[]⟩]),(384,.box [.nil,.nil,.int .i64 0,.nil]),(704,.box [q0D (q01 1) 0 (q2p r.client (q1O s r) r.ops i).1.nodes,q0D (q00 1) 0 (q2p r.client (q1O s r) r.ops i).1.sessions,.int .i64 (q2p r.client (q1O s r) r.ops i).1.now,q0D (q09 1) 0 (q2p r.client (q1O s r) r.ops i).1.marks]),(768,.box [.int .i64 (q2p r.client (q1O s r) r.ops i).2.code,.int .i64 (q2p r.client (q1O s r) r.ops i).2.value,.str (q2p r.client (q1O s r) r.ops i).2.path])]⟩,
  fun i=>i≤r.ops.length∧q6b r.client (q1O s r) r.ops i,fun i=>r.ops.length-i⟩
noncomputable def xGG (s:q06) (r:q0E):Nat→Option q0M:=fun rg_=>match rg_ with
 |16=>some (qYi s r)
 |_=>none
noncomputable def D94:=lkR [(122,qU6),(95,xB5),(158,qX2),(159,qXQ),(160,qYJ),(109,qYK),(161,qIR)]
theorem xFn:q0C Tryz.prog D94:=q02 x1B (q02 xHG (q02 xCA (q02 x69 (q02 x8U (q02 x8S (q02 qQB (q04)))))))
noncomputable def xHM (s:q06) (r:q0E):=cxL D94 Tryz.f94 [0,1,2,3,4,5,6,7,8,9,10,11,12,13,14,15,24,35,69,76,77,78,79,95] [(16,⟨[(2,none),(3,none),(4,none),(5,none),(6,none),(10,none),(11,none),(76,none),(77,none),(78,none)],[(192,[]),(256,[]),(320,[]),(384,[]),(704,[]),(768,[])]⟩)] (xGG s r) []
def qLg (s:q06) (r:q0E) (x:Nat):Prop:=x≤(q0v r).length∧q6b (q0k r) (q1O s r) (q0v r) x
noncomputable def qAw (s:q06) (r:q0E) (x:Nat):V:=q0J 1 (Prod.fst (q2p (q0k r) (q1O s r) (q0v r) x))
noncomputable def q9v (s:q06) (r:q0E):List q0U:=q0K q0H (q0D (q09 1) 1 (q1O s r).marks)
noncomputable def q8e (r:q0E):Int:=r.number
noncomputable def qGq (s:q06) (r:q0E) (x:Nat):Int:=(doR (q0B (qAw s r x)) (q0k r) (q0a (q7D r x))).code
noncomputable def qIM (s:q06) (r:q0E):V:=V.tup [q0V 0 (qDy s r),q0J 0 (qCF s r),vi (qCW s r)]
noncomputable def qIa (r:q0E):Nat×V:=(76,q0D (q0Q 1) 1 (q0v r))
noncomputable def qLp (s:q06) (r:q0E):Nat×Blk:=(192,Blk.box [q0D (q01 1) 0 (q1O s r).nodes,q0D (q00 1) 0 (q1O s r).sessions,vi (q1O s r).now,q0D (q09 1) 0 (q1O s r).marks])
noncomputable def qEE (r:q0E):Nat×Blk:=(256,Blk.box [vi (q0k r),vi (q8e r),vi r.time,q0D (q0Q 1) 1 (q0v r)])
noncomputable def qE9:Nat×Blk:=(320,Blk.box [vi 0,vi 0,V.str (ByteArray.mk #[])])
noncomputable def qEj:Nat×Blk:=(384,Blk.box [V.nil,V.nil,vi 0,V.nil])
noncomputable def qLX (s:q06) (r:q0E) (x:Nat):List q0U:=(Prod.fst (q2p (q0k r) (q1O s r) (q0v r) x)).marks
noncomputable def qGY (s:q06) (r:q0E) (x:Nat):List q0U:=q0K q0H (q0D (q09 1) 1 (qLX s r x))
noncomputable def qQq (s:q06) (r:q0E) (x:Nat):Nat→V:=q3C [V.agg [vi (q0k r),vi (q8e r),vi (Prod.snd (q2p (q0k r) (q1O s r) (q0v r) x)).code,vi (Prod.snd (q2p (q0k r) (q1O s r) (q0v r) x)).value,V.str (Prod.snd (q2p (q0k r) (q1O s r) (q0v r) x)).path]]
def qXJ (s:q06) (r:q0E) (x:Nat):Prop:=qLg s r x→(decide ((↑x:Int)<(q2C r))=true→(0≤(↑x:Int)∧(↑x:Int)<(q2C r))∧(VLe (qAw s r x) (q0J 1 (q0B (qAw s r x)))∧VLe (q7D r x) (q0Q 1 (q0a (q7D r x)))∧qXa (q0B (qAw s r x)) (q0k r) (q0a (q7D r x)))∧(((doR (q0B (qAw s r x)) (q0k r) (q0a (q7D r x))).code !=0)=true→(VLe (q0D (q09 1) 1 (q1O s r).marks) (q0D (q09 1) 1 (q9v s r))∧qF1 (q9v s r))∧(q3M (q9v s r)).length=(q3M (q9v s r)).length∧(q3M (q9v s r)).length+1≤1073741824∧q13 5 1 (q3C [V.agg [vi (q0k r),vi (q8e r),vi (qGq s r x),vi (↑x:Int),V.str (ByteArray.mk #[])]])∧VLe (V.tup [V.agg [vi (qGq s r x),vi (↑x:Int),V.str (ByteArray.mk #[])],V.agg [q0D (q01 1) 0 (q1O s r).nodes,q0D (q00 1) 0 (q1O s r).sessions,vi (q1O s r).now,V.sl ((q3M (q9v s r)).length+1) (q3K (q3M (q9v s r)).length (gL (q09 1) (q3M (q9v s r))) (q3C [V.agg [vi (q0k r),vi (q8e r),vi (qGq s r x),vi (↑x:Int),V.str (ByteArray.mk #[])]])) 0],vi 0]) (qIM s r))∧(((doR (q0B (qAw s r x)) (q0k r) (q0a (q7D r x))).code !=0)=false→(inK IntKind.i64 ((↑x:Int)+1)∧∃y:Nat,SLe (AS.mk [(2,V.oref 192 0 0),(3,V.oref 256 0 0),(4,V.oref 320 0 0),(5,V.oref 384 0 0),(6,vi 0),(10,V.oref 704 0 0),(11,V.oref 768 0 0),(qIa r),(77,vi (q2C r)),(78,vi ((↑x:Int)+1))] [(qLp s r),(qEE r),qE9,qEj,(704,Blk.box [q0D (q01 1) 0 (doS (q0B (qAw s r x)) (q0k r) (q0a (q7D r x))).nodes,q0D (q00 1) 0 (doS (q0B (qAw s r x)) (q0k r) (q0a (q7D r x))).sessions,vi (doS (q0B (qAw s r x)) (q0k r) (q0a (q7D r x))).now,q0D (q09 1) 0 (doS (q0B (qAw s r x)) (q0k r) (q0a (q7D r x))).marks]),(768,Blk.box [vi (qGq s r x),vi (doR (q0B (qAw s r x)) (q0k r) (q0a (q7D r x))).value,V.str (doR (q0B (qAw s r x)) (q0k r) (q0a (q7D r x))).path])]) (AS.mk [(2,V.oref 192 0 0),(3,V.oref 256 0 0),(4,V.oref 320 0 0),(5,V.oref 384 0 0),(6,vi 0),(10,V.oref 704 0 0),(11,V.oref 768 0 0),(qIa r),(77,vi (q2C r)),(78,vi (↑y:Int))] [(qLp s r),(qEE r),qE9,qEj,(704,Blk.box [q0D (q01 1) 0 (Prod.fst (q2p (q0k r) (q1O s r) (q0v r) y)).nodes,q0D (q00 1) 0 (Prod.fst (q2p (q0k r) (q1O s r) (q0v r) y)).sessions,vi (Prod.fst (q2p (q0k r) (q1O s r) (q0v r) y)).now,q0D (q09 1) 0 (Prod.fst (q2p (q0k r) (q1O s r) (q0v r) y)).marks]),(768,Blk.box [vi (Prod.snd (q2p (q0k r) (q1O s r) (q0v r) y)).code,vi (Prod.snd (q2p (q0k r) (q1O s r) (q0v r) y)).value,V.str (Prod.snd (q2p (q0k r) (q1O s r) (q0v r) y)).path])])∧(y≤(q0v r).length∧q6b (q0k r) (q1O s r) (q0v r) y)∧(q0v r).length-y<(q0v r).length-x)))∧(decide ((↑x:Int)<(q2C r))=false→(VLe (q0D (q09 1) 1 (qLX s r x)) (q0D (q09 1) 1 (qGY s r x))∧qF1 (qGY s r x))∧(q3M (qGY s r x)).length=(q3M (qGY s r x)).length∧(q3M (qGY s r x)).length+1≤1073741824∧q13 5 1 (qQq s r x)∧VLe (V.tup [q0V 1 (Prod.snd (q2p (q0k r) (q1O s r) (q0v r) x)),V.agg [q0D (q01 1) 0 (Prod.fst (q2p (q0k r) (q1O s r) (q0v r) x)).nodes,q0D (q00 1) 0 (Prod.fst (q2p (q0k r) (q1O s r) (q0v r) x)).sessions,vi (Prod.fst (q2p (q0k r) (q1O s r) (q0v r) x)).now,V.sl ((q3M (qGY s r x)).length+1) (q3K (q3M (qGY s r x)).length (gL (q09 1) (q3M (qGY s r x))) (qQq s r x)) 0],vi 0]) (qIM s r))
noncomputable def qDL (s:q06):List q07:=q0K q05 (q0D (q00 1) 1 (q0B (q10 s)).sessions)
noncomputable def qTp (s:q06) (r:q0E):List q07:=(q3H.mk (0:Int) (q1M (qDL s) (if r.time>(q0B (q10 s)).now then r.time else(q0B (q10 s)).now)) (q29 (qDL s) (if r.time>(q0B (q10 s)).now then r.time else(q0B (q10 s)).now))).live
noncomputable def qMr (s:q06) (r:q0E):V:=q0D q42 1 (q3H.mk (0:Int) (q1M (qDL s) (if r.time>(q0B (q10 s)).now then r.time else(q0B (q10 s)).now)) (q29 (qDL s) (if r.time>(q0B (q10 s)).now then r.time else(q0B (q10 s)).now))).over
noncomputable def qXE (s:q06) (r:q0E) (x:Nat):AS:=AS.mk [(2,V.oref 192 0 0),(3,V.oref 256 0 0),(4,V.oref 320 0 0),(5,V.oref 384 0 0),(6,vi 0),(10,V.oref 704 0 0),(11,V.oref 768 0 0),(qIa r),(77,vi (q2C r)),(78,vi (↑x:Int))] [(qLp s r),(qEE r),qE9,qEj,(704,Blk.box [q0D (q01 1) 0 (Prod.fst (q2p (q0k r) (q1O s r) (q0v r) x)).nodes,q0D (q00 1) 0 (Prod.fst (q2p (q0k r) (q1O s r) (q0v r) x)).sessions,vi (Prod.fst (q2p (q0k r) (q1O s r) (q0v r) x)).now,q0D (q09 1) 0 (qLX s r x)]),(768,Blk.box [vi (Prod.snd (q2p (q0k r) (q1O s r) (q0v r) x)).code,vi (Prod.snd (q2p (q0k r) (q1O s r) (q0v r) x)).value,V.str (Prod.snd (q2p (q0k r) (q1O s r) (q0v r) x)).path])]
noncomputable def qEZ (s:q06):V:=q0D (q01 1) 1 (q0B (q10 s)).nodes
noncomputable def qHT (s:q06) (r:q0E):List q07:=q0K q05 (q0D (q00 1) 1 (qTp s r))
noncomputable def qYZ (s:q06) (r:q0E):List V:=[q0D (q01 1) 258 (q2A (q0K q03 (qEZ s)) (q0K q2G (qMr s r))),q0D (q00 1) 266 (q44 (qHT s r) (q0k r) (if r.time>(q0B (q10 s)).now then r.time else(q0B (q10 s)).now)).sessions,vi (if r.time>(q0B (q10 s)).now then r.time else(q0B (q10 s)).now),q0D (q09 1) 239 (q0B (q10 s)).marks]
noncomputable def qPG (s:q06) (r:q0E):List V:=[q0D (q01 1) 258 (q2A (q0K q03 (qEZ s)) (q0K q2G (qMr s r))),q0D (q00 1) 250 (qTp s r),vi (if r.time>(q0B (q10 s)).now then r.time else(q0B (q10 s)).now),q0D (q09 1) 239 (q0B (q10 s)).marks]
noncomputable def qOt (r:q0E):List (Nat×V):=[(2,V.oref 192 0 0),(3,V.oref 256 0 0),(4,V.oref 320 0 0),(5,V.oref 384 0 0),(6,vi 0),(10,V.oref 704 0 0),(11,V.oref 768 0 0),(qIa r),(77,vi (q2C r)),(78,vi 0)]
noncomputable def qNr (s:q06) (r:q0E):Bool:=(q44 (qHT s r) (q0k r) (if r.time>(q0B (q10 s)).now then r.time else(q0B (q10 s)).now)).code==0
theorem xFq (s:q06) (r:q0E) (hpre:xAU s r):q0d (xHM s r) Tryz.f94 0 [q0J 1 (s),q0t 1 (r)] (fun rr=>VLe rr (xE6 s r)):=by
 have key:(VLe (q0D (q09 1) 1 s.marks) (q0D (q09 1) 1 (q4a s))∧qQc (q4a s) (q0k r) (q8e r))∧(decide (q72 (q4a s) (q0k r) (q8e r)≥(0:Int))=true→((0:Int)≤q72 (q4a s) (q0k r) (q8e r)∧q72 (q4a s) (q0k r) (q8e r)<(↑ s.marks.length:Int))∧VLe (V.tup [q0V 1 (s.marks.getD (q72 (q4a s) (q0k r) (q8e r)).toNat default).reply,q0J 0 s,vi 0]) (qIM s r))∧(decide (q72 (q4a s) (q0k r) (q8e r)≥(0:Int))=false→(((↑ s.marks.length:Int)==(40:Int))=true→VLe (V.tup [V.agg [vi 0,vi 0,V.str (ByteArray.mk #[])],q0J 0 s,vi 2]) (qIM s r))∧(((↑ s.marks.length:Int)==(40:Int))=false→(VLe (q10 s) (q0J 1 (q0B (q10 s)))∧xBN (q0B (q10 s)))∧(VLe (q0D (q00 1) 1 (q0B (q10 s)).sessions) (q0D (q00 1) 1 (qDL s))∧qVs (qDL s) (if r.time>(q0B (q10 s)).now then r.time else(q0B (q10 s)).now))∧(VLe (qEZ s) (q0D (q01 1) 1 (q0K q03 (qEZ s)))∧VLe (qMr s r) (q0D q42 1 (q0K q2G (qMr s r)))∧qVS (q0K q03 (qEZ s)) (q0K q2G (qMr s r)))∧(VLe (q0D (q00 1) 1 (qTp s r)) (q0D (q00 1) 1 (qHT s r))∧qWu (qHT s r) (q0k r) (if r.time>(q0B (q10 s)).now then r.time else(q0B (q10 s)).now))∧((qNr s r)=true→((∃x:Nat,SLe (AS.mk (qOt r) [(192,Blk.box (qYZ s r)),(qEE r),qE9,qEj,(704,Blk.box (qYZ s r)),(768,Blk.box [vi 0,vi 0,V.str (ByteArray.mk #[])])]) (qXE s r x)∧qLg s r x)∧∀x:Nat,qXJ s r x))∧((qNr s r)=false→((∃x:Nat,SLe (AS.mk (qOt r) [(192,Blk.box (qPG s r)),(qEE r),qE9,qEj,(704,Blk.box (qPG s r)),(768,Blk.box [vi 0,vi 0,V.str (ByteArray.mk #[])])]) (qXE s r x)∧qLg s r x)∧∀x:Nat,qXJ s r x)))):=by
  delta qNr;delta qOt;delta q4a;delta qPG;delta qYZ;delta qHT;delta qEZ;delta qXE;delta qMr;delta qTp;delta qDL;delta q10;delta qXJ;delta qQq;delta qGY;delta qLX;delta qEj;delta qE9;delta qEE;delta qLp;delta qIa;delta qIM;delta qGq;delta q8e;delta q9v;delta q7D;delta qAw;delta q2C;delta qMz;delta qLg;delta q0k;delta q0v;delta vi;obtain⟨hs,hr⟩:=hpre;obtain⟨f1,f2,f3,f4⟩:=qC7 hs;obtain⟨r1,r2,r3,r4,r5,r6⟩:=qLi hr;have hl:=(q4T f2).1;have hn:=(qB9 f1).1;obtain⟨okB,hmB⟩:=qCA (c:=r.client) (show q2H s from⟨f1,f2,f3⟩) r3;have hmB2:(q1O s r).marks=s.marks:=hmB;have okB2:q2H (q1O s r):=okB;have hm:inR (max s.now r.time) 0 9000:=by
   have:=f3;unfold inR at this r3⊢;omega
  have em:(if r.time>s.now then r.time else s.now)=max s.now r.time:=by split<;>omega
  have a1:q1q (q1M s.sessions (max s.now r.time))=0:=q7c.2 ((q7c.1 f2).filter _);have a2:(q29 s.sessions (max s.now r.time)).length≤s.sessions.length:=by
   unfold q29;rw[List.length_map];exact List.length_filter_le _ _
  have ok:∀k,k≤r.ops.length→q2H (q2p r.client (q1O s r) r.ops k).1∧(q2p r.client (q1O s r) r.ops k).1.marks=s.marks:=fun k hk=>by
   have:=qFG okB2 r1 r6 hk;exact⟨this.1,this.2.trans hmB2⟩
  have hop:∀k,k<r.ops.length→opF (r.ops.getD k default)=0:=fun k hk=>r6 _ (by simp[hk]);simp only[q1X,q3F,q0o,q0p,q2i,q8f,q3s,q4G,Int.toNat_natCast,q3M,em];refine⟨⟨VLe.refl _,by show s.marks.length≤maxLen;unfold maxLen;omega⟩,fun h=>⟨⟨of_decide_eq_true h,qVJ (of_decide_eq_true h)⟩,?_⟩,fun h=>⟨fun h2=>?_,fun h2=>⟨⟨VLe.refl _,by omega,by omega,by omega⟩,⟨VLe.refl _,f2,hm⟩,⟨VLe.refl _,VLe.refl _,by omega,by omega⟩,⟨VLe.refl _,a1,r1,hm⟩,fun h3=>⟨⟨0,?_,by omega,fun j hj=>absurd hj (Nat.not_lt_zero j)⟩,?_⟩,fun h3=>⟨⟨0,?_,by omega,fun j hj=>absurd hj (Nat.not_lt_zero j)⟩,?_⟩⟩⟩⟩
  ·obtain⟨e1,e2,e3⟩:=qKN (of_decide_eq_true h);rw[e1,e2,e3];exact VLe.refl _
  ·obtain⟨e1,e2,e3⟩:=qGL (of_decide_eq_false h) (by have:=eq_of_beq h2;omega);rw[e1,e2,e3];exact VLe.refl _
  ·have e:q1O s r=⟨q2A s.nodes (q29 s.sessions (max s.now r.time)),(q44 (q1M s.sessions (max s.now r.time)) r.client (max s.now r.time)).sessions,max s.now r.time,s.marks⟩:=by
    unfold q1O q5r qDK;rw[if_pos (eq_of_beq h3)]
   have b0:∀t1 t2 t3:Nat,BLe (.box [q0D (q01 1) t1 (q2A s.nodes (q29 s.sessions (max s.now r.time))),q0D (q00 1) t2 (q44 (q1M s.sessions (max s.now r.time)) r.client (max s.now r.time)).sessions,.int .i64 (max s.now r.time),q0D (q09 1) t3 s.marks])
     (.box [q0D (q01 1) 0 (q1O s r).nodes,q0D (q00 1) 0 (q1O s r).sessions,.int .i64 (q1O s r).now,q0D (q09 1) 0 (q1O s r).marks]):=fun t1 t2 t3=>by
    rw[e];exact qRr ⟨q5z,q5z,VLe.refl _,q5z,trivial⟩
   exact q1Q ⟨rfl,VLe.refl _,rfl,VLe.refl _,rfl,VLe.refl _,rfl,VLe.refl _,rfl,VLe.refl _,rfl,VLe.refl _,rfl,VLe.refl _,rfl,VLe.refl _,rfl,VLe.refl _,rfl,VLe.refl _,trivial⟩ ⟨rfl,b0 _ _ _,rfl,BLe.refl _,rfl,BLe.refl _,rfl,BLe.refl _,rfl,b0 _ _ _,rfl,BLe.refl _,trivial⟩
  rotate_left
  ·have e:q1O s r=⟨q2A s.nodes (q29 s.sessions (max s.now r.time)),q1M s.sessions (max s.now r.time),max s.now r.time,s.marks⟩:=by
    unfold q1O q5r qDK;rw[if_neg (by simpa using h3)]
   have b0:∀t1 t2 t3:Nat,BLe (.box [q0D (q01 1) t1 (q2A s.nodes (q29 s.sessions (max s.now r.time))),q0D (q00 1) t2 (q1M s.sessions (max s.now r.time)),.int .i64 (max s.now r.time),q0D (q09 1) t3 s.marks])
     (.box [q0D (q01 1) 0 (q1O s r).nodes,q0D (q00 1) 0 (q1O s r).sessions,.int .i64 (q1O s r).now,q0D (q09 1) 0 (q1O s r).marks]):=fun t1 t2 t3=>by
    rw[e];exact qRr ⟨q5z,q5z,VLe.refl _,q5z,trivial⟩
   exact q1Q ⟨rfl,VLe.refl _,rfl,VLe.refl _,rfl,VLe.refl _,rfl,VLe.refl _,rfl,VLe.refl _,rfl,VLe.refl _,rfl,VLe.refl _,rfl,VLe.refl _,rfl,VLe.refl _,rfl,VLe.refl _,trivial⟩ ⟨rfl,b0 _ _ _,rfl,BLe.refl _,rfl,BLe.refl _,rfl,BLe.refl _,rfl,b0 _ _ _,rfl,BLe.refl _,trivial⟩
  all_goals
   rintro x ⟨hx,hwx⟩;obtain⟨okx,hmx⟩:=ok x hx;have n40:¬40≤s.marks.length:=fun g=>by
    have t4:(s.marks.length:Int)≠40:=by simpa using h2
    omega
   have hd:=qGA (of_decide_eq_false h) n40;obtain⟨e1,e2,e3⟩:=hd;refine⟨fun h=>?_,fun h=>?_⟩
   ·have hlt:x<r.ops.length:=by simpa using h
    refine⟨⟨by omega,by omega⟩,⟨VLe.refl _,VLe.refl _,okx.1,okx.2.1,okx.2.2,r1,hop x hlt⟩,fun h2=>⟨⟨VLe.refl _,by show(q1O s r).marks.length≤1000;rw[hmB2];omega⟩,trivial,by rw[hmB2];omega,q5e rfl rfl,?_⟩,fun h2=>⟨q0X (by omega),x+1,q1Q ⟨rfl,VLe.refl _,rfl,VLe.refl _,rfl,VLe.refl _,rfl,VLe.refl _,rfl,VLe.refl _,rfl,VLe.refl _,rfl,VLe.refl _,rfl,VLe.refl _,rfl,VLe.refl _,rfl,VLe.refl _,trivial⟩ ⟨rfl,BLe.refl _,rfl,BLe.refl _,rfl,BLe.refl _,rfl,BLe.refl _,rfl,BLe.refl _,rfl,BLe.refl _,trivial⟩,⟨by omega,hwx.next (zzT h2)⟩,by omega⟩⟩;obtain⟨g1,g2⟩:=qJ2 hlt hwx (nzT h2);rw[e1,e2,e3,g1,g2];exact q5u ⟨VLe.refl _,q21 ⟨VLe.refl _,VLe.refl _,VLe.refl _,q9y rfl rfl,trivial⟩,VLe.refl _,trivial⟩
   ·have hge:x=r.ops.length:=by have:=of_decide_eq_false h;omega
    subst hge;obtain⟨g1,g2⟩:=qLz hwx;refine⟨⟨VLe.refl _,by show(q2p _ _ _ _).1.marks.length≤1000;rw[hmx];omega⟩,trivial,by rw[hmx];omega,q5e rfl rfl,?_⟩;rw[e1,e2,e3,g1,g2];exact q5u ⟨VLe.refl _,q21 ⟨VLe.refl _,VLe.refl _,VLe.refl _,q9y rfl rfl,trivial⟩,VLe.refl _,trivial⟩
 exact Eq.mp (by kernel_rfl) key
theorem xHC:q0R Tryz.prog 94 x6I:=by
 refine sob 0 Tryz.func94 fun args bin ob r bout hDe hob=>?_;unfold x6I at hDe;split at hDe
 ·rename_i a0 a1;cases hDe;exact okB (xFq (q0B a0) (q0N a1) (hob.2.2)) xFn (args_of_vles ⟨hob.1,hob.2.1,trivial⟩)
 ·cases hDe
def qWT (s:q06):Prop:=s.nodes.length≤1000∧s.sessions.length≤1000∧s.marks.length≤1000
noncomputable def q6Z (s:q06):q06:=s
noncomputable def qZC (s:q06):List Blk:=[(.arr 5 ((q6Z s).nodes).length (gL (q01 1) ((q6Z s).nodes)) q0l),(.arr 2 ((q6Z s).sessions).length (gL (q00 1) ((q6Z s).sessions)) q0l),(.arr 5 ((q6Z s).marks).length (gL (q09 1) ((q6Z s).marks)) q0l)]
noncomputable def x0v (s:q06):V:=.agg [.osl 0 ((q6Z s).nodes).length,.osl 1 ((q6Z s).sessions).length,.int .i64 ((q6Z s).now),.osl 2 ((q6Z s).marks).length]
noncomputable def qWv:q0P:=fun args bin=>match args,bin with
 |[a0],[]=>some (VLe a0 (q0J 1 ((q0B a0)))∧qWT (q0B a0),x0v (q0B a0),qZC (q0B a0))
 |_,_=>none
noncomputable def xDI:=lkR [(162,qA0),(163,qCL),(161,qIR)]
theorem x5h:q0C Tryz.prog xDI:=q02 qCq (q02 qHj (q02 qQB (q04)))
noncomputable def x5x (s:q06):=cxN xDI Tryz.f95 [0,1,2]
theorem xB2 (s:q06) (hpre:qWT s):q3h (x5x s) Tryz.f95 [(0,5),(1,2),(3,5)] [q0J 1 (s)] [] (fun rr bs=>VLe rr (x0v s)∧q1y bs (qZC s)):=by
 have key:(VLe (q0D (q01 1) 1 s.nodes) (q0D (q01 1) 1 (q1F s))∧qAD (q1F s))∧(VLe (q0D (q00 1) 1 s.sessions) (q0D (q00 1) 1 (q1G s))∧qCY (q1G s))∧(VLe (q0D (q09 1) 1 s.marks) (q0D (q09 1) 1 (q4a s))∧qF1 (q4a s))∧VLe (V.agg [V.osl 0 (q30 (q1F s)).length,V.osl 1 (q2f (q1G s)).length,vi s.now,V.osl 2 (q3M (q4a s)).length]) (V.agg [V.osl 0 (q6Z s).nodes.length,V.osl 1 (q6Z s).sessions.length,vi (q6Z s).now,V.osl 2 (q6Z s).marks.length])∧BLe (Blk.arr 5 (q30 (q1F s)).length (gL (q01 1) (q30 (q1F s))) 100) (Blk.arr 5 (q6Z s).nodes.length (gL (q01 1) (q6Z s).nodes) 100)∧BLe (Blk.arr 2 (q2f (q1G s)).length (gL (q00 1) (q2f (q1G s))) 100) (Blk.arr 2 (q6Z s).sessions.length (gL (q00 1) (q6Z s).sessions) 100)∧BLe (Blk.arr 5 (q3M (q4a s)).length (gL (q09 1) (q3M (q4a s))) 100) (Blk.arr 5 (q6Z s).marks.length (gL (q09 1) (q6Z s).marks) 100)∧True:=by
  delta q4a;delta q1F;delta q1G;delta vi;obtain⟨h1,h2,h3⟩:=hpre;simp only[q0o,q0p,q2i];exact⟨⟨VLe.refl _,h1⟩,⟨VLe.refl _,h2⟩,⟨VLe.refl _,h3⟩,VLe.refl _,BLe.refl _,BLe.refl _,BLe.refl _,trivial⟩
 exact Eq.mp (by kernel_rfl) key
theorem xCD:q0R Tryz.prog 95 qWv:=by
 refine q0S q77 (tpl:=[(0,5),(1,2),(3,5)]) Tryz.func95 rfl (by kernel_rfl) fun args bin ob r bout hDe hob=>?_;unfold qWv at hDe;split at hDe
 ·rename_i a0;cases hDe;exact okQ (xB2 (q0B a0) (hob.2)) x5h (args_of_vles ⟨hob.1,trivial⟩) trivial
 ·cases hDe
theorem qK6 {k:Int} {x:q0f} (h:x=⟨k,⟨0,0,q1f⟩,⟨[],[],0,[]⟩⟩):
  VLe (.agg [.int .i64 k,.int .i64 0,.int .i64 0,.str ⟨#[]⟩,.osl 0 0,.osl 1 0,.int .i64 0,.osl 2 0]) (.agg [.int .i64 x.code,.int .i64 x.reply.code,.int .i64 x.reply.value,.str x.reply.path,.osl 0 x.state.nodes.length,.osl 1 x.state.sessions.length,.int .i64 x.state.now,.osl 2 x.state.marks.length])∧
  BLe (.arr 5 0 (fun _=>.undef) 100) (.arr 5 x.state.nodes.length (gL (q01 1) x.state.nodes) 100)∧BLe (.arr 2 0 (fun _=>.undef) 100) (.arr 2 x.state.sessions.length (gL (q00 1) x.state.sessions) 100)∧
  BLe (.arr 5 0 (fun _=>.undef) 100) (.arr 5 x.state.marks.length (gL (q09 1) x.state.marks) 100)∧True:=by
 subst h;exact⟨VLe.refl _,q3G _,q3G _,q3G _,trivial⟩
theorem x1r {x y:q0f} (h:y=x):
  VLe (.agg [.int .i64 x.code,.int .i64 x.reply.code,.int .i64 x.reply.value,.str x.reply.path,.osl 0 x.state.nodes.length,.osl 1 x.state.sessions.length,.int .i64 x.state.now,.osl 2 x.state.marks.length]) (.agg [.int .i64 y.code,.int .i64 y.reply.code,.int .i64 y.reply.value,.str y.reply.path,.osl 0 y.state.nodes.length,.osl 1 y.state.sessions.length,.int .i64 y.state.now,.osl 2 y.state.marks.length])∧
  BLe (.arr 5 x.state.nodes.length (gL (q01 1) x.state.nodes) 100) (.arr 5 y.state.nodes.length (gL (q01 1) y.state.nodes) 100)∧BLe (.arr 2 x.state.sessions.length (gL (q00 1) x.state.sessions) 100) (.arr 2 y.state.sessions.length (gL (q00 1) y.state.sessions) 100)∧
  BLe (.arr 5 x.state.marks.length (gL (q09 1) x.state.marks) 100) (.arr 5 y.state.marks.length (gL (q09 1) y.state.marks) 100)∧True:=by
 subst h;exact⟨VLe.refl _,BLe.refl _,BLe.refl _,BLe.refl _,trivial⟩
theorem qKt {s:q06} {r:q0E} (h:q1a s=0) (h2:q7T r=0):(qCF s r).nodes.length≤1000∧(qCF s r).sessions.length≤1000∧(qCF s r).marks.length≤1000:=by
 obtain⟨f1,f2,f3,f4⟩:=qC7 h;obtain⟨r1,r2,r3,r4,r5,r6⟩:=qLi h2;have hl:=(q4T f2).1;have hn:=(qB9 f1).1;obtain⟨okB,hmB⟩:=qCA (c:=r.client) (show q2H s from⟨f1,f2,f3⟩) r3;have okB2:q2H (q1O s r):=okB;obtain⟨okA,hA⟩:=qIz okB2 r1 r6;have hmB2:(q1O s r).marks=s.marks:=hmB;have hl2:=(q4T okA.2.1).1;have hn2:=(qB9 okA.1).1;by_cases c1:0≤q72 s.marks r.client r.number
 ·rw[(qKN c1).1];omega
 by_cases c2:40≤s.marks.length
 ·rw[(qGL c1 c2).1];omega
 ·rw[(qGA c1 c2).1];refine⟨by show(q70 _ _ _).nodes.length≤1000;omega,by show(q70 _ _ _).sessions.length≤1000;omega,?_⟩;show((q70 _ _ _).marks++[_]).length≤1000;rw[List.length_append,List.length_singleton,hA,hmB2];omega
def qPq (s:q06) (r:q0E):Prop:=s.bd∧r.ops.length≤maxLen
noncomputable def q6a (s:q06) (r:q0E):q0f:=q2Z s r
noncomputable def x3N (s:q06) (r:q0E):List Blk:=[(.arr 5 (((q6a s r).state).nodes).length (gL (q01 1) (((q6a s r).state).nodes)) q0l),(.arr 2 (((q6a s r).state).sessions).length (gL (q00 1) (((q6a s r).state).sessions)) q0l),(.arr 5 (((q6a s r).state).marks).length (gL (q09 1) (((q6a s r).state).marks)) q0l)]
noncomputable def x3G (s:q06) (r:q0E):V:=.agg [.int .i64 ((q6a s r).code),.int .i64 (((q6a s r).reply).code),.int .i64 (((q6a s r).reply).value),.str (((q6a s r).reply).path),.osl 0 (((q6a s r).state).nodes).length,.osl 1 (((q6a s r).state).sessions).length,.int .i64 (((q6a s r).state).now),.osl 2 (((q6a s r).state).marks).length]
noncomputable def qX4:q0P:=fun args bin=>match args,bin with
 |[a0,a1],[]=>some (VLe a0 (q0J 1 ((q0B a0)))∧VLe a1 (q0t 1 ((q0N a1)))∧qPq (q0B a0) (q0N a1),x3G (q0B a0) (q0N a1),x3N (q0B a0) (q0N a1))
 |_,_=>none
noncomputable def xDh:=lkR [(46,xBv),(93,xCK),(94,x6I),(95,qWv)]
theorem x7S:q0C Tryz.prog xDh:=q02 xGA (q02 xGg (q02 xHC (q02 xCD (q04))))
noncomputable def x6R (s:q06) (r:q0E):=cxN xDh Tryz.f36 [0,1,2,3,4,5,6,7,8,9,13,19,30]
noncomputable def q8Y (s:q06) (r:q0E):q06:=(q6a s r).state
noncomputable def qH5 (s:q06) (r:q0E):V:=V.agg [vi (q6a s r).code,vi (q6a s r).reply.code,vi (q6a s r).reply.value,V.str (q6a s r).reply.path,V.osl 0 (q8Y s r).nodes.length,V.osl 1 (q8Y s r).sessions.length,vi (q8Y s r).now,V.osl 2 (q8Y s r).marks.length]
noncomputable def qQt (s:q06) (r:q0E):Blk:=Blk.arr 5 (q8Y s r).nodes.length (gL (q01 1) (q8Y s r).nodes) 100
noncomputable def qRk (s:q06) (r:q0E):Blk:=Blk.arr 2 (q8Y s r).sessions.length (gL (q00 1) (q8Y s r).sessions) 100
noncomputable def qOv (s:q06) (r:q0E):Blk:=Blk.arr 5 (q8Y s r).marks.length (gL (q09 1) (q8Y s r).marks) 100
def qLT (s:q06) (r:q0E):Prop:=BLe (Blk.arr 5 0 (fun(x:Nat) ↦ V.undef) 100) (qQt s r)∧BLe (Blk.arr 2 0 (fun(x:Nat) ↦ V.undef) 100) (qRk s r)∧BLe (Blk.arr 5 0 (fun(x:Nat) ↦ V.undef) 100) (qOv s r)∧True
noncomputable def q3P (r:q0E):V:=q0t 1 r
noncomputable def qHM (s:q06) (r:q0E):V:=q0J 1 (qCF (q0B (q10 s)) (q0N (q3P r)))
noncomputable def q8X (s:q06) (r:q0E):q06:=q6Z (q0B (qHM s r))
theorem x6n (s:q06) (r:q0E) (hpre:qPq s r):q3h (x6R s r) Tryz.f36 [(4,5),(5,2),(7,5)] [q0J 1 (s),q0t 1 (r)] [] (fun rr bs=>VLe rr (x3G s r)∧q1y bs (x3N s r)):=by
 have key:(VLe (q10 s) (q0J 1 (q0B (q10 s)))∧xAB (q0B (q10 s)))∧((q1a (q0B (q10 s))!=0)=true→VLe (V.agg [vi (q1a (q0B (q10 s))),vi 0,vi 0,V.str (ByteArray.mk #[]),V.osl 0 0,V.osl 1 0,vi 0,V.osl 2 0]) (qH5 s r)∧qLT s r)∧((q1a (q0B (q10 s))!=0)=false→(VLe (q3P r) (q0t 1 (q0N (q3P r)))∧xBw (q0N (q3P r)))∧((q7T (q0N (q3P r))!=0)=true→VLe (V.agg [vi (q7T (q0N (q3P r))),vi 0,vi 0,V.str (ByteArray.mk #[]),V.osl 0 0,V.osl 1 0,vi 0,V.osl 2 0]) (qH5 s r)∧qLT s r)∧((q7T (q0N (q3P r))!=0)=false→(VLe (q10 s) (q0J 1 (q0B (q10 s)))∧VLe (q3P r) (q0t 1 (q0N (q3P r)))∧xAU (q0B (q10 s)) (q0N (q3P r)))∧((qCW (q0B (q10 s)) (q0N (q3P r))!=0)=true→VLe (V.agg [vi (qCW (q0B (q10 s)) (q0N (q3P r))),vi 0,vi 0,V.str (ByteArray.mk #[]),V.osl 0 0,V.osl 1 0,vi 0,V.osl 2 0]) (qH5 s r)∧qLT s r)∧((qCW (q0B (q10 s)) (q0N (q3P r))!=0)=false→(VLe (qHM s r) (q0J 1 (q0B (qHM s r)))∧qWT (q0B (qHM s r)))∧VLe (V.agg [vi 0,vi (qDy (q0B (q10 s)) (q0N (q3P r))).code,vi (qDy (q0B (q10 s)) (q0N (q3P r))).value,V.str (qDy (q0B (q10 s)) (q0N (q3P r))).path,V.osl 0 (q8X s r).nodes.length,V.osl 1 (q8X s r).sessions.length,vi (q8X s r).now,V.osl 2 (q8X s r).marks.length]) (qH5 s r)∧BLe (Blk.arr 5 (q8X s r).nodes.length (gL (q01 1) (q8X s r).nodes) 100) (qQt s r)∧BLe (Blk.arr 2 (q8X s r).sessions.length (gL (q00 1) (q8X s r).sessions) 100) (qRk s r)∧BLe (Blk.arr 5 (q8X s r).marks.length (gL (q09 1) (q8X s r).marks) 100) (qOv s r)∧True))):=by
  delta q8X;delta qHM;delta q3P;delta q10;delta qLT;delta qOv;delta qRk;delta qQt;delta qH5;delta q8Y;delta vi;obtain⟨hbd,ho⟩:=hpre;simp only[q1X,q3s,q6a,q6Z];refine⟨⟨VLe.refl _,hbd⟩,fun h=>qK6 (rf1 (nzT h)),fun h=>⟨⟨VLe.refl _,ho⟩,fun h2=>qK6 (rf2 (zzT h) (nzT h2)),fun h2=>⟨⟨VLe.refl _,VLe.refl _,zzT h,zzT h2⟩,fun h3=>qK6 (rf3 (zzT h) (zzT h2) (nzT h3)),fun h3=>?_⟩⟩⟩;exact⟨⟨VLe.refl _,qKt (zzT h) (zzT h2)⟩,x1r (x:=⟨0,qDy s r,qCF s r⟩) (rf4 (zzT h) (zzT h2) (zzT h3))⟩
 exact Eq.mp (by kernel_rfl) key
theorem xBU:q0R Tryz.prog 36 qX4:=by
 refine q0S q77 (tpl:=[(4,5),(5,2),(7,5)]) Tryz.func36 rfl (by kernel_rfl) fun args bin ob r bout hDe hob=>?_;unfold qX4 at hDe;split at hDe
 ·rename_i a0 a1;cases hDe;exact okQ (x6n (q0B a0) (q0N a1) (hob.2.2)) x7S (args_of_vles ⟨hob.1,hob.2.1,trivial⟩) trivial
 ·cases hDe
theorem xBY {n:Int} (h:0≤n∧n≤255):inK .u8 n:=Go.IntWalk.u8_in _ h
def x4I (n:Int):ByteArray:=q6W 1 (q3C [.int .u8 (48+n)])
theorem qR2 (n:Int):(x4I n).size=1:=rfl
def mtA (k:Nat) (out:ByteArray):ByteArray:=if h:0<k then mtA (k/10) (x4I ((k:Int).tmod 10)++out)else out
termination_by k
decreasing_by omega
noncomputable def mtF (k:Int):ByteArray:=(⟨#[109]⟩:ByteArray)++mtA k.toNat ⟨#[]⟩
theorem SLe.refl' {s s':AS} (h:s=s'):SLe s s':=h▸SLe.refl s
theorem qAr {α:Type} [Inhabited α] {xs ys:List α} (hl:xs.length=ys.length) (h:∀j,j<xs.length→xs.getD j default=ys.getD j default):xs=ys:=by
 refine List.ext_getElem hl fun k h1 h2=>?_;have:=h k h1;simpa[h1,h2]using this
theorem x42 (n:Nat):((n:Int)).tdiv 10=((n/10:Nat):Int):=rfl
theorem x1j (n:Nat):((n:Int)).tmod 10=((n%10:Nat):Int):=rfl
theorem qTX {k:Nat} {out:ByteArray} (h:0<k):mtA k out=mtA (k/10) (x4I ((k:Int).tmod 10)++out):=by
 rw[mtA,dif_pos h]
theorem qSo {out:ByteArray}:mtA 0 out=out:=by rw[mtA];simp
theorem q7n {α:Type} [Inhabited α] {xs:List α} {i j:Nat} {x:α} {f:Nat→α} (hi:i<xs.length) (hj:∀j,j<i→xs.getD j default=f j) (hx:x=f i) (h:j<i+1):(xs.set i x).getD j default=f j:=by
 by_cases e:j=i
 ·subst e;rw[q27 _ _ _ _ hi,hx]
 ·rw[q1u _ _ _ _ e];exact hj j (by omega)
def qW0 (k:Int):Prop:=0<k∧k<4611686018427387904
noncomputable def xD9 (k:Int):V:=.str (mtF k)
noncomputable def qXI:q0P:=fun args bin=>match args,bin with
 |[.int .i64 a0],[]=>some (qW0 a0,xD9 a0,[])
 |_,_=>none
noncomputable def x0C (k:Int):q0M:=
 ⟨Nat×ByteArray,fun p=>⟨[(0,.int .i64 p.1),(3,.str p.2)],[]⟩,fun p=>mtA k.toNat ⟨#[]⟩=mtA p.1 p.2∧p.2.size+p.1≤k.toNat,fun p=>p.1⟩
noncomputable def xGR (k:Int):Nat→Option q0M:=fun rg_=>match rg_ with
 |4=>some (x0C k)
 |_=>none
noncomputable def D79:=lkR []
theorem xFb:q0C Tryz.prog D79:=q04
noncomputable def xFY (k:Int):=cxL D79 Tryz.f79 [0,2,3,5,7] [(4,⟨[(0,none),(3,none)],[]⟩)] (xGR k) []
def qYf (k:Int) (x:Nat×ByteArray):Prop:=mtA k.toNat (ByteArray.mk #[])=mtA x.1 x.2∧x.2.size+Prod.fst x≤k.toNat
theorem xGT (k:Int) (hpre:qW0 k):q0d (xFY k) Tryz.f79 0 [.int .i64 (k)] (fun rr=>VLe rr (xD9 k)):=by
 have key:(decide (k≤0)=true→VLe (V.str (ByteArray.mk #[(109:UInt8),(48:UInt8)])) (V.str (mtF k)))∧(decide (k≤0)=false→((∃x:Nat×ByteArray,SLe (AS.mk [(0,vi k),(3,V.str (ByteArray.mk #[]))] []) (AS.mk [(0,vi (↑x.1:Int)),(3,V.str x.2)] [])∧qYf k x)∧∀x:Nat×ByteArray,qYf k x→(decide ((↑x.1:Int)>0)=true→(10:Int)≠(0:Int)∧inK IntKind.i64 ((48:Int)+Int.tmod (↑x.1:Int) (10:Int))∧inK IntKind.u8 ((48:Int)+Int.tmod (↑x.1:Int) (10:Int))∧(∀i:Nat,i<1→qPm (V.int IntKind.u8 (List.getD [(48:Int)+Int.tmod (↑x.1:Int) (10:Int)] i (0:Int)))=true)∧1+x.2.size≤4611686018427387904∧(10:Int)≠(0:Int)∧(inK IntKind.i64 (Int.tdiv (↑x.1:Int) (10:Int))∧∃y:Nat×ByteArray,SLe (AS.mk [(0,vi (Int.tdiv (↑x.1:Int) (10:Int))),(3,V.str (q6W 1 (q3C [V.int IntKind.u8 ((48:Int)+Int.tmod (↑x.1:Int) (10:Int))])++Prod.snd x))] []) (AS.mk [(0,vi (↑y.1:Int)),(3,V.str y.2)] [])∧(mtA k.toNat (ByteArray.mk #[])=mtA y.1 y.2∧y.2.size+Prod.fst y≤k.toNat)∧Prod.fst y<Prod.fst x))∧(decide ((↑x.1:Int)>0)=false→(ByteArray.mk #[(109:UInt8)]).size+x.2.size≤2^62∧VLe (V.str (ByteArray.mk #[(109:UInt8)]++Prod.snd x)) (V.str (mtF k))))):=by
  delta qYf;delta vi;obtain⟨h0,h1⟩:=hpre;refine⟨fun h=>by have:=of_decide_eq_true h;omega,fun _=>⟨⟨(k.toNat,⟨#[]⟩),SLe.refl' (by simp;omega),rfl,?_⟩,?_⟩⟩
  ·show 0+k.toNat≤k.toNat;omega
  rintro⟨n,out⟩ ⟨h2,h3⟩;simp only at h2 h3⊢;refine⟨fun h=>?_,fun h=>?_⟩
  ·have hn:0<n:=by have:=of_decide_eq_true h;omega
   have e2:=x1j n;have e1:=x42 n;refine⟨by omega,q0X (by omega),xBY (by omega),fun i hi=>by
    have:i=0:=by omega
    subst this;rfl,by omega,by omega,q0X (by omega),(n/10,x4I ((n:Int).tmod 10)++out),SLe.refl' (by rw[e1];rfl),⟨by rw[h2,qTX hn],?_⟩,by simp only;omega⟩
   simp only[ByteArray.size_append,qR2];omega
  ·have hn:n=0:=by have:=of_decide_eq_false h;omega
   subst hn;refine⟨?_,q7i ?_⟩
   ·show 1+out.size≤2^62;omega
   ·unfold mtF;rw[h2,qSo]
 exact Eq.mp (by kernel_rfl) key
theorem qZ9:q0R Tryz.prog 79 qXI:=by
 refine sob 0 Tryz.func79 fun args bin ob r bout hDe hob=>?_;unfold qXI at hDe;split at hDe
 ·rename_i a0;cases hDe;exact okB (xGT a0 (hob)) xFb (args_of_vles ⟨VLe.refl _,trivial⟩)
 ·cases hDe
noncomputable def qCw (k:Int):q0A:=⟨mtF k,k+1,k+2,k+3,k+4⟩
noncomputable def zMk (k:Int) (n:Nat):List q0A:=(List.range n).map fun i:Nat=>qCw (k+5*i)
@[simp] theorem qIx (k:Int) (n:Nat):(zMk k n).length=n:=by simp[zMk]
theorem qJH (k:Int) (n i:Nat) (h:i<n):(zMk k n).getD i default=qCw (k+5*i):=by simp[zMk,h]
noncomputable def qDz (xs:List q0A) (k:Int):Int:=if xs=zMk k xs.length then k+5*xs.length else -1
theorem qU0 (k:Int) (n t:Nat):q0K q03 (.sl n (gL (q01 1) (zMk k n)) t)=zMk k n:=by
 have h:=q1g (q1R 1) t (zMk k n);unfold q0D at h
 rwa [qIx]at h
theorem qVa (k:Int) (n t:Nat):VLe (.sl n (gL (q01 1) (zMk k n)) t) (q0D (q01 1) t (zMk k n)):=by
 unfold q0D;rw[qIx];exact VLe.refl _
noncomputable def qXV (y0:List q0A) (k:Int):q0M:=
 ⟨Nat×List q0A,fun p=>⟨[(0,.osl 0 y0.length),(1,.int .i64 (k+5*p.1)),(5,.int .i64 p.1)],[(0,.arr 5 y0.length (gL (q01 1) p.2) q0l)]⟩,fun p=>p.1≤y0.length∧p.2.length=y0.length∧∀j,j<p.1→p.2.getD j default=qCw (k+5*j),fun p=>y0.length-p.1⟩
noncomputable def x59 (y0:List q0A) (k:Int):Nat→Option q0M:=fun k0=>match k0 with
 |2=>some (qXV y0 k)
 |_=>none
noncomputable def xDq:Nat→Option (Fl×q0P):=lk [(79,(.ro,qXI))]
theorem xBg:q0C Tryz.prog xDq:=q02 qZ9 (q04)
noncomputable def qZE (y0:List q0A) (k:Int):Cx:=⟨tt,xDq,Tryz.f100.ntmps,[0,1,4,5,9],[(2,⟨[(0,none),(1,none),(5,none)],[(0,[])]⟩)],[],x59 y0 k,[],noM,[]⟩
def qQ8 (n0:Nat) (k:Int):Prop:=1≤k∧k+5*n0≤4611686018427387904
noncomputable def q2t (x:Nat×List q0A):Int:=(↑x.1:Int)
noncomputable def q15 (x:Nat×List q0A):Nat:=(q2t x).toNat
noncomputable def qKP (k:Int) (x:Nat×List q0A):ByteArray:=(bif Nat.beq (q15 x) (q15 x)then(bif Nat.beq (q15 x) (q15 x)then mtF (k+5*(q2t x))else(x.2.getD (q15 x) default).path)else(bif Nat.beq (q15 x) (q15 x)then mtF (k+5*(q2t x))else(x.2.getD (q15 x) default).path))
noncomputable def qLR (k:Int) (x:Nat×List q0A):Int:=(bif Nat.beq (q15 x) (q15 x)then k+(5:Int)*(q2t x)+(1:Int)else(bif Nat.beq (q15 x) (q15 x)then(x.2.getD (q15 x) default).data else(x.2.getD (q15 x) default).data))
noncomputable def qKB (k:Int) (x:Nat×List q0A):Int:=(bif Nat.beq (q15 x) (q15 x)then k+(5:Int)*(q2t x)+(1:Int)+(1:Int)else(bif Nat.beq (q15 x) (q15 x)then(bif Nat.beq (q15 x) (q15 x)then(x.2.getD (q15 x) default).version else(x.2.getD (q15 x) default).version)else(bif Nat.beq (q15 x) (q15 x)then(x.2.getD (q15 x) default).version else(x.2.getD (q15 x) default).version)))
noncomputable def qLa (x:Nat×List q0A):Int:=(bif Nat.beq (q15 x) (q15 x)then(x.2.getD (q15 x) default).owner else(x.2.getD (q15 x) default).owner)
noncomputable def qKx (x:Nat×List q0A):Int:=(bif Nat.beq (q15 x) (q15 x)then(x.2.getD (q15 x) default).next else(x.2.getD (q15 x) default).next)
noncomputable def q4N (y0:List q0A):Nat:=y0.length
def qER (y0:List q0A) (x:Nat×List q0A):Prop:=0≤(q2t x)∧(q2t x)<(↑ (q4N y0):Int)
def qRX (y0:List q0A) (k:Int) (x:Nat×List q0A):Prop:=Prod.fst x≤y0.length∧(x.2.length=y0.length∧∀j:Nat,j<Prod.fst x→x.2.getD j default=qCw (k+5*(↑j:Int)))
noncomputable def qLD (x:Nat×List q0A):Int:=(bif Nat.beq (q15 x) (q15 x)then(qLa x)else(qLa x))
noncomputable def qFR (x:Nat×List q0A):Int:=(bif Nat.beq (q15 x) (q15 x)then(qKx x)else(qKx x))
noncomputable def qFw (k:Int) (x:Nat×List q0A):Int:=(bif Nat.beq (q15 x) (q15 x)then(qLR k x)else(qLR k x))
noncomputable def qFP (k:Int) (x:Nat×List q0A):ByteArray:=(bif Nat.beq (q15 x) (q15 x)then(qKP k x)else(qKP k x))
def qB0 (y0:List q0A) (x:Nat×List q0A):Prop:=(q2t x).toNat<y0.length
theorem xBR (y0:List q0A) (k:Int) (hpre:qQ8 y0.length k):q3h (qZE y0 k) Tryz.f100 [] [.osl 0 y0.length,.int .i64 k] [.arr 5 y0.length (gL (q01 1) y0) q0l] (fun rr bs=>VLe rr (.int .i64 (k+5*(y0.length:Int)))∧q1y bs [.arr 5 y0.length (gL (q01 1) (zMk k y0.length)) q0l]):=by
 have key:((∃x:Nat×List q0A,SLe (AS.mk [(0,V.osl 0 (q4N y0)),(1,vi k),(5,vi 0)] [(0,Blk.arr 5 (q4N y0) (gL (q01 1) y0) 100)]) (AS.mk [(0,V.osl 0 (q4N y0)),(1,vi (k+5*(q2t x))),(5,vi (q2t x))] [(0,Blk.arr 5 (q4N y0) (gL (q01 1) x.2) 100)])∧qRX y0 k x)∧∀x:Nat×List q0A,qRX y0 k x→(decide ((q2t x)<(↑ (q4N y0):Int))=true→qW0 (k+5*(q2t x))∧qER y0 x∧qB0 y0 x∧inK IntKind.i64 (k+5*(q2t x)+1)∧qER y0 x∧qB0 y0 x∧inK IntKind.i64 (k+5*(q2t x)+1+1)∧qER y0 x∧qB0 y0 x∧inK IntKind.i64 (k+5*(q2t x)+1+1+1)∧qER y0 x∧qB0 y0 x∧inK IntKind.i64 (k+5*(q2t x)+1+1+1+1)∧qER y0 x∧qB0 y0 x∧inK IntKind.i64 (k+5*(q2t x)+1+1+1+1+1)∧(inK IntKind.i64 ((q2t x)+1)∧∃y:Nat×List q0A,SLe (AS.mk [(0,V.osl 0 (q4N y0)),(1,vi (k+5*(q2t x)+1+1+1+1+1)),(5,vi ((q2t x)+1))] [(0,Blk.arr 5 (q4N y0) (q65 (q65 (q65 (q65 (q65 (gL (q01 1) x.2) (q15 x) (V.agg [V.str (mtF (k+5*(q2t x))),vi (x.2.getD (q15 x) default).data,vi (x.2.getD (q15 x) default).version,vi (x.2.getD (q15 x) default).owner,vi (x.2.getD (q15 x) default).next])) (q15 x) (V.agg [V.str (bif Nat.beq (q15 x) (q15 x)then mtF (k+5*(q2t x))else(x.2.getD (q15 x) default).path),vi (k+5*(q2t x)+1),vi (bif Nat.beq (q15 x) (q15 x)then(x.2.getD (q15 x) default).version else(x.2.getD (q15 x) default).version),vi (qLa x),vi (qKx x)])) (q15 x) (V.agg [V.str (qKP k x),vi (qLR k x),vi (k+5*(q2t x)+1+1),vi (qLD x),vi (qFR x)])) (q15 x) (V.agg [V.str (qFP k x),vi (qFw k x),vi (qKB k x),vi (k+5*(q2t x)+1+1+1),vi (bif Nat.beq (q15 x) (q15 x)then(qFR x)else(qFR x))])) (q15 x) (V.agg [V.str (bif Nat.beq (q15 x) (q15 x)then(qFP k x)else(qFP k x)),vi (bif Nat.beq (q15 x) (q15 x)then(qFw k x)else(qFw k x)),vi (bif Nat.beq (q15 x) (q15 x)then(qKB k x)else(qKB k x)),vi (bif Nat.beq (q15 x) (q15 x)then k+(5:Int)*(q2t x)+(1:Int)+(1:Int)+(1:Int)else(bif Nat.beq (q15 x) (q15 x)then(qLD x)else(qLD x))),vi (k+5*(q2t x)+1+1+1+1)])) 100)]) (AS.mk [(0,V.osl 0 (q4N y0)),(1,vi (k+5*(↑y.1:Int))),(5,vi (↑y.1:Int))] [(0,Blk.arr 5 (q4N y0) (gL (q01 1) y.2) 100)])∧(Prod.fst y≤y0.length∧(y.2.length=y0.length∧∀j:Nat,j<Prod.fst y→y.2.getD j default=qCw (k+5*(↑j:Int))))∧y0.length-Prod.fst y<y0.length-Prod.fst x))∧(decide ((q2t x)<(↑ (q4N y0):Int))=false→VLe (vi (k+5*(q2t x))) (vi (k+5*(↑ (q4N y0):Int)))∧BLe (Blk.arr 5 (q4N y0) (gL (q01 1) x.2) 100) (Blk.arr 5 (q4N y0) (gL (q01 1) (zMk k (q4N y0))) 100)∧True)):=by
  delta qB0;delta qFP;delta qFw;delta qFR;delta qLD;delta qRX;delta qER;delta q4N;delta qKx;delta qLa;delta qKB;delta qLR;delta qKP;delta q15;delta q2t;delta vi;unfold qQ8 at hpre;refine⟨⟨(0,y0),SLe.refl' (by simp),by omega,rfl,fun j hj=>absurd hj (Nat.not_lt_zero j)⟩,?_⟩;rintro⟨i,ys⟩ ⟨hi,hl,hj⟩;simp only at hi hl hj⊢;refine⟨fun h=>?_,fun h=>?_⟩
  ·have hlt:i<y0.length:=by simpa using h
   simp only[Int.toNat_natCast]
   repeat (first|(refine And.intro ⟨by omega,by omega⟩ ?_)|(refine And.intro (q0X (by omega)) ?_)|(refine And.intro (by omega) ?_)|(refine And.intro (by decide) ?_))
   refine⟨(i+1,ys.set i (qCw (k+5*i))),?_,⟨by simp only;omega,by simpa using hl,fun j h3=>q7n (f:=fun j=>qCw (k+5*(j:Int))) (by omega) hj rfl h3⟩,by simp only;omega⟩;refine q1Q ⟨rfl,VLe.refl _,rfl,q0I (by simp only;omega),rfl,q0I (by simp),trivial⟩ ⟨rfl,?_,trivial⟩;exact qA6 (by omega) (ELe.of_eq (by simp[q2F,V.cells,qCw,q01,Int.add_assoc])) fun j e=>by simp[q2F,e]
  ·have hge:i=y0.length:=by simp at h;omega
   subst hge;refine⟨q0I rfl,q1P (fun j hj'=>ELe.of_eq ?_) (Or.inl rfl),trivial⟩;simp only[gL];rw[hj j hj',qJH _ _ _ hj']
 exact Eq.mp (by kernel_rfl) key
noncomputable def qX0:q0P:=fun args bin=>match args,bin with
 |[.osl i0 m0,.int .i64 k],[.arr s0 p0 g0 t0]=>some ((i0=0∧s0=5∧t0=q0l∧p0=m0∧∃y:List q0A,y.length=m0∧∀i,i<m0→ELe (g0 i) (gL (q01 1) y i))∧qQ8 m0 k,.int .i64 (k+5*(m0:Int)),[.arr 5 m0 (gL (q01 1) (zMk k m0)) q0l])
 |_,_=>none
theorem x50:q0R Tryz.prog 100 qX0:=by
 refine q0S q77 (tpl:=[]) Tryz.func100 rfl (by kernel_rfl) fun args bin ob r bout hDe hob=>?_;unfold qX0 at hDe;split at hDe
 ·rename_i i0 m0 k s0 p0 g0 t0;cases hDe;obtain⟨⟨rfl,rfl,rfl,rfl,y0,rfl,h0⟩,hpre⟩:=hob;exact⟨Nat.le_of_ble_eq_true (by kernel_rfl),qZE y0 k,Eq.mp (by kernel_rfl) htt,Eq.mp (by kernel_rfl) xBg,Eq.mp (by kernel_rfl) (q2n (P:=Tryz.prog)),by kernel_rfl,_,[.arr 5 y0.length (gL (q01 1) y0) q0l],q54.refl _,⟨q1P h0 (Or.inl rfl),trivial⟩,Eq.mp (by kernel_rfl) (xBR y0 k hpre)⟩
 ·cases hDe
def qS8 (xs:List q0A) (k:Int):Prop:=1≤k∧k+5*xs.length≤4611686018427387904
noncomputable def x2P (xs:List q0A) (k:Int):V:=.int .i64 (qDz xs k)
noncomputable def qWf:q0P:=fun args bin=>match args,bin with
 |[a0,.int .i64 a1],[]=>some (VLe a0 (q0D (q01 1) 1 (((q0K q03) a0)))∧qS8 ((q0K q03) a0) a1,x2P ((q0K q03) a0) a1,[])
 |_,_=>none
noncomputable def qVi (xs:List q0A) (k:Int):q0M:=
 ⟨Nat,fun i=>⟨[(0,q0D (q01 1) 1 xs),(1,.int .i64 (k+5*i)),(5,.int .i64 i)],[]⟩,fun i=>i≤xs.length∧∀j,j<i→xs.getD j default=qCw (k+5*j),fun i=>xs.length-i⟩
noncomputable def x8v (xs:List q0A) (k:Int):Nat→Option q0M:=fun rg_=>match rg_ with
 |2=>some (qVi xs k)
 |_=>none
noncomputable def xFJ:=lkR [(79,qXI)]
theorem x5Q:q0C Tryz.prog xFJ:=q02 qZ9 (q04)
noncomputable def xB3 (xs:List q0A) (k:Int):=cxL xFJ Tryz.f138 [0,1,4,5,9,19,28,37,46,55] [(2,⟨[(0,none),(1,none),(5,none)],[]⟩)] (x8v xs k) []
def qEt (xs:List q0A) (x:Nat):Prop:=0≤(↑x:Int)∧(↑x:Int)<(↑ xs.length:Int)
def qRP (xs:List q0A) (k:Int) (x:Nat):Prop:=(x≤xs.length∧∀j:Nat,j<x→xs.getD j default=qCw (k+5*(↑j:Int)))
theorem x6F (xs:List q0A) (k:Int) (hpre:qS8 xs k):q0d (xB3 xs k) Tryz.f138 0 [q0D (q01 1) 1 (xs),.int .i64 (k)] (fun rr=>VLe rr (x2P xs k)):=by
 have key:((∃x:Nat,SLe (AS.mk [(0,q0D (q01 1) 1 xs),(1,vi k),(5,vi 0)] []) (AS.mk [(0,q0D (q01 1) 1 xs),(1,vi (k+5*(↑x:Int))),(5,vi (↑x:Int))] [])∧qRP xs k x)∧∀x:Nat,qRP xs k x→(decide ((↑x:Int)<(↑ xs.length:Int))=true→qEt xs x∧qW0 (k+5*(↑x:Int))∧((!q1t (xs.getD (q26 x) default).path (mtF (k+5*(↑x:Int))))=true→VLe (vi (-1)) (vi (qDz xs k)))∧((!q1t (xs.getD (q26 x) default).path (mtF (k+5*(↑x:Int))))=false→inK IntKind.i64 (k+5*(↑x:Int)+1)∧qEt xs x∧(((xs.getD (q26 x) default).data !=k+5*(↑x:Int)+1)=true→VLe (vi (-1)) (vi (qDz xs k)))∧(((xs.getD (q26 x) default).data !=k+5*(↑x:Int)+1)=false→inK IntKind.i64 (k+5*(↑x:Int)+1+1)∧qEt xs x∧(((xs.getD (q26 x) default).version !=k+5*(↑x:Int)+1+1)=true→VLe (vi (-1)) (vi (qDz xs k)))∧(((xs.getD (q26 x) default).version !=k+5*(↑x:Int)+1+1)=false→inK IntKind.i64 (k+5*(↑x:Int)+1+1+1)∧qEt xs x∧(((xs.getD (q26 x) default).owner !=k+5*(↑x:Int)+1+1+1)=true→VLe (vi (-1)) (vi (qDz xs k)))∧(((xs.getD (q26 x) default).owner !=k+5*(↑x:Int)+1+1+1)=false→inK IntKind.i64 (k+5*(↑x:Int)+1+1+1+1)∧qEt xs x∧(((xs.getD (q26 x) default).next !=k+5*(↑x:Int)+1+1+1+1)=true→VLe (vi (-1)) (vi (qDz xs k)))∧(((xs.getD (q26 x) default).next !=k+5*(↑x:Int)+1+1+1+1)=false→inK IntKind.i64 (k+5*(↑x:Int)+1+1+1+1+1)∧(inK IntKind.i64 ((↑x:Int)+1)∧∃y:Nat,SLe (AS.mk [(0,q0D (q01 1) 1 xs),(1,vi (k+5*(↑x:Int)+1+1+1+1+1)),(5,vi ((↑x:Int)+1))] []) (AS.mk [(0,q0D (q01 1) 1 xs),(1,vi (k+5*(↑y:Int))),(5,vi (↑y:Int))] [])∧(y≤xs.length∧∀j:Nat,j<y→xs.getD j default=qCw (k+5*(↑j:Int)))∧xs.length-y<xs.length-x)))))))∧(decide ((↑x:Int)<(↑ xs.length:Int))=false→VLe (vi (k+5*(↑x:Int))) (vi (qDz xs k)))):=by
  delta qRP;delta q26;delta qEt;delta vi;unfold qS8 at hpre;refine⟨⟨0,SLe.refl' (by simp),by omega,fun j hj=>absurd hj (Nat.not_lt_zero j)⟩,?_⟩;rintro i ⟨hi,hj⟩;refine⟨fun h=>?_,fun h=>?_⟩
  ·have hlt:i<xs.length:=by simpa using h
   have no:xs.getD i default≠qCw (k+5*i)→VLe (.int .i64 (-1)) (.int .i64 (qDz xs k)):=fun hn=>by
    refine q0I ?_;have:xs≠zMk k xs.length:=fun e=>hn (by rw[e];exact qJH _ _ _ hlt);unfold qDz;rw[if_neg this]
   simp only[Int.toNat_natCast,q1W];refine⟨by omega,⟨by omega,by omega⟩,fun g0=>?_,fun g0=>⟨q0X (by omega),by omega,fun g1=>?_,fun g1=>⟨q0X (by omega),by omega,fun g2=>?_,fun g2=>⟨q0X (by omega),by omega,fun g3=>?_,fun g3=>⟨q0X (by omega),by omega,fun g4=>?_,fun g4=>⟨q0X (by omega),q0X (by omega),i+1,q1Q ⟨rfl,VLe.refl _,rfl,q0I (by omega),rfl,q0I (by omega),trivial⟩ trivial,⟨by omega,fun j h5=>?_⟩,by omega⟩⟩⟩⟩⟩⟩
   ·exact no fun e=>by rw[e]at g0;first|(simp[qCw,Int.add_assoc]at g0;done)|(simp[qCw]at g0;omega)
   ·exact no fun e=>by rw[e]at g1;first|(simp[qCw,Int.add_assoc]at g1;done)|(simp[qCw]at g1;omega)
   ·exact no fun e=>by rw[e]at g2;first|(simp[qCw,Int.add_assoc]at g2;done)|(simp[qCw]at g2;omega)
   ·exact no fun e=>by rw[e]at g3;first|(simp[qCw,Int.add_assoc]at g3;done)|(simp[qCw]at g3;omega)
   ·exact no fun e=>by rw[e]at g4;first|(simp[qCw,Int.add_assoc]at g4;done)|(simp[qCw]at g4;omega)
   ·rcases Nat.lt_or_ge j i with h6|h6
    ·exact hj j h6
    ·have:j=i:=by omega
     subst this;have a0:(xs.getD j default).path=mtF (k+5*(j:Int)):=by first|(simpa[Int.add_assoc]using g0)|(simpa using g0)
     have a1:(xs.getD j default).data=k+5*(j:Int)+1:=by first|(simpa[Int.add_assoc]using g1;done)|(have:=g1;simp at this;omega)
     have a2:(xs.getD j default).version=k+5*(j:Int)+2:=by first|(simpa[Int.add_assoc]using g2;done)|(have:=g2;simp at this;omega)
     have a3:(xs.getD j default).owner=k+5*(j:Int)+3:=by first|(simpa[Int.add_assoc]using g3;done)|(have:=g3;simp at this;omega)
     have a4:(xs.getD j default).next=k+5*(j:Int)+4:=by first|(simpa[Int.add_assoc]using g4;done)|(have:=g4;simp at this;omega)
     unfold qCw;simp only[qLW];exact⟨a0,a1,a2,a3,a4⟩
  ·refine q0I ?_;have hge:i=xs.length:=by simp at h;omega
   subst hge;have:xs=zMk k xs.length:=qAr (by simp) fun j hj'=>by rw[hj j hj',qJH _ _ _ hj']
   unfold qDz;rw[if_pos this]
 exact Eq.mp (by kernel_rfl) key
theorem xAh:q0R Tryz.prog 138 qWf:=by
 refine sob 0 Tryz.func138 fun args bin ob r bout hDe hob=>?_;unfold qWf at hDe;split at hDe
 ·rename_i a0 a1;cases hDe;exact okB (x6F ((q0K q03) a0) a1 (hob.2)) x5Q (args_of_vles ⟨hob.1,VLe.refl _,trivial⟩)
 ·cases hDe
noncomputable def q8A (k:Int):q07:=⟨k,k+1⟩
noncomputable def q92 (k:Int) (n:Nat):List q07:=(List.range n).map fun i:Nat=>q8A (k+2*i)
@[simp] theorem qFn (k:Int) (n:Nat):(q92 k n).length=n:=by simp[q92]
theorem qFr (k:Int) (n i:Nat) (h:i<n):(q92 k n).getD i default=q8A (k+2*i):=by simp[q92,h]
noncomputable def q9Q (xs:List q07) (k:Int):Int:=if xs=q92 k xs.length then k+2*xs.length else -1
theorem qPN (k:Int) (n t:Nat):q0K q05 (.sl n (gL (q00 1) (q92 k n)) t)=q92 k n:=by
 have h:=q1g (q2K 1) t (q92 k n);unfold q0D at h
 rwa [qFn]at h
theorem qSt (k:Int) (n t:Nat):VLe (.sl n (gL (q00 1) (q92 k n)) t) (q0D (q00 1) t (q92 k n)):=by
 unfold q0D;rw[qFn];exact VLe.refl _
noncomputable def qXq (y0:List q07) (k:Int):q0M:=
 ⟨Nat×List q07,fun p=>⟨[(0,.osl 0 y0.length),(1,.int .i64 (k+2*p.1)),(5,.int .i64 p.1)],[(0,.arr 2 y0.length (gL (q00 1) p.2) q0l)]⟩,fun p=>p.1≤y0.length∧p.2.length=y0.length∧∀j,j<p.1→p.2.getD j default=q8A (k+2*j),fun p=>y0.length-p.1⟩
noncomputable def xBV (y0:List q07) (k:Int):Nat→Option q0M:=fun k0=>match k0 with
 |2=>some (qXq y0 k)
 |_=>none
noncomputable def xFM:Nat→Option (Fl×q0P):=lk []
theorem x4f:q0C Tryz.prog xFM:=q04
noncomputable def qZa (y0:List q07) (k:Int):Cx:=⟨tt,xFM,Tryz.f101.ntmps,[0,1,4,5,9],[(2,⟨[(0,none),(1,none),(5,none)],[(0,[])]⟩)],[],xBV y0 k,[],noM,[]⟩
def qOH (n0:Nat) (k:Int):Prop:=1≤k∧k+2*n0≤4611686018427387904
noncomputable def q3a (x:Nat×List q07):Int:=(↑x.1:Int)
def qPu (y0:List q07) (k:Int) (x:Nat×List q07):Prop:=Prod.fst x≤y0.length∧(x.2.length=y0.length∧∀j:Nat,j<Prod.fst x→x.2.getD j default=q8A (k+2*(↑j:Int)))
noncomputable def q5o (y0:List q07):Nat:=y0.length
theorem x5c (y0:List q07) (k:Int) (hpre:qOH y0.length k):q3h (qZa y0 k) Tryz.f101 [] [.osl 0 y0.length,.int .i64 k] [.arr 2 y0.length (gL (q00 1) y0) q0l] (fun rr bs=>VLe rr (.int .i64 (k+2*(y0.length:Int)))∧q1y bs [.arr 2 y0.length (gL (q00 1) (q92 k y0.length)) q0l]):=by
 have key:((∃x:Nat×List q07,SLe (AS.mk [(0,V.osl 0 (q5o y0)),(1,vi k),(5,vi 0)] [(0,Blk.arr 2 (q5o y0) (gL (q00 1) y0) 100)]) (AS.mk [(0,V.osl 0 (q5o y0)),(1,vi (k+2*(q3a x))),(5,vi (q3a x))] [(0,Blk.arr 2 (q5o y0) (gL (q00 1) x.2) 100)])∧qPu y0 k x)∧∀x:Nat×List q07,qPu y0 k x→(decide ((q3a x)<(↑ (q5o y0):Int))=true→(0≤(q3a x)∧(q3a x)<(↑ (q5o y0):Int))∧(q3a x).toNat<y0.length∧inK IntKind.i64 (k+2*(q3a x)+1)∧(0≤(q3a x)∧(q3a x)<(↑ (q5o y0):Int))∧(q3a x).toNat<y0.length∧inK IntKind.i64 (k+2*(q3a x)+1+1)∧(inK IntKind.i64 ((q3a x)+1)∧∃y:Nat×List q07,SLe (AS.mk [(0,V.osl 0 (q5o y0)),(1,vi (k+2*(q3a x)+1+1)),(5,vi ((q3a x)+1))] [(0,Blk.arr 2 (q5o y0) (q65 (q65 (gL (q00 1) x.2) (q3a x).toNat (V.agg [vi (k+2*(q3a x)),vi (x.2.getD (q3a x).toNat default).upto])) (q3a x).toNat (V.agg [vi (bif Nat.beq (q3a x).toNat (q3a x).toNat then k+(2:Int)*(q3a x)else(x.2.getD (q3a x).toNat default).id),vi (k+2*(q3a x)+1)])) 100)]) (AS.mk [(0,V.osl 0 (q5o y0)),(1,vi (k+2*(↑y.1:Int))),(5,vi (↑y.1:Int))] [(0,Blk.arr 2 (q5o y0) (gL (q00 1) y.2) 100)])∧(Prod.fst y≤y0.length∧(y.2.length=y0.length∧∀j:Nat,j<Prod.fst y→y.2.getD j default=q8A (k+2*(↑j:Int))))∧y0.length-Prod.fst y<y0.length-Prod.fst x))∧(decide ((q3a x)<(↑ (q5o y0):Int))=false→VLe (vi (k+2*(q3a x))) (vi (k+2*(↑ (q5o y0):Int)))∧BLe (Blk.arr 2 (q5o y0) (gL (q00 1) x.2) 100) (Blk.arr 2 (q5o y0) (gL (q00 1) (q92 k (q5o y0))) 100)∧True)):=by
  delta q5o;delta qPu;delta q3a;delta vi;unfold qOH at hpre;refine⟨⟨(0,y0),SLe.refl' (by simp),by omega,rfl,fun j hj=>absurd hj (Nat.not_lt_zero j)⟩,?_⟩;rintro⟨i,ys⟩ ⟨hi,hl,hj⟩;simp only at hi hl hj⊢;refine⟨fun h=>?_,fun h=>?_⟩
  ·have hlt:i<y0.length:=by simpa using h
   simp only[Int.toNat_natCast]
   repeat (first|(refine And.intro ⟨by omega,by omega⟩ ?_)|(refine And.intro (q0X (by omega)) ?_)|(refine And.intro (by omega) ?_)|(refine And.intro (by decide) ?_))
   refine⟨(i+1,ys.set i (q8A (k+2*i))),?_,⟨by simp only;omega,by simpa using hl,fun j h3=>q7n (f:=fun j=>q8A (k+2*(j:Int))) (by omega) hj rfl h3⟩,by simp only;omega⟩;refine q1Q ⟨rfl,VLe.refl _,rfl,q0I (by simp only;omega),rfl,q0I (by simp),trivial⟩ ⟨rfl,?_,trivial⟩;exact qA6 (by omega) (ELe.of_eq (by simp[q2F,V.cells,q8A,q00,Int.add_assoc])) fun j e=>by simp[q2F,e]
  ·have hge:i=y0.length:=by simp at h;omega
   subst hge;refine⟨q0I rfl,q1P (fun j hj'=>ELe.of_eq ?_) (Or.inl rfl),trivial⟩;simp only[gL];rw[hj j hj',qFr _ _ _ hj']
 exact Eq.mp (by kernel_rfl) key
noncomputable def qWc:q0P:=fun args bin=>match args,bin with
 |[.osl i0 m0,.int .i64 k],[.arr s0 p0 g0 t0]=>some ((i0=0∧s0=2∧t0=q0l∧p0=m0∧∃y:List q07,y.length=m0∧∀i,i<m0→ELe (g0 i) (gL (q00 1) y i))∧qOH m0 k,.int .i64 (k+2*(m0:Int)),[.arr 2 m0 (gL (q00 1) (q92 k m0)) q0l])
 |_,_=>none
theorem x9k:q0R Tryz.prog 101 qWc:=by
 refine q0S q77 (tpl:=[]) Tryz.func101 rfl (by kernel_rfl) fun args bin ob r bout hDe hob=>?_;unfold qWc at hDe;split at hDe
 ·rename_i i0 m0 k s0 p0 g0 t0;cases hDe;obtain⟨⟨rfl,rfl,rfl,rfl,y0,rfl,h0⟩,hpre⟩:=hob;exact⟨Nat.le_of_ble_eq_true (by kernel_rfl),qZa y0 k,Eq.mp (by kernel_rfl) htt,Eq.mp (by kernel_rfl) x4f,Eq.mp (by kernel_rfl) (q2n (P:=Tryz.prog)),by kernel_rfl,_,[.arr 2 y0.length (gL (q00 1) y0) q0l],q54.refl _,⟨q1P h0 (Or.inl rfl),trivial⟩,Eq.mp (by kernel_rfl) (x5c y0 k hpre)⟩
 ·cases hDe
def qTo (xs:List q07) (k:Int):Prop:=1≤k∧k+2*xs.length≤4611686018427387904
noncomputable def x2C (xs:List q07) (k:Int):V:=.int .i64 (q9Q xs k)
noncomputable def qY7:q0P:=fun args bin=>match args,bin with
 |[a0,.int .i64 a1],[]=>some (VLe a0 (q0D (q00 1) 1 (((q0K q05) a0)))∧qTo ((q0K q05) a0) a1,x2C ((q0K q05) a0) a1,[])
 |_,_=>none
noncomputable def qYt (xs:List q07) (k:Int):q0M:=
 ⟨Nat,fun i=>⟨[(0,q0D (q00 1) 1 xs),(1,.int .i64 (k+2*i)),(5,.int .i64 i)],[]⟩,fun i=>i≤xs.length∧∀j,j<i→xs.getD j default=q8A (k+2*j),fun i=>xs.length-i⟩
noncomputable def x5l (xs:List q07) (k:Int):Nat→Option q0M:=fun rg_=>match rg_ with
 |2=>some (qYt xs k)
 |_=>none
noncomputable def xDp:=lkR []
theorem xBu:q0C Tryz.prog xDp:=q04
noncomputable def xAz (xs:List q07) (k:Int):=cxL xDp Tryz.f139 [0,1,4,5,9,18,27] [(2,⟨[(0,none),(1,none),(5,none)],[]⟩)] (x5l xs k) []
def qQM (xs:List q07) (k:Int) (x:Nat):Prop:=(x≤xs.length∧∀j:Nat,j<x→xs.getD j default=q8A (k+2*(↑j:Int)))
theorem xCc (xs:List q07) (k:Int) (hpre:qTo xs k):q0d (xAz xs k) Tryz.f139 0 [q0D (q00 1) 1 (xs),.int .i64 (k)] (fun rr=>VLe rr (x2C xs k)):=by
 have key:((∃x:Nat,SLe (AS.mk [(0,q0D (q00 1) 1 xs),(1,vi k),(5,vi 0)] []) (AS.mk [(0,q0D (q00 1) 1 xs),(1,vi (k+2*(↑x:Int))),(5,vi (↑x:Int))] [])∧qQM xs k x)∧∀x:Nat,qQM xs k x→(decide ((↑x:Int)<(↑ xs.length:Int))=true→(0≤(↑x:Int)∧(↑x:Int)<(↑ xs.length:Int))∧(((xs.getD (↑x:Int).toNat default).id !=k+2*(↑x:Int))=true→VLe (vi (-1)) (vi (q9Q xs k)))∧(((xs.getD (↑x:Int).toNat default).id !=k+2*(↑x:Int))=false→inK IntKind.i64 (k+2*(↑x:Int)+1)∧(0≤(↑x:Int)∧(↑x:Int)<(↑ xs.length:Int))∧(((xs.getD (↑x:Int).toNat default).upto !=k+2*(↑x:Int)+1)=true→VLe (vi (-1)) (vi (q9Q xs k)))∧(((xs.getD (↑x:Int).toNat default).upto !=k+2*(↑x:Int)+1)=false→inK IntKind.i64 (k+2*(↑x:Int)+1+1)∧(inK IntKind.i64 ((↑x:Int)+1)∧∃y:Nat,SLe (AS.mk [(0,q0D (q00 1) 1 xs),(1,vi (k+2*(↑x:Int)+1+1)),(5,vi ((↑x:Int)+1))] []) (AS.mk [(0,q0D (q00 1) 1 xs),(1,vi (k+2*(↑y:Int))),(5,vi (↑y:Int))] [])∧(y≤xs.length∧∀j:Nat,j<y→xs.getD j default=q8A (k+2*(↑j:Int)))∧xs.length-y<xs.length-x))))∧(decide ((↑x:Int)<(↑ xs.length:Int))=false→VLe (vi (k+2*(↑x:Int))) (vi (q9Q xs k)))):=by
  delta qQM;delta vi;unfold qTo at hpre;refine⟨⟨0,SLe.refl' (by simp),by omega,fun j hj=>absurd hj (Nat.not_lt_zero j)⟩,?_⟩;rintro i ⟨hi,hj⟩;refine⟨fun h=>?_,fun h=>?_⟩
  ·have hlt:i<xs.length:=by simpa using h
   have no:xs.getD i default≠q8A (k+2*i)→VLe (.int .i64 (-1)) (.int .i64 (q9Q xs k)):=fun hn=>by
    refine q0I ?_;have:xs≠q92 k xs.length:=fun e=>hn (by rw[e];exact qFr _ _ _ hlt);unfold q9Q;rw[if_neg this]
   simp only[Int.toNat_natCast,q1W];refine⟨by omega,fun g0=>?_,fun g0=>⟨q0X (by omega),by omega,fun g1=>?_,fun g1=>⟨q0X (by omega),q0X (by omega),i+1,q1Q ⟨rfl,VLe.refl _,rfl,q0I (by omega),rfl,q0I (by omega),trivial⟩ trivial,⟨by omega,fun j h5=>?_⟩,by omega⟩⟩⟩
   ·exact no fun e=>by rw[e]at g0;first|(simp[q8A,Int.add_assoc]at g0;done)|(simp[q8A]at g0;omega)
   ·exact no fun e=>by rw[e]at g1;first|(simp[q8A,Int.add_assoc]at g1;done)|(simp[q8A]at g1;omega)
   ·rcases Nat.lt_or_ge j i with h6|h6
    ·exact hj j h6
    ·have:j=i:=by omega
     subst this;have a0:(xs.getD j default).id=k+2*(j:Int):=by first|(simpa[Int.add_assoc]using g0;done)|(have:=g0;simp at this;omega)
     have a1:(xs.getD j default).upto=k+2*(j:Int)+1:=by first|(simpa[Int.add_assoc]using g1;done)|(have:=g1;simp at this;omega)
     unfold q8A;simp only[qEU];exact⟨a0,a1⟩
  ·refine q0I ?_;have hge:i=xs.length:=by simp at h;omega
   subst hge;have:xs=q92 k xs.length:=qAr (by simp) fun j hj'=>by rw[hj j hj',qFr _ _ _ hj']
   unfold q9Q;rw[if_pos this]
 exact Eq.mp (by kernel_rfl) key
theorem xCn:q0R Tryz.prog 139 qY7:=by
 refine sob 0 Tryz.func139 fun args bin ob r bout hDe hob=>?_;unfold qY7 at hDe;split at hDe
 ·rename_i a0 a1;cases hDe;exact okB (xCc ((q0K q05) a0) a1 (hob.2)) xBu (args_of_vles ⟨hob.1,VLe.refl _,trivial⟩)
 ·cases hDe
noncomputable def q6Q (k:Int):q0U:=⟨k,k+1,⟨k+2,k+3,mtF (k+4)⟩⟩
noncomputable def q94 (k:Int) (n:Nat):List q0U:=(List.range n).map fun i:Nat=>q6Q (k+5*i)
@[simp] theorem qFl (k:Int) (n:Nat):(q94 k n).length=n:=by simp[q94]
theorem qFN (k:Int) (n i:Nat) (h:i<n):(q94 k n).getD i default=q6Q (k+5*i):=by simp[q94,h]
noncomputable def qDM (xs:List q0U) (k:Int):Int:=if xs=q94 k xs.length then k+5*xs.length else -1
theorem qQF (k:Int) (n t:Nat):q0K q0H (.sl n (gL (q09 1) (q94 k n)) t)=q94 k n:=by
 have h:=q1g (q2h 1) t (q94 k n);unfold q0D at h
 rwa [qFl]at h
theorem qTk (k:Int) (n t:Nat):VLe (.sl n (gL (q09 1) (q94 k n)) t) (q0D (q09 1) t (q94 k n)):=by
 unfold q0D;rw[qFl];exact VLe.refl _
noncomputable def qWg (y0:List q0U) (k:Int):q0M:=
 ⟨Nat×List q0U,fun p=>⟨[(0,.osl 0 y0.length),(1,.int .i64 (k+5*p.1)),(5,.int .i64 p.1)],[(0,.arr 5 y0.length (gL (q09 1) p.2) q0l)]⟩,fun p=>p.1≤y0.length∧p.2.length=y0.length∧∀j,j<p.1→p.2.getD j default=q6Q (k+5*j),fun p=>y0.length-p.1⟩
noncomputable def xAW (y0:List q0U) (k:Int):Nat→Option q0M:=fun k0=>match k0 with
 |2=>some (qWg y0 k)
 |_=>none
noncomputable def xFC:Nat→Option (Fl×q0P):=lk [(79,(.ro,qXI))]
theorem x5t:q0C Tryz.prog xFC:=q02 qZ9 (q04)
noncomputable def x3A (y0:List q0U) (k:Int):Cx:=⟨tt,xFC,Tryz.f102.ntmps,[0,1,4,5,9],[(2,⟨[(0,none),(1,none),(5,none)],[(0,[])]⟩)],[],xAW y0 k,[],noM,[]⟩
def qNy (n0:Nat) (k:Int):Prop:=1≤k∧k+5*n0≤4611686018427387904
noncomputable def q2w (x:Nat×List q0U):Int:=(↑x.1:Int)
noncomputable def q1J (x:Nat×List q0U):Nat:=(q2w x).toNat
noncomputable def q6r (x:Nat×List q0U):q2E:=(x.2.getD (q1J x) default).reply
noncomputable def qKO (k:Int) (x:Nat×List q0U):Int:=(bif Nat.beq (q1J x) (q1J x)then(bif Nat.beq (q1J x) (q1J x)then k+(5:Int)*(q2w x)else(x.2.getD (q1J x) default).client)else(bif Nat.beq (q1J x) (q1J x)then k+(5:Int)*(q2w x)else(x.2.getD (q1J x) default).client))
noncomputable def qLZ (k:Int) (x:Nat×List q0U):Int:=(bif Nat.beq (q1J x) (q1J x)then k+(5:Int)*(q2w x)+(1:Int)else(bif Nat.beq (q1J x) (q1J x)then(x.2.getD (q1J x) default).number else(x.2.getD (q1J x) default).number))
noncomputable def qKQ (k:Int) (x:Nat×List q0U):Int:=(bif Nat.beq (q1J x) (q1J x)then k+(5:Int)*(q2w x)+(1:Int)+(1:Int)else(bif Nat.beq (q1J x) (q1J x)then(bif Nat.beq (q1J x) (q1J x)then(q6r x).code else(q6r x).code)else(bif Nat.beq (q1J x) (q1J x)then(q6r x).code else(q6r x).code)))
noncomputable def qKD (x:Nat×List q0U):Int:=(bif Nat.beq (q1J x) (q1J x)then(q6r x).value else(q6r x).value)
noncomputable def qKJ (x:Nat×List q0U):ByteArray:=(bif Nat.beq (q1J x) (q1J x)then(q6r x).path else(q6r x).path)
noncomputable def q4P (y0:List q0U):Nat:=y0.length
def qEc (y0:List q0U) (x:Nat×List q0U):Prop:=0≤(q2w x)∧(q2w x)<(↑ (q4P y0):Int)
def qPR (y0:List q0U) (k:Int) (x:Nat×List q0U):Prop:=Prod.fst x≤y0.length∧(x.2.length=y0.length∧∀j:Nat,j<Prod.fst x→x.2.getD j default=q6Q (k+5*(↑j:Int)))
noncomputable def qGE (x:Nat×List q0U):Int:=(bif Nat.beq (q1J x) (q1J x)then(qKD x)else(qKD x))
noncomputable def qGT (x:Nat×List q0U):ByteArray:=(bif Nat.beq (q1J x) (q1J x)then(qKJ x)else(qKJ x))
noncomputable def qGN (k:Int) (x:Nat×List q0U):Int:=(bif Nat.beq (q1J x) (q1J x)then(qKO k x)else(qKO k x))
noncomputable def qFc (k:Int) (x:Nat×List q0U):Int:=(bif Nat.beq (q1J x) (q1J x)then(qLZ k x)else(qLZ k x))
def qBM (y0:List q0U) (x:Nat×List q0U):Prop:=(q2w x).toNat<y0.length
theorem x7U (y0:List q0U) (k:Int) (hpre:qNy y0.length k):q3h (x3A y0 k) Tryz.f102 [] [.osl 0 y0.length,.int .i64 k] [.arr 5 y0.length (gL (q09 1) y0) q0l] (fun rr bs=>VLe rr (.int .i64 (k+5*(y0.length:Int)))∧q1y bs [.arr 5 y0.length (gL (q09 1) (q94 k y0.length)) q0l]):=by
 have key:((∃x:Nat×List q0U,SLe (AS.mk [(0,V.osl 0 (q4P y0)),(1,vi k),(5,vi 0)] [(0,Blk.arr 5 (q4P y0) (gL (q09 1) y0) 100)]) (AS.mk [(0,V.osl 0 (q4P y0)),(1,vi (k+5*(q2w x))),(5,vi (q2w x))] [(0,Blk.arr 5 (q4P y0) (gL (q09 1) x.2) 100)])∧qPR y0 k x)∧∀x:Nat×List q0U,qPR y0 k x→(decide ((q2w x)<(↑ (q4P y0):Int))=true→qEc y0 x∧qBM y0 x∧inK IntKind.i64 (k+5*(q2w x)+1)∧qEc y0 x∧qBM y0 x∧inK IntKind.i64 (k+5*(q2w x)+1+1)∧qEc y0 x∧qBM y0 x∧inK IntKind.i64 (k+5*(q2w x)+1+1+1)∧qEc y0 x∧qBM y0 x∧inK IntKind.i64 (k+5*(q2w x)+1+1+1+1)∧qW0 (k+5*(q2w x)+1+1+1+1)∧qEc y0 x∧qBM y0 x∧inK IntKind.i64 (k+5*(q2w x)+1+1+1+1+1)∧(inK IntKind.i64 ((q2w x)+1)∧∃y:Nat×List q0U,SLe (AS.mk [(0,V.osl 0 (q4P y0)),(1,vi (k+5*(q2w x)+1+1+1+1+1)),(5,vi ((q2w x)+1))] [(0,Blk.arr 5 (q4P y0) (q65 (q65 (q65 (q65 (q65 (gL (q09 1) x.2) (q1J x) (V.agg [vi (k+5*(q2w x)),vi (x.2.getD (q1J x) default).number,vi (q6r x).code,vi (q6r x).value,V.str (q6r x).path])) (q1J x) (V.agg [vi (bif Nat.beq (q1J x) (q1J x)then k+(5:Int)*(q2w x)else(x.2.getD (q1J x) default).client),vi (k+5*(q2w x)+1),vi (bif Nat.beq (q1J x) (q1J x)then(q6r x).code else(q6r x).code),vi (qKD x),V.str (qKJ x)])) (q1J x) (V.agg [vi (qKO k x),vi (qLZ k x),vi (k+5*(q2w x)+1+1),vi (qGE x),V.str (qGT x)])) (q1J x) (V.agg [vi (qGN k x),vi (qFc k x),vi (qKQ k x),vi (k+5*(q2w x)+1+1+1),V.str (bif Nat.beq (q1J x) (q1J x)then(qGT x)else(qGT x))])) (q1J x) (V.agg [vi (bif Nat.beq (q1J x) (q1J x)then(qGN k x)else(qGN k x)),vi (bif Nat.beq (q1J x) (q1J x)then(qFc k x)else(qFc k x)),vi (bif Nat.beq (q1J x) (q1J x)then(qKQ k x)else(qKQ k x)),vi (bif Nat.beq (q1J x) (q1J x)then k+(5:Int)*(q2w x)+(1:Int)+(1:Int)+(1:Int)else(bif Nat.beq (q1J x) (q1J x)then(qGE x)else(qGE x))),V.str (mtF (k+5*(q2w x)+1+1+1+1))])) 100)]) (AS.mk [(0,V.osl 0 (q4P y0)),(1,vi (k+5*(↑y.1:Int))),(5,vi (↑y.1:Int))] [(0,Blk.arr 5 (q4P y0) (gL (q09 1) y.2) 100)])∧(Prod.fst y≤y0.length∧(y.2.length=y0.length∧∀j:Nat,j<Prod.fst y→y.2.getD j default=q6Q (k+5*(↑j:Int))))∧y0.length-Prod.fst y<y0.length-Prod.fst x))∧(decide ((q2w x)<(↑ (q4P y0):Int))=false→VLe (vi (k+5*(q2w x))) (vi (k+5*(↑ (q4P y0):Int)))∧BLe (Blk.arr 5 (q4P y0) (gL (q09 1) x.2) 100) (Blk.arr 5 (q4P y0) (gL (q09 1) (q94 k (q4P y0))) 100)∧True)):=by
  delta qBM;delta qFc;delta qGN;delta qGT;delta qGE;delta qPR;delta qEc;delta q4P;delta qKJ;delta qKD;delta qKQ;delta qLZ;delta qKO;delta q6r;delta q1J;delta q2w;delta vi;unfold qNy at hpre;refine⟨⟨(0,y0),SLe.refl' (by simp),by omega,rfl,fun j hj=>absurd hj (Nat.not_lt_zero j)⟩,?_⟩;rintro⟨i,ys⟩ ⟨hi,hl,hj⟩;simp only at hi hl hj⊢;refine⟨fun h=>?_,fun h=>?_⟩
  ·have hlt:i<y0.length:=by simpa using h
   simp only[Int.toNat_natCast]
   repeat (first|(refine And.intro ⟨by omega,by omega⟩ ?_)|(refine And.intro (q0X (by omega)) ?_)|(refine And.intro (by omega) ?_)|(refine And.intro (by decide) ?_))
   refine⟨(i+1,ys.set i (q6Q (k+5*i))),?_,⟨by simp only;omega,by simpa using hl,fun j h3=>q7n (f:=fun j=>q6Q (k+5*(j:Int))) (by omega) hj rfl h3⟩,by simp only;omega⟩;refine q1Q ⟨rfl,VLe.refl _,rfl,q0I (by simp only;omega),rfl,q0I (by simp),trivial⟩ ⟨rfl,?_,trivial⟩;exact qA6 (by omega) (ELe.of_eq (by simp[q2F,V.cells,q6Q,q09,Int.add_assoc])) fun j e=>by simp[q2F,e]
  ·have hge:i=y0.length:=by simp at h;omega
   subst hge;refine⟨q0I rfl,q1P (fun j hj'=>ELe.of_eq ?_) (Or.inl rfl),trivial⟩;simp only[gL];rw[hj j hj',qFN _ _ _ hj']
 exact Eq.mp (by kernel_rfl) key
noncomputable def qWo:q0P:=fun args bin=>match args,bin with
 |[.osl i0 m0,.int .i64 k],[.arr s0 p0 g0 t0]=>some ((i0=0∧s0=5∧t0=q0l∧p0=m0∧∃y:List q0U,y.length=m0∧∀i,i<m0→ELe (g0 i) (gL (q09 1) y i))∧qNy m0 k,.int .i64 (k+5*(m0:Int)),[.arr 5 m0 (gL (q09 1) (q94 k m0)) q0l])
 |_,_=>none
theorem x6c:q0R Tryz.prog 102 qWo:=by
 refine q0S q77 (tpl:=[]) Tryz.func102 rfl (by kernel_rfl) fun args bin ob r bout hDe hob=>?_;unfold qWo at hDe;split at hDe
 ·rename_i i0 m0 k s0 p0 g0 t0;cases hDe;obtain⟨⟨rfl,rfl,rfl,rfl,y0,rfl,h0⟩,hpre⟩:=hob;exact⟨Nat.le_of_ble_eq_true (by kernel_rfl),x3A y0 k,Eq.mp (by kernel_rfl) htt,Eq.mp (by kernel_rfl) x5t,Eq.mp (by kernel_rfl) (q2n (P:=Tryz.prog)),by kernel_rfl,_,[.arr 5 y0.length (gL (q09 1) y0) q0l],q54.refl _,⟨q1P h0 (Or.inl rfl),trivial⟩,Eq.mp (by kernel_rfl) (x7U y0 k hpre)⟩
 ·cases hDe
def qSu (xs:List q0U) (k:Int):Prop:=1≤k∧k+5*xs.length≤4611686018427387904
noncomputable def x2e (xs:List q0U) (k:Int):V:=.int .i64 (qDM xs k)
noncomputable def qWl:q0P:=fun args bin=>match args,bin with
 |[a0,.int .i64 a1],[]=>some (VLe a0 (q0D (q09 1) 1 (((q0K q0H) a0)))∧qSu ((q0K q0H) a0) a1,x2e ((q0K q0H) a0) a1,[])
 |_,_=>none
noncomputable def qVI (xs:List q0U) (k:Int):q0M:=
 ⟨Nat,fun i=>⟨[(0,q0D (q09 1) 1 xs),(1,.int .i64 (k+5*i)),(5,.int .i64 i)],[]⟩,fun i=>i≤xs.length∧∀j,j<i→xs.getD j default=q6Q (k+5*j),fun i=>xs.length-i⟩
noncomputable def x6A (xs:List q0U) (k:Int):Nat→Option q0M:=fun rg_=>match rg_ with
 |2=>some (qVI xs k)
 |_=>none
noncomputable def xEF:=lkR [(79,qXI)]
theorem xBb:q0C Tryz.prog xEF:=q02 qZ9 (q04)
noncomputable def x61 (xs:List q0U) (k:Int):=cxL xEF Tryz.f140 [0,1,4,5,9,18,27,37,47,58] [(2,⟨[(0,none),(1,none),(5,none)],[]⟩)] (x6A xs k) []
def qEg (xs:List q0U) (x:Nat):Prop:=0≤(↑x:Int)∧(↑x:Int)<(↑ xs.length:Int)
noncomputable def qCi (xs:List q0U) (x:Nat):q2E:=(xs.getD (q26 x) default).reply
def qNd (xs:List q0U) (k:Int) (x:Nat):Prop:=(x≤xs.length∧∀j:Nat,j<x→xs.getD j default=q6Q (k+5*(↑j:Int)))
def qEb (xs:List q0U) (k:Int):Prop:=VLe (vi (-1)) (vi (qDM xs k))
theorem x82 (xs:List q0U) (k:Int) (hpre:qSu xs k):q0d (x61 xs k) Tryz.f140 0 [q0D (q09 1) 1 (xs),.int .i64 (k)] (fun rr=>VLe rr (x2e xs k)):=by
 have key:((∃x:Nat,SLe (AS.mk [(0,q0D (q09 1) 1 xs),(1,vi k),(5,vi 0)] []) (AS.mk [(0,q0D (q09 1) 1 xs),(1,vi (k+5*(↑x:Int))),(5,vi (↑x:Int))] [])∧qNd xs k x)∧∀x:Nat,qNd xs k x→(decide ((↑x:Int)<(↑ xs.length:Int))=true→qEg xs x∧(((xs.getD (q26 x) default).client !=k+5*(↑x:Int))=true→qEb xs k)∧(((xs.getD (q26 x) default).client !=k+5*(↑x:Int))=false→inK IntKind.i64 (k+5*(↑x:Int)+1)∧qEg xs x∧(((xs.getD (q26 x) default).number !=k+5*(↑x:Int)+1)=true→qEb xs k)∧(((xs.getD (q26 x) default).number !=k+5*(↑x:Int)+1)=false→inK IntKind.i64 (k+5*(↑x:Int)+1+1)∧qEg xs x∧(((qCi xs x).code !=k+5*(↑x:Int)+1+1)=true→qEb xs k)∧(((qCi xs x).code !=k+5*(↑x:Int)+1+1)=false→inK IntKind.i64 (k+5*(↑x:Int)+1+1+1)∧qEg xs x∧(((qCi xs x).value !=k+5*(↑x:Int)+1+1+1)=true→qEb xs k)∧(((qCi xs x).value !=k+5*(↑x:Int)+1+1+1)=false→inK IntKind.i64 (k+5*(↑x:Int)+1+1+1+1)∧qEg xs x∧qW0 (k+5*(↑x:Int)+1+1+1+1)∧((!q1t (qCi xs x).path (mtF (k+5*(↑x:Int)+1+1+1+1)))=true→qEb xs k)∧((!q1t (qCi xs x).path (mtF (k+5*(↑x:Int)+1+1+1+1)))=false→inK IntKind.i64 (k+5*(↑x:Int)+1+1+1+1+1)∧(inK IntKind.i64 ((↑x:Int)+1)∧∃y:Nat,SLe (AS.mk [(0,q0D (q09 1) 1 xs),(1,vi (k+5*(↑x:Int)+1+1+1+1+1)),(5,vi ((↑x:Int)+1))] []) (AS.mk [(0,q0D (q09 1) 1 xs),(1,vi (k+5*(↑y:Int))),(5,vi (↑y:Int))] [])∧(y≤xs.length∧∀j:Nat,j<y→xs.getD j default=q6Q (k+5*(↑j:Int)))∧xs.length-y<xs.length-x)))))))∧(decide ((↑x:Int)<(↑ xs.length:Int))=false→VLe (vi (k+5*(↑x:Int))) (vi (qDM xs k)))):=by
  delta qEb;delta qNd;delta qCi;delta q26;delta qEg;delta vi;unfold qSu at hpre;refine⟨⟨0,SLe.refl' (by simp),by omega,fun j hj=>absurd hj (Nat.not_lt_zero j)⟩,?_⟩;rintro i ⟨hi,hj⟩;refine⟨fun h=>?_,fun h=>?_⟩
  ·have hlt:i<xs.length:=by simpa using h
   have no:xs.getD i default≠q6Q (k+5*i)→VLe (.int .i64 (-1)) (.int .i64 (qDM xs k)):=fun hn=>by
    refine q0I ?_;have:xs≠q94 k xs.length:=fun e=>hn (by rw[e];exact qFN _ _ _ hlt);unfold qDM;rw[if_neg this]
   simp only[Int.toNat_natCast,q1W];refine⟨by omega,fun g0=>?_,fun g0=>⟨q0X (by omega),by omega,fun g1=>?_,fun g1=>⟨q0X (by omega),by omega,fun g2=>?_,fun g2=>⟨q0X (by omega),by omega,fun g3=>?_,fun g3=>⟨q0X (by omega),by omega,⟨by omega,by omega⟩,fun g4=>?_,fun g4=>⟨q0X (by omega),q0X (by omega),i+1,q1Q ⟨rfl,VLe.refl _,rfl,q0I (by omega),rfl,q0I (by omega),trivial⟩ trivial,⟨by omega,fun j h5=>?_⟩,by omega⟩⟩⟩⟩⟩⟩
   ·exact no fun e=>by rw[e]at g0;first|(simp[q6Q,Int.add_assoc]at g0;done)|(simp[q6Q]at g0;omega)
   ·exact no fun e=>by rw[e]at g1;first|(simp[q6Q,Int.add_assoc]at g1;done)|(simp[q6Q]at g1;omega)
   ·exact no fun e=>by rw[e]at g2;first|(simp[q6Q,Int.add_assoc]at g2;done)|(simp[q6Q]at g2;omega)
   ·exact no fun e=>by rw[e]at g3;first|(simp[q6Q,Int.add_assoc]at g3;done)|(simp[q6Q]at g3;omega)
   ·exact no fun e=>by rw[e]at g4;first|(simp[q6Q,Int.add_assoc]at g4;done)|(simp[q6Q]at g4;omega)
   ·rcases Nat.lt_or_ge j i with h6|h6
    ·exact hj j h6
    ·have:j=i:=by omega
     subst this;have a0:(xs.getD j default).client=k+5*(j:Int):=by first|(simpa[Int.add_assoc]using g0;done)|(have:=g0;simp at this;omega)
     have a1:(xs.getD j default).number=k+5*(j:Int)+1:=by first|(simpa[Int.add_assoc]using g1;done)|(have:=g1;simp at this;omega)
     have a2:(xs.getD j default).reply.code=k+5*(j:Int)+2:=by first|(simpa[Int.add_assoc]using g2;done)|(have:=g2;simp at this;omega)
     have a3:(xs.getD j default).reply.value=k+5*(j:Int)+3:=by first|(simpa[Int.add_assoc]using g3;done)|(have:=g3;simp at this;omega)
     have a4:(xs.getD j default).reply.path=mtF (k+5*(j:Int)+4):=by first|(simpa[Int.add_assoc]using g4)|(simpa using g4)
     unfold q6Q;simp only[qKL,qLm];exact⟨a0,a1,⟨a2,a3,a4⟩⟩
  ·refine q0I ?_;have hge:i=xs.length:=by simp at h;omega
   subst hge;have:xs=q94 k xs.length:=qAr (by simp) fun j hj'=>by rw[hj j hj',qFN _ _ _ hj']
   unfold qDM;rw[if_pos this]
 exact Eq.mp (by kernel_rfl) key
theorem xAF:q0R Tryz.prog 140 qWl:=by
 refine sob 0 Tryz.func140 fun args bin ob r bout hDe hob=>?_;unfold qWl at hDe;split at hDe
 ·rename_i a0 a1;cases hDe;exact okB (x82 ((q0K q0H) a0) a1 (hob.2)) xBb (args_of_vles ⟨hob.1,VLe.refl _,trivial⟩)
 ·cases hDe
noncomputable def D39:Nat→Option (Fl×q0P):=lk [(100,(.rw,qX0)),(101,(.rw,qWc)),(102,(.rw,qWo))]
theorem xHN:q0C Tryz.prog D39:=q02 x50 (q02 x9k (q02 x6c (q04)))
noncomputable def xF2 (c0:Int) (y0:List q0A) (y1:List q07) (y2:List q0U) (k:Int):Cx:=⟨tt,D39,Tryz.f39.ntmps,[0,1,2,4],[],[],fun _=>none,[],noM,[]⟩
def qYv (n0:Nat) (n1:Nat) (n2:Nat) (k:Int):Prop:=1≤k∧k+5*n0+2*n1+5*n2≤4611686018427387904
noncomputable def q8z (y0:List q0A):Int:=(↑ y0.length:Int)
theorem xGx (c0:Int) (y0:List q0A) (y1:List q07) (y2:List q0U) (k:Int) (hpre:qYv y0.length y1.length y2.length k):q3h (xF2 c0 y0 y1 y2 k) Tryz.f39 [] [.agg [.osl 0 y0.length,.osl 1 y1.length,.int .i64 (c0),.osl 2 y2.length],.int .i64 k] [.arr 5 y0.length (gL (q01 1) y0) q0l,.arr 2 y1.length (gL (q00 1) y1) q0l,.arr 5 y2.length (gL (q09 1) y2) q0l] (fun rr bs=>VLe rr (.int .i64 (k+5*(y0.length:Int)+2*(y1.length:Int)+5*(y2.length:Int)))∧q1y bs [.arr 5 y0.length (gL (q01 1) (zMk k y0.length)) q0l,.arr 2 y1.length (gL (q00 1) (q92 (k+5*y0.length) y1.length)) q0l,.arr 5 y2.length (gL (q09 1) (q94 (k+5*y0.length+2*y1.length) y2.length)) q0l]):=by
 have key:((0=0∧5=5∧100=100∧(y0.length=y0.length∧∃y:List q0A,(y.length=y0.length∧∀i:Nat,i<y0.length→ELe (q01 1 (y0.getD i default)) (q01 1 (y.getD i default)))))∧qQ8 y0.length k)∧y0.length=y0.length∧((0=0∧2=2∧100=100∧(y1.length=y1.length∧∃y:List q07,(y.length=y1.length∧∀i:Nat,i<y1.length→ELe (q00 1 (y1.getD i default)) (q00 1 (y.getD i default)))))∧qOH y1.length (k+5*(q8z y0)))∧y1.length=y1.length∧((0=0∧5=5∧100=100∧(y2.length=y2.length∧∃y:List q0U,(y.length=y2.length∧∀i:Nat,i<y2.length→ELe (q09 1 (y2.getD i default)) (q09 1 (y.getD i default)))))∧qNy y2.length (k+5*(q8z y0)+2*(↑ y1.length:Int)))∧y2.length=y2.length∧VLe (vi (k+5*(q8z y0)+2*(↑ y1.length:Int)+5*(↑ y2.length:Int))) (vi (k+5*(q8z y0)+2*(↑ y1.length:Int)+5*(↑ y2.length:Int)))∧BLe (Blk.arr 5 y0.length (gL (q01 1) (zMk k y0.length)) 100) (Blk.arr 5 y0.length (gL (q01 1) (zMk k y0.length)) 100)∧BLe (Blk.arr 2 y1.length (gL (q00 1) (q92 (k+5*(q8z y0)) y1.length)) 100) (Blk.arr 2 y1.length (gL (q00 1) (q92 (k+5*(q8z y0)) y1.length)) 100)∧BLe (Blk.arr 5 y2.length (gL (q09 1) (q94 (k+5*(q8z y0)+2*(↑ y1.length:Int)) y2.length)) 100) (Blk.arr 5 y2.length (gL (q09 1) (q94 (k+5*(q8z y0)+2*(↑ y1.length:Int)) y2.length)) 100)∧True:=by
  delta q8z;delta vi;unfold qYv at hpre;refine⟨⟨⟨rfl,rfl,rfl,rfl,y0,rfl,fun _ _=>ELe.refl _⟩,by unfold qQ8;omega⟩,rfl,⟨⟨rfl,rfl,rfl,rfl,y1,rfl,fun _ _=>ELe.refl _⟩,by unfold qOH;omega⟩,rfl,⟨⟨rfl,rfl,rfl,rfl,y2,rfl,fun _ _=>ELe.refl _⟩,by unfold qNy;omega⟩,rfl,VLe.refl _,BLe.refl _,BLe.refl _,BLe.refl _,trivial⟩
 exact Eq.mp (by kernel_rfl) key
noncomputable def x4W:q0P:=fun args bin=>match args,bin with
 |[.agg [.osl i0 m0,.osl i1 m1,.int .i64 (c0),.osl i2 m2],.int .i64 k],[.arr s0 p0 g0 t0,.arr s1 p1 g1 t1,.arr s2 p2 g2 t2]=>some ((i0=0∧s0=5∧t0=q0l∧p0=m0∧∃y:List q0A,y.length=m0∧∀i,i<m0→ELe (g0 i) (gL (q01 1) y i))∧(i1=1∧s1=2∧t1=q0l∧p1=m1∧∃y:List q07,y.length=m1∧∀i,i<m1→ELe (g1 i) (gL (q00 1) y i))∧(i2=2∧s2=5∧t2=q0l∧p2=m2∧∃y:List q0U,y.length=m2∧∀i,i<m2→ELe (g2 i) (gL (q09 1) y i))∧qYv m0 m1 m2 k,.int .i64 (k+5*(m0:Int)+2*(m1:Int)+5*(m2:Int)),[.arr 5 m0 (gL (q01 1) (zMk k m0)) q0l,.arr 2 m1 (gL (q00 1) (q92 (k+5*m0) m1)) q0l,.arr 5 m2 (gL (q09 1) (q94 (k+5*m0+2*m1) m2)) q0l])
 |_,_=>none
theorem xDY:q0R Tryz.prog 39 x4W:=by
 refine q0S q77 (tpl:=[]) Tryz.func39 rfl (by kernel_rfl) fun args bin ob r bout hDe hob=>?_;unfold x4W at hDe;split at hDe
 ·rename_i i0 m0 i1 m1 c0 i2 m2 k s0 p0 g0 t0 s1 p1 g1 t1 s2 p2 g2 t2;cases hDe;obtain⟨⟨rfl,rfl,rfl,rfl,y0,rfl,h0⟩,⟨rfl,rfl,rfl,rfl,y1,rfl,h1⟩,⟨rfl,rfl,rfl,rfl,y2,rfl,h2⟩,hpre⟩:=hob;exact⟨Nat.le_of_ble_eq_true (by kernel_rfl),xF2 c0 y0 y1 y2 k,Eq.mp (by kernel_rfl) htt,Eq.mp (by kernel_rfl) xHN,Eq.mp (by kernel_rfl) (q2n (P:=Tryz.prog)),by kernel_rfl,_,[.arr 5 y0.length (gL (q01 1) y0) q0l,.arr 2 y1.length (gL (q00 1) y1) q0l,.arr 5 y2.length (gL (q09 1) y2) q0l],q54.refl _,⟨q1P h0 (Or.inl rfl),q1P h1 (Or.inl rfl),q1P h2 (Or.inl rfl),trivial⟩,Eq.mp (by kernel_rfl) (xGx c0 y0 y1 y2 k hpre)⟩
 ·cases hDe
noncomputable def D20:Nat→Option (Fl×q0P):=lk [(39,(.rw,x4W))]
theorem xG7:q0C Tryz.prog D20:=q02 xDY (q04)
noncomputable def xDK (c0:Int) (c1:Int) (c2:Int) (c3:ByteArray) (c4:Int) (y0:List q0A) (y1:List q07) (y2:List q0U) (k:Int):Cx:=⟨tt,D20,Tryz.f20.ntmps,[0,1,2,4],[],[],fun _=>none,[],noM,[]⟩
def x13 (n0:Nat) (n1:Nat) (n2:Nat) (k:Int):Prop:=1≤k∧k+5*n0+2*n1+5*n2≤4611686018427387904
theorem xHR (c0:Int) (c1:Int) (c2:Int) (c3:ByteArray) (c4:Int) (y0:List q0A) (y1:List q07) (y2:List q0U) (k:Int) (hpre:x13 y0.length y1.length y2.length k):q3h (xDK c0 c1 c2 c3 c4 y0 y1 y2 k) Tryz.f20 [] [.agg [.int .i64 (c0),.int .i64 (c1),.int .i64 (c2),.str (c3),.osl 0 y0.length,.osl 1 y1.length,.int .i64 (c4),.osl 2 y2.length],.int .i64 k] [.arr 5 y0.length (gL (q01 1) y0) q0l,.arr 2 y1.length (gL (q00 1) y1) q0l,.arr 5 y2.length (gL (q09 1) y2) q0l] (fun rr bs=>VLe rr (.int .i64 (k+5*(y0.length:Int)+2*(y1.length:Int)+5*(y2.length:Int)))∧q1y bs [.arr 5 y0.length (gL (q01 1) (zMk k y0.length)) q0l,.arr 2 y1.length (gL (q00 1) (q92 (k+5*y0.length) y1.length)) q0l,.arr 5 y2.length (gL (q09 1) (q94 (k+5*y0.length+2*y1.length) y2.length)) q0l]):=by
 have key:((0=0∧5=5∧100=100∧(y0.length=y0.length∧∃y:List q0A,(y.length=y0.length∧∀i:Nat,i<y0.length→ELe (q01 1 (y0.getD i default)) (q01 1 (y.getD i default)))))∧(1=1∧2=2∧100=100∧(y1.length=y1.length∧∃y:List q07,(y.length=y1.length∧∀i:Nat,i<y1.length→ELe (q00 1 (y1.getD i default)) (q00 1 (y.getD i default)))))∧(2=2∧5=5∧100=100∧(y2.length=y2.length∧∃y:List q0U,(y.length=y2.length∧∀i:Nat,i<y2.length→ELe (q09 1 (y2.getD i default)) (q09 1 (y.getD i default)))))∧qYv y0.length y1.length y2.length k)∧y0.length=y0.length∧y1.length=y1.length∧y2.length=y2.length∧VLe (vi (k+5*(q8z y0)+2*(↑ y1.length:Int)+5*(↑ y2.length:Int))) (vi (k+5*(q8z y0)+2*(↑ y1.length:Int)+5*(↑ y2.length:Int)))∧BLe (Blk.arr 5 y0.length (gL (q01 1) (zMk k y0.length)) 100) (Blk.arr 5 y0.length (gL (q01 1) (zMk k y0.length)) 100)∧BLe (Blk.arr 2 y1.length (gL (q00 1) (q92 (k+5*(q8z y0)) y1.length)) 100) (Blk.arr 2 y1.length (gL (q00 1) (q92 (k+5*(q8z y0)) y1.length)) 100)∧BLe (Blk.arr 5 y2.length (gL (q09 1) (q94 (k+5*(q8z y0)+2*(↑ y1.length:Int)) y2.length)) 100) (Blk.arr 5 y2.length (gL (q09 1) (q94 (k+5*(q8z y0)+2*(↑ y1.length:Int)) y2.length)) 100)∧True:=by
  delta q8z;delta vi;unfold x13 at hpre;refine⟨⟨⟨rfl,rfl,rfl,rfl,y0,rfl,fun _ _=>ELe.refl _⟩,⟨rfl,rfl,rfl,rfl,y1,rfl,fun _ _=>ELe.refl _⟩,⟨rfl,rfl,rfl,rfl,y2,rfl,fun _ _=>ELe.refl _⟩,hpre⟩,rfl,rfl,rfl,VLe.refl _,BLe.refl _,BLe.refl _,BLe.refl _,trivial⟩
 exact Eq.mp (by kernel_rfl) key
noncomputable def xAM:q0P:=fun args bin=>match args,bin with
 |[.agg [.int .i64 (c0),.int .i64 (c1),.int .i64 (c2),.str (c3),.osl i0 m0,.osl i1 m1,.int .i64 (c4),.osl i2 m2],.int .i64 k],[.arr s0 p0 g0 t0,.arr s1 p1 g1 t1,.arr s2 p2 g2 t2]=>some ((i0=0∧s0=5∧t0=q0l∧p0=m0∧∃y:List q0A,y.length=m0∧∀i,i<m0→ELe (g0 i) (gL (q01 1) y i))∧(i1=1∧s1=2∧t1=q0l∧p1=m1∧∃y:List q07,y.length=m1∧∀i,i<m1→ELe (g1 i) (gL (q00 1) y i))∧(i2=2∧s2=5∧t2=q0l∧p2=m2∧∃y:List q0U,y.length=m2∧∀i,i<m2→ELe (g2 i) (gL (q09 1) y i))∧x13 m0 m1 m2 k,.int .i64 (k+5*(m0:Int)+2*(m1:Int)+5*(m2:Int)),[.arr 5 m0 (gL (q01 1) (zMk k m0)) q0l,.arr 2 m1 (gL (q00 1) (q92 (k+5*m0) m1)) q0l,.arr 5 m2 (gL (q09 1) (q94 (k+5*m0+2*m1) m2)) q0l])
 |_,_=>none
theorem xFV:q0R Tryz.prog 20 xAM:=by
 refine q0S q77 (tpl:=[]) Tryz.func20 rfl (by kernel_rfl) fun args bin ob r bout hDe hob=>?_;unfold xAM at hDe;split at hDe
 ·rename_i c0 c1 c2 c3 i0 m0 i1 m1 c4 i2 m2 k s0 p0 g0 t0 s1 p1 g1 t1 s2 p2 g2 t2;cases hDe;obtain⟨⟨rfl,rfl,rfl,rfl,y0,rfl,h0⟩,⟨rfl,rfl,rfl,rfl,y1,rfl,h1⟩,⟨rfl,rfl,rfl,rfl,y2,rfl,h2⟩,hpre⟩:=hob;exact⟨Nat.le_of_ble_eq_true (by kernel_rfl),xDK c0 c1 c2 c3 c4 y0 y1 y2 k,Eq.mp (by kernel_rfl) htt,Eq.mp (by kernel_rfl) xG7,Eq.mp (by kernel_rfl) (q2n (P:=Tryz.prog)),by kernel_rfl,_,[.arr 5 y0.length (gL (q01 1) y0) q0l,.arr 2 y1.length (gL (q00 1) y1) q0l,.arr 5 y2.length (gL (q09 1) y2) q0l],q54.refl _,⟨q1P h0 (Or.inl rfl),q1P h1 (Or.inl rfl),q1P h2 (Or.inl rfl),trivial⟩,Eq.mp (by kernel_rfl) (xHR c0 c1 c2 c3 c4 y0 y1 y2 k hpre)⟩
 ·cases hDe
def qFE (s:q06) (k:Int):Prop:=s.nodes=zMk k s.nodes.length∧s.sessions=q92 (k+5*s.nodes.length) s.sessions.length∧s.marks=q94 (k+5*s.nodes.length+2*s.sessions.length) s.marks.length
noncomputable instance (s:q06) (k:Int):Decidable (qFE s k):=Classical.propDecidable _
noncomputable def q43 (s:q06) (k:Int):Int:=if qFE s k then k+5*s.nodes.length+2*s.sessions.length+5*s.marks.length else -1
theorem qGJ {a:Int} {p:Prop} [Decidable p] (h:(if p then a else -1)<0) (hb:0≤a):¬p:=fun e=>by
 rw[if_pos e]at h;omega
theorem qGO {a:Int} {p:Prop} [Decidable p] (h:¬(if p then a else -1)<0):p:=Classical.byContradiction fun e=>by
 rw[if_neg e]at h;omega
def x4T (s:q06) (k:Int):Prop:=1≤k∧k+5*s.nodes.length+2*s.sessions.length+5*s.marks.length≤4611686018427387904
noncomputable def xEp (s:q06) (k:Int):V:=.int .i64 (q43 s k)
noncomputable def x4i:q0P:=fun args bin=>match args,bin with
 |[a0,.int .i64 a1],[]=>some (VLe a0 (q0J 1 ((q0B a0)))∧x4T (q0B a0) a1,xEp (q0B a0) a1,[])
 |_,_=>none
noncomputable def D67:=lkR [(138,qWf),(139,qY7),(140,qWl)]
theorem xFx:q0C Tryz.prog D67:=q02 xAh (q02 xCn (q02 xAF (q04)))
noncomputable def xGc (s:q06) (k:Int):=cxN D67 Tryz.f67 [0,1,2,4,10,16,22]
theorem xGs (s:q06) (k:Int) (hpre:x4T s k):q0d (xGc s k) Tryz.f67 0 [q0J 1 (s),.int .i64 (k)] (fun rr=>VLe rr (xEp s k)):=by
 have key:(VLe (q0D (q01 1) 1 s.nodes) (q0D (q01 1) 1 (q1F s))∧qS8 (q1F s) k)∧(decide (qDz (q1F s) k<(0:Int))=true→VLe (vi (-1)) (vi (q43 s k)))∧(decide (qDz (q1F s) k<(0:Int))=false→(VLe (q0D (q00 1) 1 s.sessions) (q0D (q00 1) 1 (q1G s))∧qTo (q1G s) (qDz (q1F s) k))∧(decide (q9Q (q1G s) (qDz (q1F s) k)<(0:Int))=true→VLe (vi (-1)) (vi (q43 s k)))∧(decide (q9Q (q1G s) (qDz (q1F s) k)<(0:Int))=false→(VLe (q0D (q09 1) 1 s.marks) (q0D (q09 1) 1 (q4a s))∧qSu (q4a s) (q9Q (q1G s) (qDz (q1F s) k)))∧(decide (qDM (q4a s) (q9Q (q1G s) (qDz (q1F s) k))<(0:Int))=true→VLe (vi (-1)) (vi (q43 s k)))∧(decide (qDM (q4a s) (q9Q (q1G s) (qDz (q1F s) k))<(0:Int))=false→VLe (vi (qDM (q4a s) (q9Q (q1G s) (qDz (q1F s) k)))) (vi (q43 s k))))):=by
  delta q4a;delta q1G;delta q1F;delta vi;unfold x4T at hpre;simp only[q0o,q0p,q2i];refine⟨⟨VLe.refl _,by show 1≤k∧_;omega⟩,fun h=>q0I ?_,fun h=>?_⟩
  ·have h1:=of_decide_eq_true h;unfold qDz at h1;unfold q43;rw[if_neg fun g=>qGJ h1 (by omega) g.1]
  have h1:=of_decide_eq_false h;unfold qDz at h1⊢;have h2:=qGO h1;rw[if_pos h2];refine⟨⟨VLe.refl _,by show 1≤k+5*(s.nodes.length:Int)∧_;omega⟩,fun h=>q0I ?_,fun h=>?_⟩
  ·have h3:=of_decide_eq_true h;unfold q9Q at h3;unfold q43;rw[if_neg fun g=>qGJ h3 (by omega) g.2.1]
  have h3:=of_decide_eq_false h;unfold q9Q at h3⊢;have h4:=qGO h3;rw[if_pos h4];refine⟨⟨VLe.refl _,by show 1≤k+5*(s.nodes.length:Int)+2*(s.sessions.length:Int)∧_;omega⟩,fun h=>q0I ?_,fun h=>q0I ?_⟩
  ·have h5:=of_decide_eq_true h;unfold qDM at h5;unfold q43;rw[if_neg fun g=>qGJ h5 (by omega) g.2.2]
  ·have h5:=of_decide_eq_false h;unfold qDM at h5⊢;have h6:=qGO h5;unfold q43;rw[if_pos h6,if_pos ⟨h2,h4,h6⟩]
 exact Eq.mp (by kernel_rfl) key
theorem xFw:q0R Tryz.prog 67 x4i:=by
 refine sob 0 Tryz.func67 fun args bin ob r bout hDe hob=>?_;unfold x4i at hDe;split at hDe
 ·rename_i a0 a1;cases hDe;exact okB (xGs (q0B a0) a1 (hob.2)) xFx (args_of_vles ⟨hob.1,VLe.refl _,trivial⟩)
 ·cases hDe
def qZp (a:q0f) (k:Int):Prop:=1≤k∧k+5*a.state.nodes.length+2*a.state.sessions.length+5*a.state.marks.length≤4611686018427387904
noncomputable def xDD (a:q0f) (k:Int):V:=.int .i64 (q43 a.state k)
noncomputable def xA6:q0P:=fun args bin=>match args,bin with
 |[a0,.int .i64 a1],[]=>some (VLe a0 (q0m 1 ((q0T a0)))∧qZp (q0T a0) a1,xDD (q0T a0) a1,[])
 |_,_=>none
noncomputable def D21:=lkR [(67,x4i)]
theorem xGn:q0C Tryz.prog D21:=q02 xFw (q04)
noncomputable def xGf (a:q0f) (k:Int):=cxN D21 Tryz.f21 [0,1,2,4,10]
noncomputable def qJO (a:q0f):V:=q0J 1 a.state
theorem xG6 (a:q0f) (k:Int) (hpre:qZp a k):q0d (xGf a k) Tryz.f21 0 [q0m 1 (a),.int .i64 (k)] (fun rr=>VLe rr (xDD a k)):=by
 have key:(VLe (qJO a) (q0J 1 (q0B (qJO a)))∧x4T (q0B (qJO a)) k)∧(decide (q43 (q0B (qJO a)) k<(0:Int))=true→VLe (vi (-1)) (vi (q43 a.state k)))∧(decide (q43 (q0B (qJO a)) k<(0:Int))=false→VLe (vi (q43 (q0B (qJO a)) k)) (vi (q43 a.state k))):=by
  delta qJO;delta vi;unfold qZp at hpre;simp only[q1X];refine⟨⟨VLe.refl _,hpre⟩,fun h=>q0I ?_,fun h=>VLe.refl _⟩;have h1:=of_decide_eq_true h;unfold q43 at h1⊢;rw[if_neg (qGJ h1 (by omega))]
 exact Eq.mp (by kernel_rfl) key
theorem xFl:q0R Tryz.prog 21 xA6:=by
 refine sob 0 Tryz.func21 fun args bin ob r bout hDe hob=>?_;unfold xA6 at hDe;split at hDe
 ·rename_i a0 a1;cases hDe;exact okB (xG6 (q0T a0) a1 (hob.2)) xGn (args_of_vles ⟨hob.1,VLe.refl _,trivial⟩)
 ·cases hDe
def qRV (x:q06) (y:q06):Prop:=x.nodes.length≤maxLen∧x.sessions.length≤maxLen∧x.marks.length≤maxLen
noncomputable def x0A (x:q06) (y:q06):V:=.bool (decide (x=y))
noncomputable def qTd:q0P:=fun args bin=>match args,bin with
 |[a0,a1],[]=>some (VLe a0 (q0J 1 ((q0B a0)))∧VLe a1 (q0J 1 ((q0B a1)))∧qRV (q0B a0) (q0B a1),x0A (q0B a0) (q0B a1),[])
 |_,_=>none
noncomputable def xCy:=lkR [(96,xAw),(97,x9I),(98,x9s)]
theorem x9W:q0C Tryz.prog xCy:=q02 xFm (q02 xGV (q02 xFd (q04)))
noncomputable def xCp (x:q06) (y:q06):=cxN xCy Tryz.f37 [0,1,2,3,4,10,16,21,27]
theorem x6V (x:q06) (y:q06) (hpre:qRV x y):q0d (xCp x y) Tryz.f37 0 [q0J 1 (x),q0J 1 (y)] (fun rr=>VLe rr (x0A x y)):=by
 have key:(VLe (qMW x) (q0D (q01 1) 1 (q0K q03 (qMW x)))∧VLe (qMh y) (q0D (q01 1) 1 (q0K q03 (qMh y)))∧x4G (q0K q03 (qMW x)) (q0K q03 (qMh y)))∧((!decide (q0K q03 (qMW x)=q0K q03 (qMh y)))=true→qRf x y)∧((!decide (q0K q03 (qMW x)=q0K q03 (qMh y)))=false→(VLe (qNU x) (q0D (q00 1) 1 (q0K q05 (qNU x)))∧VLe (qNM y) (q0D (q00 1) 1 (q0K q05 (qNM y)))∧x4H (q0K q05 (qNU x)) (q0K q05 (qNM y)))∧((!decide (q0K q05 (qNU x)=q0K q05 (qNM y)))=true→qRf x y)∧((!decide (q0K q05 (qNU x)=q0K q05 (qNM y)))=false→((x.now !=y.now)=true→qRf x y)∧((x.now !=y.now)=false→(VLe (qMU x) (q0D (q09 1) 1 (q0K q0H (qMU x)))∧VLe (qMc y) (q0D (q09 1) 1 (q0K q0H (qMc y)))∧x4O (q0K q0H (qMU x)) (q0K q0H (qMc y)))∧((!decide (q0K q0H (qMU x)=q0K q0H (qMc y)))=true→qRf x y)∧((!decide (q0K q0H (qMU x)=q0K q0H (qMc y)))=false→VLe (V.bool true) (V.bool (decide (x=y))))))):=by
  delta qRf;delta qMc;delta qMU;delta qMh;delta qMW;delta qNM;delta qNU;obtain⟨hn,hs,hk⟩:=hpre;simp only[q0o,q0p,q2i];refine⟨⟨VLe.refl _,VLe.refl _,hn,fun _ _ _=>trivial⟩,fun h=>q0Z ?_,fun h=>⟨⟨VLe.refl _,VLe.refl _,hs,fun _ _ _=>trivial⟩,fun h2=>q0Z ?_,fun h2=>⟨fun h3=>q0Z ?_,fun h3=>⟨⟨VLe.refl _,VLe.refl _,hk,fun _ _ _=>trivial⟩,fun h4=>q0Z ?_,fun h4=>q0Z ?_⟩⟩⟩⟩
  all_goals simp_all [qNz]
 exact Eq.mp (by kernel_rfl) key
theorem x45:q0R Tryz.prog 37 qTd:=by
 refine sob 0 Tryz.func37 fun args bin ob r bout hDe hob=>?_;unfold qTd at hDe;split at hDe
 ·rename_i a0 a1;cases hDe;exact okB (x6V (q0B a0) (q0B a1) (hob.2.2)) x9W (args_of_vles ⟨hob.1,hob.2.1,trivial⟩)
 ·cases hDe
def x4U (x:q0f) (y:q0f):Prop:=x.state.nodes.length≤maxLen∧x.state.sessions.length≤maxLen∧x.state.marks.length≤maxLen
noncomputable def xFR (x:q0f) (y:q0f):V:=.bool (decide (x=y))
noncomputable def xBl:q0P:=fun args bin=>match args,bin with
 |[a0,a1],[]=>some (VLe a0 (q0m 1 ((q0T a0)))∧VLe a1 (q0m 1 ((q0T a1)))∧x4U (q0T a0) (q0T a1),xFR (q0T a0) (q0T a1),[])
 |_,_=>none
noncomputable def D17:=lkR [(65,x4J),(37,qTd)]
theorem xGJ:q0C Tryz.prog D17:=q02 xDo (q02 x45 (q04))
noncomputable def xFj (x:q0f) (y:q0f):=cxN D17 Tryz.f17 [0,1,2,3,4,9,15,21]
noncomputable def qMG (x:q0f):V:=q0J 1 x.state
noncomputable def qMo (y:q0f):V:=q0J 1 y.state
noncomputable def qMs (x:q0f):V:=q0V 1 x.reply
noncomputable def qMu (y:q0f):V:=q0V 1 y.reply
theorem xGq (x:q0f) (y:q0f) (hpre:x4U x y):q0d (xFj x y) Tryz.f17 0 [q0m 1 (x),q0m 1 (y)] (fun rr=>VLe rr (xFR x y)):=by
 have key:((x.code !=y.code)=true→VLe (V.bool false) (V.bool (decide (x=y))))∧((x.code !=y.code)=false→(VLe (qMs x) (q0V 1 (q0q (qMs x)))∧VLe (qMu y) (q0V 1 (q0q (qMu y)))∧x4B (q0q (qMs x)) (q0q (qMu y)))∧((!decide (q0q (qMs x)=q0q (qMu y)))=true→VLe (V.bool false) (V.bool (decide (x=y))))∧((!decide (q0q (qMs x)=q0q (qMu y)))=false→(VLe (qMG x) (q0J 1 (q0B (qMG x)))∧VLe (qMo y) (q0J 1 (q0B (qMo y)))∧qRV (q0B (qMG x)) (q0B (qMo y)))∧((!decide (q0B (qMG x)=q0B (qMo y)))=true→VLe (V.bool false) (V.bool (decide (x=y))))∧((!decide (q0B (qMG x)=q0B (qMo y)))=false→VLe (V.bool true) (V.bool (decide (x=y)))))):=by
  delta qMu;delta qMs;delta qMo;delta qMG;have hp:=hpre;simp only[q4D,q1X];refine⟨fun h=>q0Z ?_,fun h=>⟨⟨VLe.refl _,VLe.refl _,trivial⟩,fun h2=>q0Z ?_,fun h2=>⟨⟨VLe.refl _,VLe.refl _,hp⟩,fun h3=>q0Z ?_,fun h3=>q0Z ?_⟩⟩⟩
  all_goals simp_all [qE1]
 exact Eq.mp (by kernel_rfl) key
theorem xG8:q0R Tryz.prog 17 xBl:=by
 refine sob 0 Tryz.func17 fun args bin ob r bout hDe hob=>?_;unfold xBl at hDe;split at hDe
 ·rename_i a0 a1;cases hDe;exact okB (xGq (q0T a0) (q0T a1) (hob.2.2)) xGJ (args_of_vles ⟨hob.1,hob.2.1,trivial⟩)
 ·cases hDe
def qSc (xs:List q0A):Prop:=xs.length≤q4w∧∀x∈xs,qS7 x
noncomputable def qFX (xs:List q0A):List q0A:=xs
noncomputable def x3S (xs:List q0A):List Blk:=[(.arr 5 (qFX xs).length (gL (q01 1) (qFX xs)) q0l)]
noncomputable def x3n (xs:List q0A):V:=.osl 0 (qFX xs).length
noncomputable def qXw:q0P:=fun args bin=>match args,bin with
 |[a0],[]=>some (VLe a0 (q0D (q01 1) 1 (((q0K q03) a0)))∧qSc ((q0K q03) a0),x3n ((q0K q03) a0),x3S ((q0K q03) a0))
 |_,_=>none
noncomputable def qVG (xs:List q0A):q0M:=
 ⟨Nat×List q0A,fun p=>⟨[(0,q0D (q01 1) 1 xs),(3,.osl (q25 3) xs.length),(4,.int .i64 p.1)],[(q25 3,.arr 5 xs.length (gL (q01 1) p.2) q0l)]⟩,
  fun p=>p.1≤xs.length∧p.2.length=xs.length∧∀j,j<p.1→p.2.getD j default=xs.getD j default,fun p=>xs.length-p.1⟩
noncomputable def x8g (xs:List q0A):Nat→Option q0M:=fun rg_=>match rg_ with
 |3=>some (qVG xs)
 |_=>none
noncomputable def xD4:=lkR [(153,qVW)]
theorem x86:q0C Tryz.prog xD4:=q02 xCU (q04)
noncomputable def xCd (xs:List q0A):=cxL xD4 Tryz.f89 [0,2,3,4,11] [(3,⟨[(0,none),(3,some 5),(4,none)],[]⟩)] (x8g xs) []
theorem xAE (xs:List q0A) (hpre:qSc xs):q3h (xCd xs) Tryz.f89 [(0,5)] [q0D (q01 1) 1 (xs)] [] (fun rr bs=>VLe rr (x3n xs)∧q1y bs (x3S xs)):=by
 have key:(0≤(q0u xs)∧(q0u xs)≤(q0u xs)∧(q0u xs)≤(↑1073741824:Int))∧((∃x:Nat×List q0A,SLe (AS.mk [(0,q0D (q01 1) 1 xs),(3,V.osl 32000256 (q0u xs).toNat),(4,vi 0)] [(32000256,Blk.arr 5 (q0u xs).toNat (fun(x:Nat) ↦ V.agg [V.str (ByteArray.mk #[]),vi 0,vi 0,vi 0,vi 0]) 100)]) (AS.mk [(0,q0D (q01 1) 1 xs),(3,V.osl 32000256 xs.length),(4,vi (↑x.1:Int))] [(32000256,Blk.arr 5 xs.length (gL (q01 1) x.2) 100)])∧qVn xs x)∧∀x:Nat×List q0A,qVn xs x→(decide ((↑x.1:Int)<(q0u xs))=true→(0≤(↑x.1:Int)∧(↑x.1:Int)<(q0u xs))∧(VLe (qPa xs x) (q01 1 (q03 (qPa xs x)))∧qS7 (q03 (qPa xs x)))∧(0≤(↑x.1:Int)∧(↑x.1:Int)<(q0u xs))∧(↑x.1:Int).toNat<xs.length∧(inK IntKind.i64 ((↑x.1:Int)+1)∧∃y:Nat×List q0A,SLe (AS.mk [(0,q0D (q01 1) 1 xs),(3,V.osl 32000256 xs.length),(4,vi ((↑x.1:Int)+1))] [(32000256,Blk.arr 5 xs.length (q65 (gL (q01 1) x.2) (↑x.1:Int).toNat (q01 1 (q03 (qPa xs x)))) 100)]) (AS.mk [(0,q0D (q01 1) 1 xs),(3,V.osl 32000256 xs.length),(4,vi (↑y.1:Int))] [(32000256,Blk.arr 5 xs.length (gL (q01 1) y.2) 100)])∧(Prod.fst y≤xs.length∧(y.2.length=xs.length∧∀j:Nat,j<Prod.fst y→y.2.getD j default=xs.getD j default))∧xs.length-Prod.fst y<xs.length-Prod.fst x))∧(decide ((↑x.1:Int)<(q0u xs))=false→VLe (V.osl 0 xs.length) (V.osl 0 (qFX xs).length)∧BLe (Blk.arr 5 xs.length (gL (q01 1) x.2) 100) (Blk.arr 5 (qFX xs).length (gL (q01 1) (qFX xs)) 100)∧True)):=by
  delta qVn;delta qPa;delta q0u;delta vi;unfold qSc q4w at hpre;obtain⟨hpre,hel⟩:=hpre;refine⟨⟨by omega,by omega,by omega⟩,⟨(0,List.replicate xs.length default),?_,by simp,by simp,fun j hj=>absurd hj (Nat.not_lt_zero j)⟩,?_⟩
  ·refine q1Q ⟨rfl,VLe.refl _,rfl,VLe.refl _,rfl,VLe.refl _,trivial⟩ ⟨rfl,?_,trivial⟩;refine q1P (fun i hi=>?_) (Or.inl rfl);have hi':i<xs.length:=hi;have e1:gL (q01 1) (List.replicate xs.length default) i=(q01 1) default:=by simp[gL,hi']
   rw[e1];exact qMq
  ·rintro⟨i,ys⟩ ⟨hi,hl,hj⟩;simp only at hi hl hj⊢;refine⟨fun h=>?_,fun h=>?_⟩
   ·have hlt:i<xs.length:=by simpa using h
    have hin:xs.getD i default∈xs:=by simp[hlt]
    simp only[q1R,Int.toNat_natCast];refine⟨⟨by omega,by omega⟩,⟨VLe.refl _,hel _ hin⟩,⟨by omega,by omega⟩,by simpa using hlt,q0X (by omega),(i+1,ys.set i (xs.getD i default)),?_,⟨by simp only;omega,by simpa using hl,fun j h2=>?_⟩,by simp only;omega⟩
    ·refine q1Q ⟨rfl,VLe.refl _,rfl,VLe.refl _,rfl,q0I (by simp),trivial⟩ ⟨rfl,?_,trivial⟩;refine q1P (fun k hk=>?_) (Or.inl rfl);simp only[q2F,gL,Int.toNat_natCast];by_cases e:k=i
     ·subst e;rw[if_pos rfl,q27 _ _ _ _ (by omega)];exact qQe _ _ _
     ·rw[if_neg e,q1u _ _ _ _ e];exact ELe.refl _
    ·simp only at h2⊢;by_cases e:j=i
     ·subst e;rw[q27 _ _ _ _ (by omega)]
     ·rw[q1u _ _ _ _ e];exact hj j (by omega)
   ·have hge:i=xs.length:=by simp at h;omega
    refine⟨VLe.refl _,q1P (fun k hk=>?_) (Or.inl rfl),trivial⟩;show ELe _ (gL (q01 1) xs k);simp only[gL];rw[hj k (by omega)];exact ELe.refl _
 exact Eq.mp (by kernel_rfl) key
theorem x8b:q0R Tryz.prog 89 qXw:=by
 refine q0S q77 (tpl:=[(0,5)]) Tryz.func89 rfl (by kernel_rfl) fun args bin ob r bout hDe hob=>?_;unfold qXw at hDe;split at hDe
 ·rename_i a0;cases hDe;exact okQ (xAE ((q0K q03) a0) (hob.2)) x86 (args_of_vles ⟨hob.1,trivial⟩) trivial
 ·cases hDe
def qU2 (xs:List q07):Prop:=xs.length≤q4w∧∀x∈xs,qSS x
noncomputable def qFC (xs:List q07):List q07:=xs
noncomputable def x21 (xs:List q07):List Blk:=[(.arr 2 (qFC xs).length (gL (q00 1) (qFC xs)) q0l)]
noncomputable def x0N (xs:List q07):V:=.osl 0 (qFC xs).length
noncomputable def qX6:q0P:=fun args bin=>match args,bin with
 |[a0],[]=>some (VLe a0 (q0D (q00 1) 1 (((q0K q05) a0)))∧qU2 ((q0K q05) a0),x0N ((q0K q05) a0),x21 ((q0K q05) a0))
 |_,_=>none
noncomputable def qVY (xs:List q07):q0M:=
 ⟨Nat×List q07,fun p=>⟨[(0,q0D (q00 1) 1 xs),(3,.osl (q25 3) xs.length),(4,.int .i64 p.1)],[(q25 3,.arr 2 xs.length (gL (q00 1) p.2) q0l)]⟩,
  fun p=>p.1≤xs.length∧p.2.length=xs.length∧∀j,j<p.1→p.2.getD j default=xs.getD j default,fun p=>xs.length-p.1⟩
noncomputable def x4v (xs:List q07):Nat→Option q0M:=fun rg_=>match rg_ with
 |3=>some (qVY xs)
 |_=>none
noncomputable def xFH:=lkR [(154,qWt)]
theorem x70:q0C Tryz.prog xFH:=q02 x83 (q04)
noncomputable def x5p (xs:List q07):=cxL xFH Tryz.f90 [0,2,3,4,11] [(3,⟨[(0,none),(3,some 2),(4,none)],[]⟩)] (x4v xs) []
theorem x9q (xs:List q07) (hpre:qU2 xs):q3h (x5p xs) Tryz.f90 [(0,2)] [q0D (q00 1) 1 (xs)] [] (fun rr bs=>VLe rr (x0N xs)∧q1y bs (x21 xs)):=by
 have key:(0≤(q1k xs)∧(q1k xs)≤(q1k xs)∧(q1k xs)≤(↑1073741824:Int))∧((∃x:Nat×List q07,SLe (AS.mk [(0,q0D (q00 1) 1 xs),(3,V.osl 32000256 (q1k xs).toNat),(4,vi 0)] [(32000256,Blk.arr 2 (q1k xs).toNat (fun(x:Nat) ↦ V.agg [vi 0,vi 0]) 100)]) (AS.mk [(0,q0D (q00 1) 1 xs),(3,V.osl 32000256 xs.length),(4,vi (↑x.1:Int))] [(32000256,Blk.arr 2 xs.length (gL (q00 1) x.2) 100)])∧qVh xs x)∧∀x:Nat×List q07,qVh xs x→(decide ((↑x.1:Int)<(q1k xs))=true→(0≤(↑x.1:Int)∧(↑x.1:Int)<(q1k xs))∧(VLe (qO8 xs x) (q00 1 (q05 (qO8 xs x)))∧qSS (q05 (qO8 xs x)))∧(0≤(↑x.1:Int)∧(↑x.1:Int)<(q1k xs))∧(↑x.1:Int).toNat<xs.length∧(inK IntKind.i64 ((↑x.1:Int)+1)∧∃y:Nat×List q07,SLe (AS.mk [(0,q0D (q00 1) 1 xs),(3,V.osl 32000256 xs.length),(4,vi ((↑x.1:Int)+1))] [(32000256,Blk.arr 2 xs.length (q65 (gL (q00 1) x.2) (↑x.1:Int).toNat (q00 1 (q05 (qO8 xs x)))) 100)]) (AS.mk [(0,q0D (q00 1) 1 xs),(3,V.osl 32000256 xs.length),(4,vi (↑y.1:Int))] [(32000256,Blk.arr 2 xs.length (gL (q00 1) y.2) 100)])∧(Prod.fst y≤xs.length∧(y.2.length=xs.length∧∀j:Nat,j<Prod.fst y→y.2.getD j default=xs.getD j default))∧xs.length-Prod.fst y<xs.length-Prod.fst x))∧(decide ((↑x.1:Int)<(q1k xs))=false→VLe (V.osl 0 xs.length) (V.osl 0 (qFC xs).length)∧BLe (Blk.arr 2 xs.length (gL (q00 1) x.2) 100) (Blk.arr 2 (qFC xs).length (gL (q00 1) (qFC xs)) 100)∧True)):=by
  delta qVh;delta qO8;delta q1k;delta vi;unfold qU2 q4w at hpre;obtain⟨hpre,hel⟩:=hpre;refine⟨⟨by omega,by omega,by omega⟩,⟨(0,List.replicate xs.length default),?_,by simp,by simp,fun j hj=>absurd hj (Nat.not_lt_zero j)⟩,?_⟩
  ·refine q1Q ⟨rfl,VLe.refl _,rfl,VLe.refl _,rfl,VLe.refl _,trivial⟩ ⟨rfl,?_,trivial⟩;refine q1P (fun i hi=>?_) (Or.inl rfl);have hi':i<xs.length:=hi;have e1:gL (q00 1) (List.replicate xs.length default) i=(q00 1) default:=by simp[gL,hi']
   rw[e1];exact qGo
  ·rintro⟨i,ys⟩ ⟨hi,hl,hj⟩;simp only at hi hl hj⊢;refine⟨fun h=>?_,fun h=>?_⟩
   ·have hlt:i<xs.length:=by simpa using h
    have hin:xs.getD i default∈xs:=by simp[hlt]
    simp only[q2K,Int.toNat_natCast];refine⟨⟨by omega,by omega⟩,⟨VLe.refl _,hel _ hin⟩,⟨by omega,by omega⟩,by simpa using hlt,q0X (by omega),(i+1,ys.set i (xs.getD i default)),?_,⟨by simp only;omega,by simpa using hl,fun j h2=>?_⟩,by simp only;omega⟩
    ·refine q1Q ⟨rfl,VLe.refl _,rfl,VLe.refl _,rfl,q0I (by simp),trivial⟩ ⟨rfl,?_,trivial⟩;refine q1P (fun k hk=>?_) (Or.inl rfl);simp only[q2F,gL,Int.toNat_natCast];by_cases e:k=i
     ·subst e;rw[if_pos rfl,q27 _ _ _ _ (by omega)];exact qJ7 _ _ _
     ·rw[if_neg e,q1u _ _ _ _ e];exact ELe.refl _
    ·simp only at h2⊢;by_cases e:j=i
     ·subst e;rw[q27 _ _ _ _ (by omega)]
     ·rw[q1u _ _ _ _ e];exact hj j (by omega)
   ·have hge:i=xs.length:=by simp at h;omega
    refine⟨VLe.refl _,q1P (fun k hk=>?_) (Or.inl rfl),trivial⟩;show ELe _ (gL (q00 1) xs k);simp only[gL];rw[hj k (by omega)];exact ELe.refl _
 exact Eq.mp (by kernel_rfl) key
theorem xAP:q0R Tryz.prog 90 qX6:=by
 refine q0S q77 (tpl:=[(0,2)]) Tryz.func90 rfl (by kernel_rfl) fun args bin ob r bout hDe hob=>?_;unfold qX6 at hDe;split at hDe
 ·rename_i a0;cases hDe;exact okQ (x9q ((q0K q05) a0) (hob.2)) x70 (args_of_vles ⟨hob.1,trivial⟩) trivial
 ·cases hDe
def qTK (xs:List q0U):Prop:=xs.length≤q4w∧∀x∈xs,qTw x
noncomputable def qFB (xs:List q0U):List q0U:=xs
noncomputable def x0D (xs:List q0U):List Blk:=[(.arr 5 (qFB xs).length (gL (q09 1) (qFB xs)) q0l)]
noncomputable def x4A (xs:List q0U):V:=.osl 0 (qFB xs).length
noncomputable def qYg:q0P:=fun args bin=>match args,bin with
 |[a0],[]=>some (VLe a0 (q0D (q09 1) 1 (((q0K q0H) a0)))∧qTK ((q0K q0H) a0),x4A ((q0K q0H) a0),x0D ((q0K q0H) a0))
 |_,_=>none
noncomputable def qYn (xs:List q0U):q0M:=
 ⟨Nat×List q0U,fun p=>⟨[(0,q0D (q09 1) 1 xs),(3,.osl (q25 3) xs.length),(4,.int .i64 p.1)],[(q25 3,.arr 5 xs.length (gL (q09 1) p.2) q0l)]⟩,
  fun p=>p.1≤xs.length∧p.2.length=xs.length∧∀j,j<p.1→p.2.getD j default=xs.getD j default,fun p=>xs.length-p.1⟩
noncomputable def x9j (xs:List q0U):Nat→Option q0M:=fun rg_=>match rg_ with
 |3=>some (qYn xs)
 |_=>none
noncomputable def xDH:=lkR [(155,qYN)]
theorem x7f:q0C Tryz.prog xDH:=q02 x9v (q04)
noncomputable def xCM (xs:List q0U):=cxL xDH Tryz.f91 [0,2,3,4,11] [(3,⟨[(0,none),(3,some 5),(4,none)],[]⟩)] (x9j xs) []
theorem x8T (xs:List q0U) (hpre:qTK xs):q3h (xCM xs) Tryz.f91 [(0,5)] [q0D (q09 1) 1 (xs)] [] (fun rr bs=>VLe rr (x4A xs)∧q1y bs (x0D xs)):=by
 have key:(0≤(q4O xs)∧(q4O xs)≤(q4O xs)∧(q4O xs)≤(↑1073741824:Int))∧((∃x:Nat×List q0U,SLe (AS.mk [(0,q0D (q09 1) 1 xs),(3,V.osl 32000256 (q4O xs).toNat),(4,vi 0)] [(32000256,Blk.arr 5 (q4O xs).toNat (fun(x:Nat) ↦ V.agg [vi 0,vi 0,vi 0,vi 0,V.str (ByteArray.mk #[])]) 100)]) (AS.mk [(0,q0D (q09 1) 1 xs),(3,V.osl 32000256 xs.length),(4,vi (↑x.1:Int))] [(32000256,Blk.arr 5 xs.length (gL (q09 1) x.2) 100)])∧qVk xs x)∧∀x:Nat×List q0U,qVk xs x→(decide ((↑x.1:Int)<(q4O xs))=true→(0≤(↑x.1:Int)∧(↑x.1:Int)<(q4O xs))∧(VLe (qPj xs x) (q09 1 (q0H (qPj xs x)))∧qTw (q0H (qPj xs x)))∧(0≤(↑x.1:Int)∧(↑x.1:Int)<(q4O xs))∧(↑x.1:Int).toNat<xs.length∧(inK IntKind.i64 ((↑x.1:Int)+1)∧∃y:Nat×List q0U,SLe (AS.mk [(0,q0D (q09 1) 1 xs),(3,V.osl 32000256 xs.length),(4,vi ((↑x.1:Int)+1))] [(32000256,Blk.arr 5 xs.length (q65 (gL (q09 1) x.2) (↑x.1:Int).toNat (q09 1 (q0H (qPj xs x)))) 100)]) (AS.mk [(0,q0D (q09 1) 1 xs),(3,V.osl 32000256 xs.length),(4,vi (↑y.1:Int))] [(32000256,Blk.arr 5 xs.length (gL (q09 1) y.2) 100)])∧(Prod.fst y≤xs.length∧(y.2.length=xs.length∧∀j:Nat,j<Prod.fst y→y.2.getD j default=xs.getD j default))∧xs.length-Prod.fst y<xs.length-Prod.fst x))∧(decide ((↑x.1:Int)<(q4O xs))=false→VLe (V.osl 0 xs.length) (V.osl 0 (qFB xs).length)∧BLe (Blk.arr 5 xs.length (gL (q09 1) x.2) 100) (Blk.arr 5 (qFB xs).length (gL (q09 1) (qFB xs)) 100)∧True)):=by
  delta qVk;delta qPj;delta q4O;delta vi;unfold qTK q4w at hpre;obtain⟨hpre,hel⟩:=hpre;refine⟨⟨by omega,by omega,by omega⟩,⟨(0,List.replicate xs.length default),?_,by simp,by simp,fun j hj=>absurd hj (Nat.not_lt_zero j)⟩,?_⟩
  ·refine q1Q ⟨rfl,VLe.refl _,rfl,VLe.refl _,rfl,VLe.refl _,trivial⟩ ⟨rfl,?_,trivial⟩;refine q1P (fun i hi=>?_) (Or.inl rfl);have hi':i<xs.length:=hi;have e1:gL (q09 1) (List.replicate xs.length default) i=(q09 1) default:=by simp[gL,hi']
   rw[e1];exact qMK
  ·rintro⟨i,ys⟩ ⟨hi,hl,hj⟩;simp only at hi hl hj⊢;refine⟨fun h=>?_,fun h=>?_⟩
   ·have hlt:i<xs.length:=by simpa using h
    have hin:xs.getD i default∈xs:=by simp[hlt]
    simp only[q2h,Int.toNat_natCast];refine⟨⟨by omega,by omega⟩,⟨VLe.refl _,hel _ hin⟩,⟨by omega,by omega⟩,by simpa using hlt,q0X (by omega),(i+1,ys.set i (xs.getD i default)),?_,⟨by simp only;omega,by simpa using hl,fun j h2=>?_⟩,by simp only;omega⟩
    ·refine q1Q ⟨rfl,VLe.refl _,rfl,VLe.refl _,rfl,q0I (by simp),trivial⟩ ⟨rfl,?_,trivial⟩;refine q1P (fun k hk=>?_) (Or.inl rfl);simp only[q2F,gL,Int.toNat_natCast];by_cases e:k=i
     ·subst e;rw[if_pos rfl,q27 _ _ _ _ (by omega)];exact qQr _ _ _
     ·rw[if_neg e,q1u _ _ _ _ e];exact ELe.refl _
    ·simp only at h2⊢;by_cases e:j=i
     ·subst e;rw[q27 _ _ _ _ (by omega)]
     ·rw[q1u _ _ _ _ e];exact hj j (by omega)
   ·have hge:i=xs.length:=by simp at h;omega
    refine⟨VLe.refl _,q1P (fun k hk=>?_) (Or.inl rfl),trivial⟩;show ELe _ (gL (q09 1) xs k);simp only[gL];rw[hj k (by omega)];exact ELe.refl _
 exact Eq.mp (by kernel_rfl) key
theorem x4Z:q0R Tryz.prog 91 qYg:=by
 refine q0S q77 (tpl:=[(0,5)]) Tryz.func91 rfl (by kernel_rfl) fun args bin ob r bout hDe hob=>?_;unfold qYg at hDe;split at hDe
 ·rename_i a0;cases hDe;exact okQ (x8T ((q0K q0H) a0) (hob.2)) x7f (args_of_vles ⟨hob.1,trivial⟩) trivial
 ·cases hDe
def qSK (s:q06):Prop:=s.nodes.length≤q4w∧s.sessions.length≤q4w∧s.marks.length≤q4w
noncomputable def q6Y (s:q06):q06:=s
noncomputable def qZd (s:q06):List Blk:=[(.arr 5 ((q6Y s).nodes).length (gL (q01 1) ((q6Y s).nodes)) q0l),(.arr 2 ((q6Y s).sessions).length (gL (q00 1) ((q6Y s).sessions)) q0l),(.arr 5 ((q6Y s).marks).length (gL (q09 1) ((q6Y s).marks)) q0l)]
noncomputable def x3J (s:q06):V:=.agg [.osl 0 ((q6Y s).nodes).length,.osl 1 ((q6Y s).sessions).length,.int .i64 ((q6Y s).now),.osl 2 ((q6Y s).marks).length]
noncomputable def qXp:q0P:=fun args bin=>match args,bin with
 |[a0],[]=>some (VLe a0 (q0J 1 ((q0B a0)))∧qSK (q0B a0),x3J (q0B a0),qZd (q0B a0))
 |_,_=>none
noncomputable def xD5:=lkR [(89,qXw),(90,qX6),(91,qYg)]
theorem x5L:q0C Tryz.prog xD5:=q02 x8b (q02 xAP (q02 x4Z (q04)))
noncomputable def x75 (s:q06):=cxN xD5 Tryz.f34 [0,1,2,3]
theorem xBG (s:q06) (hpre:qSK s):q3h (x75 s) Tryz.f34 [(0,5),(1,2),(3,5)] [q0J 1 (s)] [] (fun rr bs=>VLe rr (x3J s)∧q1y bs (qZd s)):=by
 have key:(VLe (q0D (q01 1) 1 s.nodes) (q0D (q01 1) 1 (q1F s))∧qSc (q1F s))∧(VLe (q0D (q00 1) 1 s.sessions) (q0D (q00 1) 1 (q1G s))∧qU2 (q1G s))∧(VLe (q0D (q09 1) 1 s.marks) (q0D (q09 1) 1 (q4a s))∧qTK (q4a s))∧VLe (V.agg [V.osl 0 (qFX (q1F s)).length,V.osl 1 (qFC (q1G s)).length,vi s.now,V.osl 2 (qFB (q4a s)).length]) (V.agg [V.osl 0 (q6Y s).nodes.length,V.osl 1 (q6Y s).sessions.length,vi (q6Y s).now,V.osl 2 (q6Y s).marks.length])∧BLe (Blk.arr 5 (qFX (q1F s)).length (gL (q01 1) (qFX (q1F s))) 100) (Blk.arr 5 (q6Y s).nodes.length (gL (q01 1) (q6Y s).nodes) 100)∧BLe (Blk.arr 2 (qFC (q1G s)).length (gL (q00 1) (qFC (q1G s))) 100) (Blk.arr 2 (q6Y s).sessions.length (gL (q00 1) (q6Y s).sessions) 100)∧BLe (Blk.arr 5 (qFB (q4a s)).length (gL (q09 1) (qFB (q4a s))) 100) (Blk.arr 5 (q6Y s).marks.length (gL (q09 1) (q6Y s).marks) 100)∧True:=by
  delta q4a;delta q1F;delta q1G;delta vi;obtain⟨hn,hs,hk⟩:=hpre;simp only[q0o,q0p,q2i];exact⟨⟨VLe.refl _,hn,fun _ _=>trivial⟩,⟨VLe.refl _,hs,fun _ _=>trivial⟩,⟨VLe.refl _,hk,fun _ _=>trivial⟩,VLe.refl _,BLe.refl _,BLe.refl _,BLe.refl _,trivial⟩
 exact Eq.mp (by kernel_rfl) key
theorem x51:q0R Tryz.prog 34 qXp:=by
 refine q0S q77 (tpl:=[(0,5),(1,2),(3,5)]) Tryz.func34 rfl (by kernel_rfl) fun args bin ob r bout hDe hob=>?_;unfold qXp at hDe;split at hDe
 ·rename_i a0;cases hDe;exact okQ (xBG (q0B a0) (hob.2)) x5L (args_of_vles ⟨hob.1,trivial⟩) trivial
 ·cases hDe
def x4C (x:TOp):Prop:=True
noncomputable def xDt (x:TOp):V:=q0Q 2 (x)
noncomputable def x9Y:q0P:=fun args bin=>match args,bin with
 |[a0],[]=>some (VLe a0 (q0Q 1 ((q0a a0)))∧x4C (q0a a0),xDt (q0a a0),[])
 |_,_=>none
noncomputable def D50:=lkR []
theorem xHK:q0C Tryz.prog D50:=q04
noncomputable def xHD (x:TOp):=cxN D50 Tryz.f50 [0,1,2,3]
theorem xG0 (x:TOp) (hpre:x4C x):q0d (xHD x) Tryz.f50 1 [q0Q 1 (x)] (fun rr=>VLe rr (xDt x)):=by
 have key:VLe (q0Q 1 x) (q0Q 1 x):=by
  exact q21 ⟨VLe.refl _,VLe.refl _,VLe.refl _,VLe.refl _,VLe.refl _,VLe.refl _,trivial⟩
 exact Eq.mp (by kernel_rfl) key
theorem xGd:q0R Tryz.prog 50 x9Y:=by
 refine sob 1 Tryz.func50 fun args bin ob r bout hDe hob=>?_;unfold x9Y at hDe;split at hDe
 ·rename_i a0;cases hDe;exact okB (xG0 (q0a a0) (hob.2)) xHK (args_of_vles ⟨hob.1,trivial⟩)
 ·cases hDe
theorem qSb (c rc rv t k k1 k2:Int) (p:ByteArray) (n m l:Nat):q0T (.agg [.int .i64 c,.int .i64 rc,.int .i64 rv,.str p,.sl n (gL (q01 1) (zMk k n)) 1,.sl m (gL (q00 1) (q92 k1 m)) 1,.int .i64 t,.sl l (gL (q09 1) (q94 k2 l)) 1])=⟨c,⟨rc,rv,p⟩,⟨zMk k n,q92 k1 m,t,q94 k2 l⟩⟩:=by
 show(⟨c,⟨rc,rv,p⟩,⟨q0K q03 (.sl n (gL (q01 1) (zMk k n)) 1),q0K q05 (.sl m (gL (q00 1) (q92 k1 m)) 1),t,q0K q0H (.sl l (gL (q09 1) (q94 k2 l)) 1)⟩⟩:q0f)=_;rw[qU0,qPN,qQF]
theorem qS4 (c rc rv t k k1 k2:Int) (p:ByteArray) (n m l:Nat):VLe (.agg [.int .i64 c,.int .i64 rc,.int .i64 rv,.str p,.sl n (gL (q01 1) (zMk k n)) 1,.sl m (gL (q00 1) (q92 k1 m)) 1,.int .i64 t,.sl l (gL (q09 1) (q94 k2 l)) 1]) (q0m 1 ⟨c,⟨rc,rv,p⟩,⟨zMk k n,q92 k1 m,t,q94 k2 l⟩⟩):=
 q21 ⟨VLe.refl _,VLe.refl _,VLe.refl _,VLe.refl _,qVa k n 1,qSt k1 m 1,VLe.refl _,qTk k2 l 1,trivial⟩
theorem qOn (k t:Int) (n m l:Nat):q43 ⟨zMk k n,q92 (k+5*n) m,t,q94 (k+5*n+2*m) l⟩ k=k+5*n+2*m+5*l:=by
 unfold q43 qFE;simp
theorem qSj:ELe (.agg [.int .i64 0,.str ⟨#[]⟩,.int .i64 0,.int .i64 0,.bool false,.bool false]) (q0Q 1 default):=ELe.refl _
def q5M (x:TOp) (left:Int):Int:=q3j x.path.size left
theorem qTQ (x:TOp) (left:Int):q5M x left≤left∨q5M x left<0:=q8m _ _
def qWM (x:TOp) (left:Int):Prop:=0≤left∧left≤q4w∧x.bd
noncomputable def qZP (x:TOp) (left:Int):V:=.int .i64 (q5M x left)
noncomputable def qXb:q0P:=fun args bin=>match args,bin with
 |[a0,.int .i64 a1],[]=>some (VLe a0 (q0Q 1 ((q0a a0)))∧qWM (q0a a0) a1,qZP (q0a a0) a1,[])
 |_,_=>none
noncomputable def xFF:=lkR []
theorem xAD:q0C Tryz.prog xFF:=q04
noncomputable def xAY (x:TOp) (left:Int):=cxN xFF Tryz.f49 [0,1,2,4,11]
theorem x73 (x:TOp) (left:Int) (hpre:qWM x left):q0d (xAY x left) Tryz.f49 0 [q0Q 1 (x),.int .i64 (left)] (fun rr=>VLe rr (qZP x left)):=by
 have key:inK IntKind.i64 (left-(↑ x.path.size:Int))∧(decide (left-(↑ x.path.size:Int)<0)=true→VLe (vi (-1)) (vi (q5M x left)))∧(decide (left-(↑ x.path.size:Int)<0)=false→VLe (vi (left-(↑ x.path.size:Int))) (vi (q5M x left))):=by
  delta vi;obtain⟨h0,hm,hb⟩:=hpre;unfold q4w at hm;unfold TOp.bd maxLen at hb;refine⟨q0X (by omega),fun h=>?_,fun h=>?_⟩
  ·exact q0I (by unfold q5M q3j;rw[if_pos (of_decide_eq_true h)])
  ·exact q0I (by unfold q5M q3j;rw[if_neg (of_decide_eq_false h)])
 exact Eq.mp (by kernel_rfl) key
theorem x5V:q0R Tryz.prog 49 qXb:=by
 refine sob 0 Tryz.func49 fun args bin ob r bout hDe hob=>?_;unfold qXb at hDe;split at hDe
 ·rename_i a0 a1;cases hDe;exact okB (x73 (q0a a0) a1 (hob.2)) xAD (args_of_vles ⟨hob.1,VLe.refl _,trivial⟩)
 ·cases hDe
def xB4 (xs:List TOp) (left:Int):Prop:=0≤left∧left≤q4w∧xs.length≤maxLen∧∀x∈xs,x.bd
noncomputable def xDU (xs:List TOp) (left:Int):V:=.int .i64 (szS q5M xs left)
noncomputable def x9g:q0P:=fun args bin=>match args,bin with
 |[a0,.int .i64 a1],[]=>some (VLe a0 (q0D (q0Q 1) 1 (((q0K q0a) a0)))∧xB4 ((q0K q0a) a0) a1,xDU ((q0K q0a) a0) a1,[])
 |_,_=>none
noncomputable def x0j (xs:List TOp) (left:Int):q0M:=
 ⟨Nat×Int,fun p=>⟨[(0,q0D (q0Q 1) 1 xs),(1,.int .i64 p.2),(5,.int .i64 p.1)],[]⟩,
  fun p=>p.1≤xs.length∧0≤p.2∧p.2≤left∧szS q5M xs left=szA q5M (xs.drop p.1) p.2,fun p=>xs.length-p.1⟩
noncomputable def xFt (xs:List TOp) (left:Int):Nat→Option q0M:=fun rg_=>match rg_ with
 |5=>some (x0j xs left)
 |_=>none
noncomputable def D86:=lkR [(49,qXb)]
theorem xGY:q0C Tryz.prog D86:=q02 x5V (q04)
noncomputable def xG2 (xs:List TOp) (left:Int):=cxL D86 Tryz.f86 [0,1,4,5,11,15,25] [(5,⟨[(0,none),(1,none),(5,none)],[]⟩)] (xFt xs left) []
noncomputable def qIs (xs:List TOp) (x:Nat×Int):V:=q0Q 1 (xs.getD (↑x.1:Int).toNat default)
def qXf (xs:List TOp) (left:Int) (x:Nat×Int):Prop:=Prod.fst x≤xs.length∧(0:Int)≤Prod.snd x∧Prod.snd x≤left∧szS q5M xs left=szA q5M (List.drop x.1 xs) x.2
theorem xHB (xs:List TOp) (left:Int) (hpre:xB4 xs left):q0d (xG2 xs left) Tryz.f86 0 [q0D (q0Q 1) 1 (xs),.int .i64 (left)] (fun rr=>VLe rr (xDU xs left)):=by
 have key:inK IntKind.i64 (left-(q0s xs))∧(decide (left-(q0s xs)<0)=true→VLe (vi (-1)) (vi (szS q5M xs left)))∧(decide (left-(q0s xs)<0)=false→((∃x:Nat×Int,SLe (AS.mk [(0,q0D (q0Q 1) 1 xs),(1,vi (left-(q0s xs))),(5,vi 0)] []) (AS.mk [(0,q0D (q0Q 1) 1 xs),(1,vi x.2),(5,vi (↑x.1:Int))] [])∧qXf xs left x)∧∀x:Nat×Int,qXf xs left x→(decide ((↑x.1:Int)<(q0s xs))=true→(0≤(↑x.1:Int)∧(↑x.1:Int)<(q0s xs))∧(VLe (qIs xs x) (q0Q 1 (q0a (qIs xs x)))∧qWM (q0a (qIs xs x)) x.2)∧(decide (q5M (q0a (qIs xs x)) x.2<(0:Int))=true→VLe (vi (-1)) (vi (szS q5M xs left)))∧(decide (q5M (q0a (qIs xs x)) x.2<(0:Int))=false→(inK IntKind.i64 ((↑x.1:Int)+1)∧∃y:Nat×Int,SLe (AS.mk [(0,q0D (q0Q 1) 1 xs),(1,vi (q5M (q0a (qIs xs x)) x.2)),(5,vi ((↑x.1:Int)+1))] []) (AS.mk [(0,q0D (q0Q 1) 1 xs),(1,vi y.2),(5,vi (↑y.1:Int))] [])∧(Prod.fst y≤xs.length∧(0:Int)≤Prod.snd y∧Prod.snd y≤left∧szS q5M xs left=szA q5M (List.drop y.1 xs) y.2)∧xs.length-Prod.fst y<xs.length-Prod.fst x)))∧(decide ((↑x.1:Int)<(q0s xs))=false→VLe (vi x.2) (vi (szS q5M xs left))))):=by
  delta qXf;delta q0s;delta qIs;delta vi;obtain⟨h0,hm,hl,hb⟩:=hpre;unfold q4w at hm;unfold maxLen at hl;refine⟨q0X (by omega),fun h=>q0I (qJQ (of_decide_eq_true h)).symm,fun h=>?_⟩;have h':=of_decide_eq_false h;refine⟨⟨(0,left-xs.length),SLe.refl _,Nat.zero_le _,by simp only;omega,by simp only;omega,qJ1 h'⟩,?_⟩;rintro⟨i,v⟩ ⟨h1,h2,h3,h4⟩;simp only at h1 h2 h3 h4⊢;refine⟨fun h=>?_,fun h=>?_⟩
  ·have hlt:i<xs.length:=by simpa using h
   have hin:xs.getD i default∈xs:=by simp[hlt]
   have e:=qG4 q5M hlt v;have hle:=qTQ (xs.getD i default) v;simp only[q4G,Int.toNat_natCast];refine⟨⟨by omega,by omega⟩,⟨VLe.refl _,by omega,by unfold q4w;omega,hb _ hin⟩,fun h5=>?_,fun h5=>?_⟩
   ·have h6:=of_decide_eq_true h5;exact q0I (by rw[h4,e,if_pos h6])
   ·have h6:=of_decide_eq_false h5;exact⟨q0X (by omega),(i+1,q5M (xs.getD i default) v),SLe.refl _,⟨by simp only;omega,by simp only;omega,by simp only;omega,by rw[h4,e,if_neg h6]⟩,by simp only;omega⟩
  ·have hge:i=xs.length:=by simp at h;omega
   refine q0I ?_;rw[h4,hge,List.drop_length];rfl
 exact Eq.mp (by kernel_rfl) key
theorem xGe:q0R Tryz.prog 86 x9g:=by
 refine sob 0 Tryz.func86 fun args bin ob r bout hDe hob=>?_;unfold x9g at hDe;split at hDe
 ·rename_i a0 a1;cases hDe;exact okB (xHB ((q0K q0a) a0) a1 (hob.2)) xGY (args_of_vles ⟨hob.1,VLe.refl _,trivial⟩)
 ·cases hDe
noncomputable def q9n (r:q0E) (left:Int):Int:=if szS q5M r.ops left<0 then -1 else szS q5M r.ops left
def x8s (x:q0E) (left:Int):Prop:=0≤left∧left≤q4w∧x.bd
noncomputable def xEj (x:q0E) (left:Int):V:=.int .i64 (q9n x left)
noncomputable def x6f:q0P:=fun args bin=>match args,bin with
 |[a0,.int .i64 a1],[]=>some (VLe a0 (q0t 1 ((q0N a0)))∧x8s (q0N a0) a1,xEj (q0N a0) a1,[])
 |_,_=>none
noncomputable def D32:=lkR [(86,x9g)]
theorem xGN:q0C Tryz.prog D32:=q02 xGe (q04)
noncomputable def xHH (x:q0E) (left:Int):=cxN D32 Tryz.f32 [0,1,2,4,10]
noncomputable def qBr (x:q0E):List TOp:=q0K q0a (q0D (q0Q 1) 1 x.ops)
theorem xGP (x:q0E) (left:Int) (hpre:x8s x left):q0d (xHH x left) Tryz.f32 0 [q0t 1 (x),.int .i64 (left)] (fun rr=>VLe rr (xEj x left)):=by
 have key:(VLe (q0D (q0Q 1) 1 x.ops) (q0D (q0Q 1) 1 (qBr x))∧xB4 (qBr x) left)∧(decide (szS q5M (qBr x) left<(0:Int))=true→VLe (vi (-1)) (vi (q9n x left)))∧(decide (szS q5M (qBr x) left<(0:Int))=false→VLe (vi (szS q5M (qBr x) left)) (vi (q9n x left))):=by
  delta qBr;delta vi;obtain⟨h0,hm,hb⟩:=hpre;simp only[q9m];refine⟨⟨VLe.refl _,h0,hm,hb⟩,fun h=>?_,fun h=>?_⟩
  ·exact q0I (by unfold q9n;rw[if_pos (of_decide_eq_true h)])
  ·exact q0I (by unfold q9n;rw[if_neg (of_decide_eq_false h)])
 exact Eq.mp (by kernel_rfl) key
theorem xG1:q0R Tryz.prog 32 x6f:=by
 refine sob 0 Tryz.func32 fun args bin ob r bout hDe hob=>?_;unfold x6f at hDe;split at hDe
 ·rename_i a0 a1;cases hDe;exact okB (xGP (q0N a0) a1 (hob.2)) xGN (args_of_vles ⟨hob.1,VLe.refl _,trivial⟩)
 ·cases hDe
def qSp (xs:List TOp):Prop:=xs.length≤q4w∧∀x∈xs,x4C x
noncomputable def qGV (xs:List TOp):List TOp:=xs
noncomputable def qZz (xs:List TOp):List Blk:=[(.arr 6 (qGV xs).length (gL (q0Q 1) (qGV xs)) q0l)]
noncomputable def x0l (xs:List TOp):V:=.osl 0 (qGV xs).length
noncomputable def qWJ:q0P:=fun args bin=>match args,bin with
 |[a0],[]=>some (VLe a0 (q0D (q0Q 1) 1 (((q0K q0a) a0)))∧qSp ((q0K q0a) a0),x0l ((q0K q0a) a0),qZz ((q0K q0a) a0))
 |_,_=>none
noncomputable def qYL (xs:List TOp):q0M:=
 ⟨Nat×List TOp,fun p=>⟨[(0,q0D (q0Q 1) 1 xs),(3,.osl (q25 3) xs.length),(4,.int .i64 p.1)],[(q25 3,.arr 6 xs.length (gL (q0Q 1) p.2) q0l)]⟩,
  fun p=>p.1≤xs.length∧p.2.length=xs.length∧∀j,j<p.1→p.2.getD j default=xs.getD j default,fun p=>xs.length-p.1⟩
noncomputable def xCC (xs:List TOp):Nat→Option q0M:=fun rg_=>match rg_ with
 |3=>some (qYL xs)
 |_=>none
noncomputable def xE1:=lkR [(50,x9Y)]
theorem xAc:q0C Tryz.prog xE1:=q02 xGd (q04)
noncomputable def x8l (xs:List TOp):=cxL xE1 Tryz.f92 [0,2,3,4,11] [(3,⟨[(0,none),(3,some 6),(4,none)],[]⟩)] (xCC xs) []
def qP7 (xs:List TOp) (x:Nat×List TOp):Prop:=Prod.fst x≤xs.length∧(x.2.length=xs.length∧∀j:Nat,j<Prod.fst x→x.2.getD j default=xs.getD j default)
noncomputable def qId (xs:List TOp) (x:Nat×List TOp):V:=q0Q 1 (xs.getD (↑x.1:Int).toNat default)
theorem x5f (xs:List TOp) (hpre:qSp xs):q3h (x8l xs) Tryz.f92 [(0,6)] [q0D (q0Q 1) 1 (xs)] [] (fun rr bs=>VLe rr (x0l xs)∧q1y bs (qZz xs)):=by
 have key:(0≤(q0s xs)∧(q0s xs)≤(q0s xs)∧(q0s xs)≤(↑1073741824:Int))∧((∃x:Nat×List TOp,SLe (AS.mk [(0,q0D (q0Q 1) 1 xs),(3,V.osl 32000256 (q0s xs).toNat),(4,vi 0)] [(32000256,Blk.arr 6 (q0s xs).toNat (fun(x:Nat) ↦ V.agg [vi 0,V.str (ByteArray.mk #[]),vi 0,vi 0,V.bool false,V.bool false]) 100)]) (AS.mk [(0,q0D (q0Q 1) 1 xs),(3,V.osl 32000256 xs.length),(4,vi (↑x.1:Int))] [(32000256,Blk.arr 6 xs.length (gL (q0Q 1) x.2) 100)])∧qP7 xs x)∧∀x:Nat×List TOp,qP7 xs x→(decide ((↑x.1:Int)<(q0s xs))=true→(0≤(↑x.1:Int)∧(↑x.1:Int)<(q0s xs))∧(VLe (qId xs x) (q0Q 1 (q0a (qId xs x)))∧x4C (q0a (qId xs x)))∧(0≤(↑x.1:Int)∧(↑x.1:Int)<(q0s xs))∧(↑x.1:Int).toNat<xs.length∧(inK IntKind.i64 ((↑x.1:Int)+1)∧∃y:Nat×List TOp,SLe (AS.mk [(0,q0D (q0Q 1) 1 xs),(3,V.osl 32000256 xs.length),(4,vi ((↑x.1:Int)+1))] [(32000256,Blk.arr 6 xs.length (q65 (gL (q0Q 1) x.2) (↑x.1:Int).toNat (q0Q 1 (q0a (qId xs x)))) 100)]) (AS.mk [(0,q0D (q0Q 1) 1 xs),(3,V.osl 32000256 xs.length),(4,vi (↑y.1:Int))] [(32000256,Blk.arr 6 xs.length (gL (q0Q 1) y.2) 100)])∧(Prod.fst y≤xs.length∧(y.2.length=xs.length∧∀j:Nat,j<Prod.fst y→y.2.getD j default=xs.getD j default))∧xs.length-Prod.fst y<xs.length-Prod.fst x))∧(decide ((↑x.1:Int)<(q0s xs))=false→VLe (V.osl 0 xs.length) (V.osl 0 (qGV xs).length)∧BLe (Blk.arr 6 xs.length (gL (q0Q 1) x.2) 100) (Blk.arr 6 (qGV xs).length (gL (q0Q 1) (qGV xs)) 100)∧True)):=by
  delta qId;delta qP7;delta q0s;delta vi;unfold qSp q4w at hpre;obtain⟨hpre,hel⟩:=hpre;refine⟨⟨by omega,by omega,by omega⟩,⟨(0,List.replicate xs.length default),?_,by simp,by simp,fun j hj=>absurd hj (Nat.not_lt_zero j)⟩,?_⟩
  ·refine q1Q ⟨rfl,VLe.refl _,rfl,VLe.refl _,rfl,VLe.refl _,trivial⟩ ⟨rfl,?_,trivial⟩;refine q1P (fun i hi=>?_) (Or.inl rfl);have hi':i<xs.length:=hi;have e1:gL (q0Q 1) (List.replicate xs.length default) i=(q0Q 1) default:=by simp[gL,hi']
   rw[e1];exact qSj
  ·rintro⟨i,ys⟩ ⟨hi,hl,hj⟩;simp only at hi hl hj⊢;refine⟨fun h=>?_,fun h=>?_⟩
   ·have hlt:i<xs.length:=by simpa using h
    have hin:xs.getD i default∈xs:=by simp[hlt]
    simp only[q4G,Int.toNat_natCast];refine⟨⟨by omega,by omega⟩,⟨VLe.refl _,hel _ hin⟩,⟨by omega,by omega⟩,by simpa using hlt,q0X (by omega),(i+1,ys.set i (xs.getD i default)),?_,⟨by simp only;omega,by simpa using hl,fun j h2=>?_⟩,by simp only;omega⟩
    ·refine q1Q ⟨rfl,VLe.refl _,rfl,VLe.refl _,rfl,q0I (by simp),trivial⟩ ⟨rfl,?_,trivial⟩;refine q1P (fun k hk=>?_) (Or.inl rfl);simp only[q2F,gL,Int.toNat_natCast];by_cases e:k=i
     ·subst e;rw[if_pos rfl,q27 _ _ _ _ (by omega)];exact qVg _ _ _
     ·rw[if_neg e,q1u _ _ _ _ e];exact ELe.refl _
    ·simp only at h2⊢;by_cases e:j=i
     ·subst e;rw[q27 _ _ _ _ (by omega)]
     ·rw[q1u _ _ _ _ e];exact hj j (by omega)
   ·have hge:i=xs.length:=by simp at h;omega
    refine⟨VLe.refl _,q1P (fun k hk=>?_) (Or.inl rfl),trivial⟩;show ELe _ (gL (q0Q 1) xs k);simp only[gL];rw[hj k (by omega)];exact ELe.refl _
 exact Eq.mp (by kernel_rfl) key
theorem x9m:q0R Tryz.prog 92 qWJ:=by
 refine q0S q77 (tpl:=[(0,6)]) Tryz.func92 rfl (by kernel_rfl) fun args bin ob r bout hDe hob=>?_;unfold qWJ at hDe;split at hDe
 ·rename_i a0;cases hDe;exact okQ (x5f ((q0K q0a) a0) (hob.2)) xAc (args_of_vles ⟨hob.1,trivial⟩) trivial
 ·cases hDe
def qTP (x:q0E):Prop:=x.ops.length≤q4w
noncomputable def qA7 (x:q0E):q0E:=x
noncomputable def x0K (x:q0E):List Blk:=[(.arr 6 ((qA7 x).ops).length (gL (q0Q 1) ((qA7 x).ops)) q0l)]
noncomputable def qZy (x:q0E):V:=.agg [.int .i64 ((qA7 x).client),.int .i64 ((qA7 x).number),.int .i64 ((qA7 x).time),.osl 0 ((qA7 x).ops).length]
noncomputable def qWD:q0P:=fun args bin=>match args,bin with
 |[a0],[]=>some (VLe a0 (q0t 1 ((q0N a0)))∧qTP (q0N a0),qZy (q0N a0),x0K (q0N a0))
 |_,_=>none
noncomputable def xFN:=lkR [(92,qWJ)]
theorem x6a:q0C Tryz.prog xFN:=q02 x9m (q04)
noncomputable def xBT (x:q0E):=cxN xFN Tryz.f35 [0,1,2,3]
theorem xAa (x:q0E) (hpre:qTP x):q3h (xBT x) Tryz.f35 [(3,6)] [q0t 1 (x)] [] (fun rr bs=>VLe rr (qZy x)∧q1y bs (x0K x)):=by
 have key:(VLe (q0D (q0Q 1) 1 x.ops) (q0D (q0Q 1) 1 (qBr x))∧qSp (qBr x))∧VLe (V.agg [vi x.client,vi x.number,vi x.time,V.osl 0 (qGV (qBr x)).length]) (V.agg [vi (qA7 x).client,vi (qA7 x).number,vi (qA7 x).time,V.osl 0 (qA7 x).ops.length])∧BLe (Blk.arr 6 (qGV (qBr x)).length (gL (q0Q 1) (qGV (qBr x))) 100) (Blk.arr 6 (qA7 x).ops.length (gL (q0Q 1) (qA7 x).ops) 100)∧True:=by
  delta qBr;delta vi;simp only[q9m];exact⟨⟨VLe.refl _,hpre,fun _ _=>trivial⟩,VLe.refl _,BLe.refl _,trivial⟩
 exact Eq.mp (by kernel_rfl) key
theorem xCa:q0R Tryz.prog 35 qWD:=by
 refine q0S q77 (tpl:=[(3,6)]) Tryz.func35 rfl (by kernel_rfl) fun args bin ob r bout hDe hob=>?_;unfold qWD at hDe;split at hDe
 ·rename_i a0;cases hDe;exact okQ (xAa (q0N a0) (hob.2)) x6a (args_of_vles ⟨hob.1,trivial⟩) trivial
 ·cases hDe
def qTD (x:TOp) (y:TOp):Prop:=True
noncomputable def x0E (x:TOp) (y:TOp):V:=.bool (decide (x=y))
noncomputable def qXt:q0P:=fun args bin=>match args,bin with
 |[a0,a1],[]=>some (VLe a0 (q0Q 1 ((q0a a0)))∧VLe a1 (q0Q 1 ((q0a a1)))∧qTD (q0a a0) (q0a a1),x0E (q0a a0) (q0a a1),[])
 |_,_=>none
noncomputable def xEg:=lkR []
theorem xAT:q0C Tryz.prog xEg:=q04
noncomputable def x98 (x:TOp) (y:TOp):=cxN xEg Tryz.f167 [0,1,2,3,4,9,14,19,24,29,34]
def qDd (x:TOp) (y:TOp):Prop:=VLe (V.bool false) (V.bool (decide (x=y)))
theorem x92 (x:TOp) (y:TOp) (hpre:qTD x y):q0d (x98 x y) Tryz.f167 0 [q0Q 1 (x),q0Q 1 (y)] (fun rr=>VLe rr (x0E x y)):=by
 have key:((x.kind !=y.kind)=true→qDd x y)∧((x.kind !=y.kind)=false→((!q1t x.path y.path)=true→qDd x y)∧((!q1t x.path y.path)=false→((x.data !=y.data)=true→qDd x y)∧((x.data !=y.data)=false→((x.version !=y.version)=true→qDd x y)∧((x.version !=y.version)=false→((!TOp.seq x==y.seq)=true→qDd x y)∧((!TOp.seq x==y.seq)=false→((!TOp.own x==y.own)=true→qDd x y)∧((!TOp.own x==y.own)=false→VLe (V.bool true) (V.bool (decide (x=y))))))))):=by
  delta qDd;simp only[q1W];refine⟨fun h1=>q0Z ?_,fun h1=>⟨fun h2=>q0Z ?_,fun h2=>⟨fun h3=>q0Z ?_,fun h3=>⟨fun h4=>q0Z ?_,fun h4=>⟨fun h5=>q0Z ?_,fun h5=>⟨fun h6=>q0Z ?_,fun h6=>q0Z ?_⟩⟩⟩⟩⟩⟩
  all_goals simp_all [x3E]
 exact Eq.mp (by kernel_rfl) key
theorem xB0:q0R Tryz.prog 167 qXt:=by
 refine sob 0 Tryz.func167 fun args bin ob r bout hDe hob=>?_;unfold qXt at hDe;split at hDe
 ·rename_i a0 a1;cases hDe;exact okB (x92 (q0a a0) (q0a a1) (hob.2.2)) xAT (args_of_vles ⟨hob.1,hob.2.1,trivial⟩)
 ·cases hDe
def x4K (xs:List TOp) (ys:List TOp):Prop:=xs.length≤maxLen∧∀x∈xs,∀y,qTD x y
noncomputable def xDy (xs:List TOp) (ys:List TOp):V:=.bool (decide (xs=ys))
noncomputable def x9R:q0P:=fun args bin=>match args,bin with
 |[a0,a1],[]=>some (VLe a0 (q0D (q0Q 1) 1 (((q0K q0a) a0)))∧VLe a1 (q0D (q0Q 1) 1 (((q0K q0a) a1)))∧x4K ((q0K q0a) a0) ((q0K q0a) a1),xDy ((q0K q0a) a0) ((q0K q0a) a1),[])
 |_,_=>none
noncomputable def x0n (xs:List TOp) (ys:List TOp):q0M:=
 ⟨Nat,fun i=>⟨[(0,q0D (q0Q 1) 1 xs),(1,q0D (q0Q 1) 1 ys),(5,.int .i64 i)],[]⟩,
  fun i=>i≤xs.length∧xs.length=ys.length∧∀j,j<i→xs.getD j default=ys.getD j default,fun i=>xs.length-i⟩
noncomputable def xHI (xs:List TOp) (ys:List TOp):Nat→Option q0M:=fun rg_=>match rg_ with
 |4=>some (x0n xs ys)
 |_=>none
noncomputable def D99:=lkR [(167,qXt)]
theorem xG4:q0C Tryz.prog D99:=q02 xB0 (q04)
noncomputable def xFv (xs:List TOp) (ys:List TOp):=cxL D99 Tryz.f99 [0,1,4,5,10,14,26] [(4,⟨[(0,none),(1,none),(5,none)],[]⟩)] (xHI xs ys) []
noncomputable def qN7 (ys:List TOp) (x:Nat):V:=q0Q 1 (ys.getD (↑x:Int).toNat default)
def qVl (xs:List TOp) (ys:List TOp) (x:Nat):Prop:=x≤xs.length∧(xs.length=ys.length∧∀j:Nat,j<x→xs.getD j default=ys.getD j default)
theorem xFr (xs:List TOp) (ys:List TOp) (hpre:x4K xs ys):q0d (xFv xs ys) Tryz.f99 0 [q0D (q0Q 1) 1 (xs),q0D (q0Q 1) 1 (ys)] (fun rr=>VLe rr (xDy xs ys)):=by
 have key:(((q0s xs)!=(↑ ys.length:Int))=true→VLe (V.bool false) (V.bool (decide (xs=ys))))∧(((q0s xs)!=(↑ ys.length:Int))=false→((∃x:Nat,SLe (AS.mk [(0,q0D (q0Q 1) 1 xs),(1,q0D (q0Q 1) 1 ys),(5,vi 0)] []) (AS.mk [(0,q0D (q0Q 1) 1 xs),(1,q0D (q0Q 1) 1 ys),(5,vi (↑x:Int))] [])∧qVl xs ys x)∧∀x:Nat,qVl xs ys x→(decide ((↑x:Int)<(q0s xs))=true→(0≤(↑x:Int)∧(↑x:Int)<(q0s xs))∧(0≤(↑x:Int)∧(↑x:Int)<(↑ ys.length:Int))∧(VLe (q36 xs x) (q0Q 1 (q0a (q36 xs x)))∧VLe (qN7 ys x) (q0Q 1 (q0a (qN7 ys x)))∧qTD (q0a (q36 xs x)) (q0a (qN7 ys x)))∧((!decide (q0a (q36 xs x)=q0a (qN7 ys x)))=true→VLe (V.bool false) (V.bool (decide (xs=ys))))∧((!decide (q0a (q36 xs x)=q0a (qN7 ys x)))=false→(inK IntKind.i64 ((↑x:Int)+1)∧∃y:Nat,SLe (AS.mk [(0,q0D (q0Q 1) 1 xs),(1,q0D (q0Q 1) 1 ys),(5,vi ((↑x:Int)+1))] []) (AS.mk [(0,q0D (q0Q 1) 1 xs),(1,q0D (q0Q 1) 1 ys),(5,vi (↑y:Int))] [])∧(y≤xs.length∧(xs.length=ys.length∧∀j:Nat,j<y→xs.getD j default=ys.getD j default))∧xs.length-y<xs.length-x)))∧(decide ((↑x:Int)<(q0s xs))=false→VLe (V.bool true) (V.bool (decide (xs=ys)))))):=by
  delta q0s;delta qVl;delta qN7;delta q36;delta vi;unfold x4K maxLen at hpre;obtain⟨hpre,hel⟩:=hpre;refine⟨fun h=>?_,fun h=>?_⟩
  ·refine q0Z ?_;have hne:xs≠ys:=fun e=>by subst e;simp at h
   simp[hne]
  ·have hlen:xs.length=ys.length:=by simp at h;omega
   refine⟨⟨0,SLe.refl _,by omega,hlen,fun j hj=>absurd hj (Nat.not_lt_zero j)⟩,?_⟩;rintro i ⟨hi,_,hj⟩;refine⟨fun h=>?_,fun h=>?_⟩
   ·have hlt:i<xs.length:=by simpa using h
    have hin:xs.getD i default∈xs:=by simp[hlt]
    simp only[q4G,Int.toNat_natCast];refine⟨⟨by omega,by omega⟩,⟨by omega,by omega⟩,⟨VLe.refl _,VLe.refl _,hel _ hin _⟩,fun h2=>?_,fun h2=>⟨q0X (by omega),i+1,SLe.refl _,⟨by omega,hlen,fun j h3=>?_⟩,by omega⟩⟩
    ·refine q0Z ?_;have hne:xs≠ys:=fun e=>by subst e;simp at h2
     simp[hne]
    ·rcases Nat.lt_or_ge j i with h4|h4
     ·exact hj j h4
     ·have:j=i:=by omega
      subst this;simpa using h2
   ·refine q0Z ?_;have hge:i=xs.length:=by simp at h;omega
    have heq:xs=ys:=by
     refine List.ext_getElem hlen fun k h1 h2=>?_;have:=hj k (by omega);simpa[h1,h2]using this
    simp[heq]
 exact Eq.mp (by kernel_rfl) key
theorem xGl:q0R Tryz.prog 99 x9R:=by
 refine sob 0 Tryz.func99 fun args bin ob r bout hDe hob=>?_;unfold x9R at hDe;split at hDe
 ·rename_i a0 a1;cases hDe;exact okB (xFr ((q0K q0a) a0) ((q0K q0a) a1) (hob.2.2)) xG4 (args_of_vles ⟨hob.1,hob.2.1,trivial⟩)
 ·cases hDe
def x4R (x:q0E) (y:q0E):Prop:=x.ops.length≤maxLen
noncomputable def xFI (x:q0E) (y:q0E):V:=.bool (decide (x=y))
noncomputable def x8Q:q0P:=fun args bin=>match args,bin with
 |[a0,a1],[]=>some (VLe a0 (q0t 1 ((q0N a0)))∧VLe a1 (q0t 1 ((q0N a1)))∧x4R (q0N a0) (q0N a1),xFI (q0N a0) (q0N a1),[])
 |_,_=>none
noncomputable def D38:=lkR [(99,x9R)]
theorem xHO:q0C Tryz.prog D38:=q02 xGl (q04)
noncomputable def xGu (x:q0E) (y:q0E):=cxN D38 Tryz.f38 [0,1,2,3,4,9,14,19,25]
noncomputable def qNR (x:q0E):V:=q0D (q0Q 1) 1 x.ops
noncomputable def qME (y:q0E):V:=q0D (q0Q 1) 1 y.ops
def qNc (x:q0E) (y:q0E):Prop:=VLe (V.bool false) (V.bool (decide (x=y)))
theorem xGy (x:q0E) (y:q0E) (hpre:x4R x y):q0d (xGu x y) Tryz.f38 0 [q0t 1 (x),q0t 1 (y)] (fun rr=>VLe rr (xFI x y)):=by
 have key:((x.client !=y.client)=true→qNc x y)∧((x.client !=y.client)=false→((x.number !=y.number)=true→qNc x y)∧((x.number !=y.number)=false→((x.time !=y.time)=true→qNc x y)∧((x.time !=y.time)=false→(VLe (qNR x) (q0D (q0Q 1) 1 (q0K q0a (qNR x)))∧VLe (qME y) (q0D (q0Q 1) 1 (q0K q0a (qME y)))∧x4K (q0K q0a (qNR x)) (q0K q0a (qME y)))∧((!decide (q0K q0a (qNR x)=q0K q0a (qME y)))=true→qNc x y)∧((!decide (q0K q0a (qNR x)=q0K q0a (qME y)))=false→VLe (V.bool true) (V.bool (decide (x=y))))))):=by
  delta qNc;delta qME;delta qNR;have hp:x.ops.length≤maxLen:=hpre;simp only[q9m];refine⟨fun h=>q0Z ?_,fun h=>⟨fun h2=>q0Z ?_,fun h2=>⟨fun h3=>q0Z ?_,fun h3=>⟨⟨VLe.refl _,VLe.refl _,hp,fun _ _ _=>trivial⟩,fun h4=>q0Z ?_,fun h4=>q0Z ?_⟩⟩⟩⟩
  all_goals simp_all [qMb]
 exact Eq.mp (by kernel_rfl) key
theorem xGE:q0R Tryz.prog 38 x8Q:=by
 refine sob 0 Tryz.func38 fun args bin ob r bout hDe hob=>?_;unfold x8Q at hDe;split at hDe
 ·rename_i a0 a1;cases hDe;exact okB (xGy (q0N a0) (q0N a1) (hob.2.2)) xHO (args_of_vles ⟨hob.1,hob.2.1,trivial⟩)
 ·cases hDe
noncomputable def qI8 (k:Int):TOp:=⟨k,mtF (k+1),k+2,k+3,(k+4).tmod 3==0,(k+5).tmod 3==0⟩
noncomputable def qPT (k:Int) (n:Nat):List TOp:=(List.range n).map fun i:Nat=>qI8 (k+6*i)
@[simp] theorem x4E (k:Int) (n:Nat):(qPT k n).length=n:=by simp[qPT]
theorem qTH (k:Int) (n i:Nat) (h:i<n):(qPT k n).getD i default=qI8 (k+6*i):=by simp[qPT,h]
noncomputable def x10 (y0:List TOp) (k:Int):q0M:=
 ⟨Nat×List TOp,fun p=>⟨[(0,.osl 0 y0.length),(1,.int .i64 (k+6*p.1)),(5,.int .i64 p.1)],[(0,.arr 6 y0.length (gL (q0Q 1) p.2) q0l)]⟩,fun p=>p.1≤y0.length∧p.2.length=y0.length∧∀j,j<p.1→p.2.getD j default=qI8 (k+6*j),fun p=>y0.length-p.1⟩
noncomputable def xGr (y0:List TOp) (k:Int):Nat→Option q0M:=fun k0=>match k0 with
 |2=>some (x10 y0 k)
 |_=>none
noncomputable def D66:Nat→Option (Fl×q0P):=lk [(79,(.ro,qXI))]
theorem xGj:q0C Tryz.prog D66:=q02 qZ9 (q04)
noncomputable def xED (y0:List TOp) (k:Int):Cx:=⟨tt,D66,Tryz.f66.ntmps,[0,1,4,5,9],[(2,⟨[(0,none),(1,none),(5,none)],[(0,[])]⟩)],[],xGr y0 k,[],noM,[]⟩
def x4Q (n0:Nat) (k:Int):Prop:=1≤k∧k+6*n0≤4611686018427387904
noncomputable def q2X (x:Nat×List TOp):Int:=(↑x.1:Int)
noncomputable def q0r (x:Nat×List TOp):Nat:=(q2X x).toNat
noncomputable def qTR (k:Int) (x:Nat×List TOp):Int:=(bif Nat.beq (q0r x) (q0r x)then(bif Nat.beq (q0r x) (q0r x)then k+(6:Int)*(q2X x)else(x.2.getD (q0r x) default).kind)else(bif Nat.beq (q0r x) (q0r x)then k+(6:Int)*(q2X x)else(x.2.getD (q0r x) default).kind))
noncomputable def qT2 (k:Int) (x:Nat×List TOp):ByteArray:=(bif Nat.beq (q0r x) (q0r x)then mtF (k+6*(q2X x)+1)else(bif Nat.beq (q0r x) (q0r x)then(x.2.getD (q0r x) default).path else(x.2.getD (q0r x) default).path))
noncomputable def qSI (k:Int) (x:Nat×List TOp):Int:=(bif Nat.beq (q0r x) (q0r x)then k+(6:Int)*(q2X x)+(1:Int)+(1:Int)else(bif Nat.beq (q0r x) (q0r x)then(bif Nat.beq (q0r x) (q0r x)then(x.2.getD (q0r x) default).data else(x.2.getD (q0r x) default).data)else(bif Nat.beq (q0r x) (q0r x)then(x.2.getD (q0r x) default).data else(x.2.getD (q0r x) default).data)))
noncomputable def qU4 (x:Nat×List TOp):Int:=(bif Nat.beq (q0r x) (q0r x)then(bif Nat.beq (q0r x) (q0r x)then(x.2.getD (q0r x) default).version else(x.2.getD (q0r x) default).version)else(bif Nat.beq (q0r x) (q0r x)then(x.2.getD (q0r x) default).version else(x.2.getD (q0r x) default).version))
noncomputable def qTO (x:Nat×List TOp):Bool:=(bif Nat.beq (q0r x) (q0r x)then(bif Nat.beq (q0r x) (q0r x)then(x.2.getD (q0r x) default).seq else(x.2.getD (q0r x) default).seq)else(bif Nat.beq (q0r x) (q0r x)then(x.2.getD (q0r x) default).seq else(x.2.getD (q0r x) default).seq))
noncomputable def qT8 (x:Nat×List TOp):Bool:=(bif Nat.beq (q0r x) (q0r x)then(bif Nat.beq (q0r x) (q0r x)then(x.2.getD (q0r x) default).own else(x.2.getD (q0r x) default).own)else(bif Nat.beq (q0r x) (q0r x)then(x.2.getD (q0r x) default).own else(x.2.getD (q0r x) default).own))
noncomputable def q5w (y0:List TOp):Nat:=y0.length
def qJV (y0:List TOp) (x:Nat×List TOp):Prop:=0≤(q2X x)∧(q2X x)<(↑ (q5w y0):Int)
noncomputable def qTB (k:Int) (x:Nat×List TOp):Int:=(bif Nat.beq (q0r x) (q0r x)then(qTR k x)else(qTR k x))
noncomputable def qSz (k:Int) (x:Nat×List TOp):ByteArray:=(bif Nat.beq (q0r x) (q0r x)then(qT2 k x)else(qT2 k x))
noncomputable def qLJ (k:Int) (x:Nat×List TOp):Int:=(bif Nat.beq (q0r x) (q0r x)then k+(6:Int)*(q2X x)+(1:Int)+(1:Int)+(1:Int)else(bif Nat.beq (q0r x) (q0r x)then(qU4 x)else(qU4 x)))
def qOL (y0:List TOp) (k:Int) (x:Nat×List TOp):Prop:=Prod.fst x≤y0.length∧(x.2.length=y0.length∧∀j:Nat,j<Prod.fst x→x.2.getD j default=qI8 (k+6*(↑j:Int)))
def qDU (y0:List TOp) (x:Nat×List TOp):Prop:=(q2X x).toNat<y0.length
noncomputable def qM2 (x:Nat×List TOp):Bool:=(bif Nat.beq (q0r x) (q0r x)then(qTO x)else(qTO x))
noncomputable def qKd (x:Nat×List TOp):Bool:=(bif Nat.beq (q0r x) (q0r x)then(qT8 x)else(qT8 x))
noncomputable def qKj (k:Int) (x:Nat×List TOp):Int:=(bif Nat.beq (q0r x) (q0r x)then(qTB k x)else(qTB k x))
noncomputable def qLh (k:Int) (x:Nat×List TOp):Int:=(bif Nat.beq (q0r x) (q0r x)then(qSI k x)else(qSI k x))
noncomputable def qKn (k:Int) (x:Nat×List TOp):ByteArray:=(bif Nat.beq (q0r x) (q0r x)then(qSz k x)else(qSz k x))
theorem xGD (y0:List TOp) (k:Int) (hpre:x4Q y0.length k):q3h (xED y0 k) Tryz.f66 [] [.osl 0 y0.length,.int .i64 k] [.arr 6 y0.length (gL (q0Q 1) y0) q0l] (fun rr bs=>VLe rr (.int .i64 (k+6*(y0.length:Int)))∧q1y bs [.arr 6 y0.length (gL (q0Q 1) (qPT k y0.length)) q0l]):=by
 have key:((∃x:Nat×List TOp,SLe (AS.mk [(0,V.osl 0 (q5w y0)),(1,vi k),(5,vi 0)] [(0,Blk.arr 6 (q5w y0) (gL (q0Q 1) y0) 100)]) (AS.mk [(0,V.osl 0 (q5w y0)),(1,vi (k+6*(q2X x))),(5,vi (q2X x))] [(0,Blk.arr 6 (q5w y0) (gL (q0Q 1) x.2) 100)])∧qOL y0 k x)∧∀x:Nat×List TOp,qOL y0 k x→(decide ((q2X x)<(↑ (q5w y0):Int))=true→qJV y0 x∧qDU y0 x∧inK IntKind.i64 (k+6*(q2X x)+1)∧qW0 (k+6*(q2X x)+1)∧qJV y0 x∧qDU y0 x∧inK IntKind.i64 (k+6*(q2X x)+1+1)∧qJV y0 x∧qDU y0 x∧inK IntKind.i64 (k+6*(q2X x)+1+1+1)∧qJV y0 x∧qDU y0 x∧inK IntKind.i64 (k+6*(q2X x)+1+1+1+1)∧(3:Int)≠(0:Int)∧qJV y0 x∧qDU y0 x∧inK IntKind.i64 (k+6*(q2X x)+1+1+1+1+1)∧(3:Int)≠(0:Int)∧qJV y0 x∧qDU y0 x∧inK IntKind.i64 (k+6*(q2X x)+1+1+1+1+1+1)∧(inK IntKind.i64 ((q2X x)+1)∧∃y:Nat×List TOp,SLe (AS.mk [(0,V.osl 0 (q5w y0)),(1,vi (k+6*(q2X x)+1+1+1+1+1+1)),(5,vi ((q2X x)+1))] [(0,Blk.arr 6 (q5w y0) (q65 (q65 (q65 (q65 (q65 (q65 (gL (q0Q 1) x.2) (q0r x) (V.agg [vi (k+6*(q2X x)),V.str (x.2.getD (q0r x) default).path,vi (x.2.getD (q0r x) default).data,vi (x.2.getD (q0r x) default).version,V.bool (x.2.getD (q0r x) default).seq,V.bool (x.2.getD (q0r x) default).own])) (q0r x) (V.agg [vi (bif Nat.beq (q0r x) (q0r x)then k+(6:Int)*(q2X x)else(x.2.getD (q0r x) default).kind),V.str (mtF (k+6*(q2X x)+1)),vi (bif Nat.beq (q0r x) (q0r x)then(x.2.getD (q0r x) default).data else(x.2.getD (q0r x) default).data),vi (bif Nat.beq (q0r x) (q0r x)then(x.2.getD (q0r x) default).version else(x.2.getD (q0r x) default).version),V.bool (bif Nat.beq (q0r x) (q0r x)then(x.2.getD (q0r x) default).seq else(x.2.getD (q0r x) default).seq),V.bool (bif Nat.beq (q0r x) (q0r x)then(x.2.getD (q0r x) default).own else(x.2.getD (q0r x) default).own)])) (q0r x) (V.agg [vi (qTR k x),V.str (qT2 k x),vi (k+6*(q2X x)+1+1),vi (qU4 x),V.bool (qTO x),V.bool (qT8 x)])) (q0r x) (V.agg [vi (qTB k x),V.str (qSz k x),vi (qSI k x),vi (k+6*(q2X x)+1+1+1),V.bool (qM2 x),V.bool (qKd x)])) (q0r x) (V.agg [vi (qKj k x),V.str (qKn k x),vi (qLh k x),vi (qLJ k x),V.bool (Int.tmod (k+6*(q2X x)+1+1+1+1) (3:Int)==(0:Int)),V.bool (bif Nat.beq (q0r x) (q0r x)then(qKd x)else(qKd x))])) (q0r x) (V.agg [vi (bif Nat.beq (q0r x) (q0r x)then(qKj k x)else(qKj k x)),V.str (bif Nat.beq (q0r x) (q0r x)then(qKn k x)else(qKn k x)),vi (bif Nat.beq (q0r x) (q0r x)then(qLh k x)else(qLh k x)),vi (bif Nat.beq (q0r x) (q0r x)then(qLJ k x)else(qLJ k x)),V.bool (bif Nat.beq (q0r x) (q0r x)then Int.tmod (k+6*(q2X x)+1+1+1+1) (3:Int)==(0:Int)else(bif Nat.beq (q0r x) (q0r x)then(qM2 x)else(qM2 x))),V.bool (Int.tmod (k+6*(q2X x)+1+1+1+1+1) (3:Int)==(0:Int))])) 100)]) (AS.mk [(0,V.osl 0 (q5w y0)),(1,vi (k+6*(↑y.1:Int))),(5,vi (↑y.1:Int))] [(0,Blk.arr 6 (q5w y0) (gL (q0Q 1) y.2) 100)])∧(Prod.fst y≤y0.length∧(y.2.length=y0.length∧∀j:Nat,j<Prod.fst y→y.2.getD j default=qI8 (k+6*(↑j:Int))))∧y0.length-Prod.fst y<y0.length-Prod.fst x))∧(decide ((q2X x)<(↑ (q5w y0):Int))=false→VLe (vi (k+6*(q2X x))) (vi (k+6*(↑ (q5w y0):Int)))∧BLe (Blk.arr 6 (q5w y0) (gL (q0Q 1) x.2) 100) (Blk.arr 6 (q5w y0) (gL (q0Q 1) (qPT k (q5w y0))) 100)∧True)):=by
  delta qKn;delta qLh;delta qKj;delta qKd;delta qM2;delta qDU;delta qOL;delta qLJ;delta qSz;delta qTB;delta qJV;delta q5w;delta qT8;delta qTO;delta qU4;delta qSI;delta qT2;delta qTR;delta q0r;delta q2X;delta vi;unfold x4Q at hpre;refine⟨⟨(0,y0),SLe.refl' (by simp),by omega,rfl,fun j hj=>absurd hj (Nat.not_lt_zero j)⟩,?_⟩;rintro⟨i,ys⟩ ⟨hi,hl,hj⟩;simp only at hi hl hj⊢;refine⟨fun h=>?_,fun h=>?_⟩
  ·have hlt:i<y0.length:=by simpa using h
   simp only[Int.toNat_natCast]
   repeat (first|(refine And.intro ⟨by omega,by omega⟩ ?_)|(refine And.intro (q0X (by omega)) ?_)|(refine And.intro (by omega) ?_)|(refine And.intro (by decide) ?_))
   refine⟨(i+1,ys.set i (qI8 (k+6*i))),?_,⟨by simp only;omega,by simpa using hl,fun j h3=>q7n (f:=fun j=>qI8 (k+6*(j:Int))) (by omega) hj rfl h3⟩,by simp only;omega⟩;refine q1Q ⟨rfl,VLe.refl _,rfl,q0I (by simp only;omega),rfl,q0I (by simp),trivial⟩ ⟨rfl,?_,trivial⟩;exact qA6 (by omega) (ELe.of_eq (by simp[q2F,V.cells,qI8,q0Q,Int.add_assoc])) fun j e=>by simp[q2F,e]
  ·have hge:i=y0.length:=by simp at h;omega
   subst hge;refine⟨q0I rfl,q1P (fun j hj'=>ELe.of_eq ?_) (Or.inl rfl),trivial⟩;simp only[gL];rw[hj j hj',qTH _ _ _ hj']
 exact Eq.mp (by kernel_rfl) key
noncomputable def xBJ:q0P:=fun args bin=>match args,bin with
 |[.osl i0 m0,.int .i64 k],[.arr s0 p0 g0 t0]=>some ((i0=0∧s0=6∧t0=q0l∧p0=m0∧∃y:List TOp,y.length=m0∧∀i,i<m0→ELe (g0 i) (gL (q0Q 1) y i))∧x4Q m0 k,.int .i64 (k+6*(m0:Int)),[.arr 6 m0 (gL (q0Q 1) (qPT k m0)) q0l])
 |_,_=>none
theorem xFi:q0R Tryz.prog 66 xBJ:=by
 refine q0S q77 (tpl:=[]) Tryz.func66 rfl (by kernel_rfl) fun args bin ob r bout hDe hob=>?_;unfold xBJ at hDe;split at hDe
 ·rename_i i0 m0 k s0 p0 g0 t0;cases hDe;obtain⟨⟨rfl,rfl,rfl,rfl,y0,rfl,h0⟩,hpre⟩:=hob;exact⟨Nat.le_of_ble_eq_true (by kernel_rfl),xED y0 k,Eq.mp (by kernel_rfl) htt,Eq.mp (by kernel_rfl) xGj,Eq.mp (by kernel_rfl) (q2n (P:=Tryz.prog)),by kernel_rfl,_,[.arr 6 y0.length (gL (q0Q 1) y0) q0l],q54.refl _,⟨q1P h0 (Or.inl rfl),trivial⟩,Eq.mp (by kernel_rfl) (xGD y0 k hpre)⟩
 ·cases hDe
noncomputable def D40:Nat→Option (Fl×q0P):=lk [(66,(.rw,xBJ))]
theorem xH1:q0C Tryz.prog D40:=q02 xFi (q04)
noncomputable def xE5 (c0:Int) (c1:Int) (c2:Int) (y0:List TOp) (k:Int):Cx:=⟨tt,D40,Tryz.f40.ntmps,[0,1,2,4],[],[],fun _=>none,[],noM,[]⟩
def x1V (n0:Nat) (k:Int):Prop:=1≤k∧k+6*n0≤4611686018427387904
theorem xGz (c0:Int) (c1:Int) (c2:Int) (y0:List TOp) (k:Int) (hpre:x1V y0.length k):q3h (xE5 c0 c1 c2 y0 k) Tryz.f40 [] [.agg [.int .i64 (c0),.int .i64 (c1),.int .i64 (c2),.osl 0 y0.length],.int .i64 k] [.arr 6 y0.length (gL (q0Q 1) y0) q0l] (fun rr bs=>VLe rr (.int .i64 (k+6*(y0.length:Int)))∧q1y bs [.arr 6 y0.length (gL (q0Q 1) (qPT k y0.length)) q0l]):=by
 have key:((0=0∧6=6∧100=100∧(y0.length=y0.length∧∃y:List TOp,(y.length=y0.length∧∀i:Nat,i<y0.length→ELe (q0Q 1 (y0.getD i default)) (q0Q 1 (y.getD i default)))))∧x4Q y0.length k)∧y0.length=y0.length∧VLe (vi (k+6*(↑ y0.length:Int))) (vi (k+6*(↑ y0.length:Int)))∧BLe (Blk.arr 6 y0.length (gL (q0Q 1) (qPT k y0.length)) 100) (Blk.arr 6 y0.length (gL (q0Q 1) (qPT k y0.length)) 100)∧True:=by
  delta vi;unfold x1V at hpre;refine⟨⟨⟨rfl,rfl,rfl,rfl,y0,rfl,fun _ _=>ELe.refl _⟩,hpre⟩,rfl,VLe.refl _,BLe.refl _,trivial⟩
 exact Eq.mp (by kernel_rfl) key
noncomputable def xAp:q0P:=fun args bin=>match args,bin with
 |[.agg [.int .i64 (c0),.int .i64 (c1),.int .i64 (c2),.osl i0 m0],.int .i64 k],[.arr s0 p0 g0 t0]=>some ((i0=0∧s0=6∧t0=q0l∧p0=m0∧∃y:List TOp,y.length=m0∧∀i,i<m0→ELe (g0 i) (gL (q0Q 1) y i))∧x1V m0 k,.int .i64 (k+6*(m0:Int)),[.arr 6 m0 (gL (q0Q 1) (qPT k m0)) q0l])
 |_,_=>none
theorem xH9:q0R Tryz.prog 40 xAp:=by
 refine q0S q77 (tpl:=[]) Tryz.func40 rfl (by kernel_rfl) fun args bin ob r bout hDe hob=>?_;unfold xAp at hDe;split at hDe
 ·rename_i c0 c1 c2 i0 m0 k s0 p0 g0 t0;cases hDe;obtain⟨⟨rfl,rfl,rfl,rfl,y0,rfl,h0⟩,hpre⟩:=hob;exact⟨Nat.le_of_ble_eq_true (by kernel_rfl),xE5 c0 c1 c2 y0 k,Eq.mp (by kernel_rfl) htt,Eq.mp (by kernel_rfl) xH1,Eq.mp (by kernel_rfl) (q2n (P:=Tryz.prog)),by kernel_rfl,_,[.arr 6 y0.length (gL (q0Q 1) y0) q0l],q54.refl _,⟨q1P h0 (Or.inl rfl),trivial⟩,Eq.mp (by kernel_rfl) (xGz c0 c1 c2 y0 k hpre)⟩
 ·cases hDe
theorem qGm (s:q06) (r:q0E):(q2Z s r).state.nodes.length≤1000∧(q2Z s r).state.sessions.length≤1000∧(q2Z s r).state.marks.length≤1000:=by
 by_cases c1:q1a s=0
 ·by_cases c2:q7T r=0
  ·by_cases c3:qCW s r=0
   ·rw[rf4 c1 c2 c3];exact qKt c1 c2
   ·rw[rf3 c1 c2 c3];exact⟨Nat.zero_le _,Nat.zero_le _,Nat.zero_le _⟩
  ·rw[rf2 c1 c2];exact⟨Nat.zero_le _,Nat.zero_le _,Nat.zero_le _⟩
 ·rw[rf1 c1];exact⟨Nat.zero_le _,Nat.zero_le _,Nat.zero_le _⟩
theorem qNY (s:q06) (left:Int) (h:0≤left):q3g s left≤left:=by
 unfold q3g;have t1:=qFp q8p s.nodes left;have t2:=q8m s.sessions.length (szS q1Y s.nodes left);have t3:=qFp qIS s.marks (q3j s.sessions.length (szS q1Y s.nodes left));split
 ·omega
 split
 ·omega
 split
 ·omega
 ·omega
theorem qSV {r:q0E} {left:Int} (h:¬q9n r left<0):(r.ops.length:Int)≤left:=by
 unfold q9n at h;split at h
 ·exact absurd (show(-1:Int)<0 by decide) h
 ·rename_i g;exact qRl g
def pr5 (s:q06) (r:q0E):Prop:=s.bd∧r.bd
noncomputable def rs5 (s:q06) (r:q0E):V:=.bool (true)
def Q5 (vs:List V):Prop:=∃(s:q06) (r:q0E),q54 vs [q0J 1 (s),q0t 1 (r)]∧pr5 s r
noncomputable def D5:Nat→Option (Fl×q0P):=lk [(31,(.ro,xCe)),(32,(.ro,x6f)),(34,(.ro,qXp)),(35,(.ro,qWD)),(33,(.ro,xCj)),(36,(.ro,qX4)),(17,(.ro,xBl)),(37,(.ro,qTd)),(38,(.ro,x8Q)),(39,(.rw,x4W)),(40,(.rw,xAp)),(20,(.rw,xAM)),(21,(.ro,xA6))]
theorem da5:q0C Tryz.prog D5:=q02 xHQ (q02 xG1 (q02 x51 (q02 xCa (q02 xFf (q02 xBU (q02 xG8 (q02 x45 (q02 xGE (q02 xDY (q02 xH9 (q02 xFV (q02 xFl (q04)))))))))))))
noncomputable def cx5 (s:q06) (r:q0E):=cxN D5 Tryz.f5 [0,1,2,3,4,5,6,7,8,9,10,11,12,13,18,23,39,44,49,63,71,74,83,88,91]
noncomputable def x1K (s:q06):q06:=q6Y (q0B (q10 s))
noncomputable def qM3 (s:q06):V:=q0J 1 (x1K s)
noncomputable def x5W (r:q0E):q0E:=qA7 (q0N (q3P r))
noncomputable def qLf (r:q0E):V:=q0t 1 (x5W r)
noncomputable def qY8 (s:q06) (r:q0E):q0f:=q6a (q0B (qM3 s)) (q0N (qLf r))
noncomputable def qZe (s:q06) (r:q0E):q06:=(qY8 s r).state
noncomputable def qG0 (s:q06) (r:q0E):List q0A:=(qZe s r).nodes
noncomputable def qIO (s:q06) (r:q0E):Nat:=(qG0 s r).length
noncomputable def q9r (s:q06) (r:q0E):List q07:=(qZe s r).sessions
noncomputable def qAl (s:q06) (r:q0E):List q0U:=(qZe s r).marks
noncomputable def x3o (s:q06) (r:q0E):V:=V.agg [vi (qY8 s r).code,vi (qY8 s r).reply.code,vi (qY8 s r).reply.value,V.str (qY8 s r).reply.path,V.sl (qIO s r) (gL (q01 1) (zMk (1:Int) (qIO s r))) 1,V.sl (q9r s r).length (gL (q00 1) (q92 (1+5*(↑ (qIO s r):Int)) (q9r s r).length)) 1,vi (qZe s r).now,V.sl (qAl s r).length (gL (q09 1) (q94 (1+5*(↑ (qIO s r):Int)+2*(↑ (q9r s r).length:Int)) (qAl s r).length)) 1]
noncomputable def qUC (s:q06) (r:q0E):V:=q0m 1 (q2Z (q0B (qM3 s)) (q0N (qLf r)))
noncomputable def qFd (s:q06) (r:q0E):V:=q0m 1 (qY8 s r)
def x4N (s:q06) (r:q0E):Prop:=VLe (qFd s r) (q0m 1 (q0T (qFd s r)))∧VLe (qUC s r) (q0m 1 (q0T (qUC s r)))∧x4U (q0T (qFd s r)) (q0T (qUC s r))
def x19 (r:q0E):Prop:=VLe (q3P r) (q0t 1 (q0N (q3P r)))∧qTP (q0N (q3P r))
noncomputable def qJ3 (s:q06) (r:q0E):q06:=(q0T (x3o s r)).state
def qFK:Prop:=VLe (V.bool false) (V.bool true)
def qW7 (s:q06) (r:q0E):Prop:=(q43 (qJ3 s r) (1:Int)!=1+5*(↑ (qIO s r):Int)+2*(↑ (q9r s r).length:Int)+5*(↑ (qAl s r).length:Int))=true→qFK
def qRW (s:q06):Prop:=VLe (q10 s) (q0J 1 (q0B (q10 s)))∧qSK (q0B (q10 s))
noncomputable def qG9 (s:q06):List q07:=(x1K s).sessions
def qXh (s:q06) (r:q0E):Prop:=(q43 (qJ3 s r) (1:Int)!=1+5*(↑ (qIO s r):Int)+2*(↑ (q9r s r).length:Int)+5*(↑ (qAl s r).length:Int))=false
noncomputable def qFT (s:q06):List q0A:=(x1K s).nodes
noncomputable def qVU (s:q06):Nat:=(qFT s).length
noncomputable def qHF (s:q06):Int:=(↑ (qVU s):Int)
noncomputable def qY6 (s:q06):Nat:=(qG9 s).length
noncomputable def qHv (s:q06):Int:=(↑ (qY6 s):Int)
noncomputable def qGQ (s:q06):List q0U:=(x1K s).marks
noncomputable def qVo (s:q06):Nat:=(qGQ s).length
noncomputable def qIV (s:q06):Int:=(↑ (qVo s):Int)
noncomputable def qFt (r:q0E):List TOp:=(x5W r).ops
noncomputable def qIb (r:q0E):Nat:=(qFt r).length
def qVM (s:q06) (r:q0E):Prop:=(!decide (1+5*(qHF s)+2*(qHv s)+5*(qIV s)+6*(↑ (qIb r):Int)<0))=true
def qNC (r:q0E):Prop:=VLe (qLf r) (q0t 1 (q0N (qLf r)))
def qNV (s:q06):Prop:=VLe (qM3 s) (q0J 1 (q0B (qM3 s)))
def qXr (s:q06) (r:q0E):Prop:=VLe (x3o s r) (q0m 1 (q0T (x3o s r)))∧qZp (q0T (x3o s r)) (1:Int)
def qTV:Prop:=VLe (V.bool true) (V.bool true)
theorem bd5 (s:q06) (r:q0E) (hpre:pr5 s r):q0d (cx5 s r) Tryz.f5 0 [q0J 1 (s),q0t 1 (r)] (fun rr=>VLe rr (rs5 s r)):=by
 have key:(VLe (q10 s) (q0J 1 (q0B (q10 s)))∧x5o (q0B (q10 s)) (1048576:Int))∧(decide (q3g (q0B (q10 s)) (1048576:Int)<(0:Int))=true→qTV)∧(decide (q3g (q0B (q10 s)) (1048576:Int)<(0:Int))=false→(VLe (q3P r) (q0t 1 (q0N (q3P r)))∧x8s (q0N (q3P r)) (q3g (q0B (q10 s)) (1048576:Int)))∧(decide (q9n (q0N (q3P r)) (q3g (q0B (q10 s)) (1048576:Int))<(0:Int))=true→qTV)∧(decide (q9n (q0N (q3P r)) (q3g (q0B (q10 s)) (1048576:Int))<(0:Int))=false→qRW s∧x19 r∧(qNV s∧qNC r∧x4M (q0B (qM3 s)) (q0N (qLf r)))∧qRW s∧x19 r∧(qNV s∧qNC r∧qPq (q0B (qM3 s)) (q0N (qLf r)))∧x4N s r∧((!decide (q0T (qFd s r)=q0T (qUC s r)))=true→qFK)∧((!decide (q0T (qFd s r)=q0T (qUC s r)))=false→qRW s∧(qNV s∧qNV s∧qRV (q0B (qM3 s)) (q0B (qM3 s)))∧((!decide (q0B (qM3 s)=q0B (qM3 s)))=true→qFK)∧((!decide (q0B (qM3 s)=q0B (qM3 s)))=false→x19 r∧(qNC r∧qNC r∧x4R (q0N (qLf r)) (q0N (qLf r)))∧((!decide (q0N (qLf r)=q0N (qLf r)))=true→qFK)∧((!decide (q0N (qLf r)=q0N (qLf r)))=false→((0=0∧5=5∧100=100∧((qFT s).length=(qFT s).length∧∃y:List q0A,(y.length=(qFT s).length∧∀i:Nat,i<(qFT s).length→ELe (q01 1 ((qFT s).getD i default)) (q01 1 (y.getD i default)))))∧(1=1∧2=2∧100=100∧((qG9 s).length=(qG9 s).length∧∃y:List q07,(y.length=(qG9 s).length∧∀i:Nat,i<(qG9 s).length→ELe (q00 1 ((qG9 s).getD i default)) (q00 1 (y.getD i default)))))∧(2=2∧5=5∧100=100∧((qGQ s).length=(qGQ s).length∧∃y:List q0U,(y.length=(qGQ s).length∧∀i:Nat,i<(qGQ s).length→ELe (q09 1 ((qGQ s).getD i default)) (q09 1 (y.getD i default)))))∧qYv (qVU s) (qY6 s) (qVo s) (1:Int))∧(qFT s).length=(qFT s).length∧(qG9 s).length=(qG9 s).length∧(qGQ s).length=(qGQ s).length∧((0=0∧6=6∧100=100∧((qFt r).length=(qFt r).length∧∃y:List TOp,(y.length=(qFt r).length∧∀i:Nat,i<(qFt r).length→ELe (q0Q 1 ((qFt r).getD i default)) (q0Q 1 (y.getD i default)))))∧x1V (qIb r) (1+5*(qHF s)+2*(qHv s)+5*(qIV s)))∧(qFt r).length=(qFt r).length∧tq (!decide (1+5*(qHF s)+2*(qHv s)+5*(qIV s)+6*(↑ (qIb r):Int)<0))∧tq (!decide (1+5*(qHF s)+2*(qHv s)+5*(qIV s)+6*(↑ (qIb r):Int)<0))∧(qVM s r→x4N s r)∧tq (!decide (1+5*(qHF s)+2*(qHv s)+5*(qIV s)+6*(↑ (qIb r):Int)<0))∧((true=true→decide (1+5*(qHF s)+2*(qHv s)+5*(qIV s)+6*(↑ (qIb r):Int)<0)=false→qVM s r)∧∀b:Bool,(b=bif decide (1+5*(qHF s)+2*(qHv s)+5*(qIV s)+6*(↑ (qIb r):Int)<0)then true else !decide (q0T (qFd s r)=q0T (qUC s r)))→(b=true→qFK)∧(b=false→((0=0∧5=5∧100=100∧((qG0 s r).length=(qG0 s r).length∧∃y:List q0A,(y.length=(qG0 s r).length∧∀i:Nat,i<(qG0 s r).length→ELe (q01 1 ((qG0 s r).getD i default)) (q01 1 (y.getD i default)))))∧(1=1∧2=2∧100=100∧((q9r s r).length=(q9r s r).length∧∃y:List q07,(y.length=(q9r s r).length∧∀i:Nat,i<(q9r s r).length→ELe (q00 1 ((q9r s r).getD i default)) (q00 1 (y.getD i default)))))∧(2=2∧5=5∧100=100∧((qAl s r).length=(qAl s r).length∧∃y:List q0U,(y.length=(qAl s r).length∧∀i:Nat,i<(qAl s r).length→ELe (q09 1 ((qAl s r).getD i default)) (q09 1 (y.getD i default)))))∧x13 (qIO s r) (q9r s r).length (qAl s r).length (1:Int))∧(qG0 s r).length=(qG0 s r).length∧(q9r s r).length=(q9r s r).length∧(qAl s r).length=(qAl s r).length∧qXr s r∧(decide (q43 (qJ3 s r) (1:Int)<(0:Int))=true→qFK)∧(decide (q43 (qJ3 s r) (1:Int)<(0:Int))=false→qW7 s r∧(qXh s r→qRW s∧x19 r∧(qNV s∧qNC r∧qPq (q0B (qM3 s)) (q0N (qLf r)))∧x4N s r∧((!decide (q0T (qFd s r)=q0T (qUC s r)))=true→qFK)∧((!decide (q0T (qFd s r)=q0T (qUC s r)))=false→qXr s r∧(decide (q43 (qJ3 s r) (1:Int)<(0:Int))=true→qFK)∧(decide (q43 (qJ3 s r) (1:Int)<(0:Int))=false→qW7 s r∧(qXh s r→qTV)))))))))))):=by
  delta qTV;delta qXr;delta qNV;delta qNC;delta qVM;delta qIb;delta qFt;delta qIV;delta qVo;delta qGQ;delta qHv;delta qY6;delta qHF;delta qVU;delta qFT;delta qXh;delta qG9;delta qRW;delta qW7;delta qFK;delta qJ3;delta x19;delta x4N;delta qFd;delta qUC;delta x3o;delta qAl;delta q9r;delta qIO;delta qG0;delta qZe;delta qY8;delta qLf;delta x5W;delta q3P;delta qM3;delta x1K;delta q10;delta vi;obtain⟨hb,ho⟩:=hpre;have f1:=@qNW s 1048576;have f2:=qNY s 1048576 (by omega);have hv:∀v,VLe v v:=VLe.refl;simp only[q1X,q3s];refine⟨⟨VLe.refl _,by omega,by unfold q4w;omega,hb⟩,fun h=>VLe.refl _,fun h=>?_⟩;obtain⟨l1,l2,l3⟩:=f1 (by omega) (of_decide_eq_false h);have h0:=of_decide_eq_false h;have f3:=@qSV r (q3g s 1048576);refine⟨⟨VLe.refl _,by omega,by unfold q4w;omega,ho⟩,fun h=>VLe.refl _,fun h=>?_⟩;have l4:=f3 (of_decide_eq_false h);have hl:=qGm s r;have p1:qSK s:=⟨by unfold q4w;omega,by unfold q4w;omega,by unfold q4w;omega⟩;have p2:qRV s s:=⟨by unfold maxLen;omega,by unfold maxLen;omega,by unfold maxLen;omega⟩;have p3:qTP r:=by show r.ops.length≤q4w;unfold q4w;omega
  have ol:r.ops.length≤maxLen:=by unfold maxLen;omega
  have p4:x4M s r:=⟨hb,ol⟩;have p5:qPq s r:=⟨hb,ol⟩;have p6:qYv s.nodes.length s.sessions.length s.marks.length 1:=⟨by omega,by omega⟩;have p7:x4R r r:=ol;have p8:x1V r.ops.length (1+5*(s.nodes.length:Int)+2*(s.sessions.length:Int)+5*(s.marks.length:Int)):=⟨by omega,by omega⟩;have q1:decide (1+5*(s.nodes.length:Int)+2*(s.sessions.length:Int)+5*(s.marks.length:Int)+6*(r.ops.length:Int)<0)=false:=by simp;omega
  clear f1 f2 f3 h;simp only[q1X,q3s,q6n,q6Y,qA7,q6a,qSb,qOn,qIx,qFn,qFl,q1];generalize q2Z s r=W at*;have r1:x4U W W:=⟨by unfold maxLen;omega,by unfold maxLen;omega,by unfold maxLen;omega⟩;have r2:x13 W.state.nodes.length W.state.sessions.length W.state.marks.length 1:=⟨by omega,by omega⟩;have r3:qZp ⟨W.code,W.reply,⟨zMk 1 W.state.nodes.length,q92 (1+5*W.state.nodes.length) W.state.sessions.length,W.state.now,q94 (1+5*W.state.nodes.length+2*W.state.sessions.length) W.state.marks.length⟩⟩ 1:=⟨by omega,by simp;omega⟩;have q2:decide (1+5*(W.state.nodes.length:Int)+2*(W.state.sessions.length:Int)+5*(W.state.marks.length:Int)<0)=false:=by simp;omega
  simp[hv,p1,p2,p3,p4,p5,p6,p7,p8,r1,r2,r3,q2];exact⟨⟨⟨s.nodes,rfl,fun _ _=>ELe.refl _⟩,⟨s.sessions,rfl,fun _ _=>ELe.refl _⟩,⟨s.marks,rfl,fun _ _=>ELe.refl _⟩⟩,⟨r.ops,rfl,fun _ _=>ELe.refl _⟩,q1,fun _=>⟨⟨⟨W.state.nodes,rfl,fun _ _=>ELe.refl _⟩,⟨W.state.sessions,rfl,fun _ _=>ELe.refl _⟩,⟨W.state.marks,rfl,fun _ _=>ELe.refl _⟩⟩,qS4 _ _ _ _ _ _ _ _ _ _ _⟩⟩
 exact Eq.mp (by kernel_rfl) key
theorem so5:q0R Tryz.prog 5 (xDS Q5):=by
 refine qAN q77 (pol:=0) Tryz.func5 rfl (by kernel_rfl) fun args bin ob r bout hDe hob=>?_;unfold xDS at hDe;split at hDe
 ·cases hDe;obtain⟨s,r,hle,hpre⟩:=hob;have hlen:args.length=2:=hle.1.symm;exact⟨rfl,rfl,by rw[hlen];exact Nat.le_of_ble_eq_true (by kernel_rfl),cx5 s r,Eq.mp (by kernel_rfl) htt,Eq.mp (by kernel_rfl) da5,Eq.mp (by kernel_rfl) (q2n (P:=Tryz.prog)),by kernel_rfl,_,hle,Eq.mp (by kernel_rfl) (bd5 s r hpre)⟩
 ·cases hDe
theorem qN2:Tyd Tryz.prog 7 192 true (q01 1) q0A.bd:=
 q5S Tryz.underlying192 (q1T (qJ9 Tryz.underlying9) (q1T (q45 Tryz.underlying2) (q1T (q45 Tryz.underlying2) (q1T (q45 Tryz.underlying2) (q1T (q45 Tryz.underlying2) q7M))))) (fun y=>⟨y.1,y.2.1,y.2.2.1,y.2.2.2.1,y.2.2.2.2.1⟩) (fun _=>rfl) (fun y h=>h.1) (fun x=>⟨_,rfl⟩)
theorem qH3:Tyd Tryz.prog 7 202 true (q00 1) (fun _=>True):=
 q5S Tryz.underlying202 (q1T (q45 Tryz.underlying2) (q1T (q45 Tryz.underlying2) q7M)) (fun y=>⟨y.1,y.2.1⟩) (fun _=>rfl) (fun y h=>trivial) (fun x=>⟨_,rfl⟩)
theorem qMX:Tyd Tryz.prog 6 194 true (q0V 1) q2E.bd:=
 q5S Tryz.underlying194 (q1T (q45 Tryz.underlying2) (q1T (q45 Tryz.underlying2) (q1T (qJ9 Tryz.underlying9) q7M))) (fun y=>⟨y.1,y.2.1,y.2.2.1⟩) (fun _=>rfl) (fun y h=>h.2.2.1) (fun x=>⟨_,rfl⟩)
theorem qNE:Tyd Tryz.prog 7 196 true (q09 1) q0U.bd:=
 q5S Tryz.underlying196 (q1T (q45 Tryz.underlying2) (q1T (q45 Tryz.underlying2) (q1T qMX q7M))) (fun y=>⟨y.1,y.2.1,y.2.2.1⟩) (fun _=>rfl) (fun y h=>h.2.2.1) (fun x=>⟨_,rfl⟩)
theorem qIu:Tyd Tryz.prog 9 58 true (q0J 1) q06.bd:=
 q5S Tryz.underlying58 (q1T (q9k Tryz.underlying54 (by kernel_rfl) qN2) (q1T (q9k Tryz.underlying55 (by kernel_rfl) qH3) (q1T (q45 Tryz.underlying2) (q1T (q9k Tryz.underlying56 (by kernel_rfl) qNE) q7M)))) (fun y=>⟨y.1,y.2.1,y.2.2.1,y.2.2.2.1⟩) (fun _=>rfl) (fun y h=>⟨h.1,h.2.1.1,h.2.2.2.1⟩) (fun x=>⟨_,rfl⟩)
theorem ta_TState:Tyd Tryz.prog 9 58 true (q0J 1) q06.bd:=qIu
theorem qSx:Tyd Tryz.prog 7 87 true (q0Q 1) TOp.bd:=
 q5S Tryz.underlying87 (q1T (q45 Tryz.underlying2) (q1T (qJ9 Tryz.underlying9) (q1T (q45 Tryz.underlying2) (q1T (q45 Tryz.underlying2) (q1T (qL4 Tryz.underlying4) (q1T (qL4 Tryz.underlying4) q7M)))))) (fun y=>⟨y.1,y.2.1,y.2.2.1,y.2.2.2.1,y.2.2.2.2.1,y.2.2.2.2.2.1⟩) (fun _=>rfl) (fun y h=>h.2.1) (fun x=>⟨_,rfl⟩)
theorem qHQ:Tyd Tryz.prog 9 61 true (q0t 1) q0E.bd:=
 q5S Tryz.underlying61 (q1T (q45 Tryz.underlying2) (q1T (q45 Tryz.underlying2) (q1T (q45 Tryz.underlying2) (q1T (q9k Tryz.underlying59 (by kernel_rfl) qSx) q7M)))) (fun y=>⟨y.1,y.2.1,y.2.2.1,y.2.2.2.1⟩) (fun _=>rfl) (fun y h=>h.2.2.2.1) (fun x=>⟨_,rfl⟩)
theorem ta_Request:Tyd Tryz.prog 9 61 true (q0t 1) q0E.bd:=qHQ
end Go.Av
