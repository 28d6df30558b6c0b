/- The proof's texts, joined, without what the row does not reach: part 4. -/
import Derived.Test.YtognmcollmdbpaaGreatDoorZb3
namespace Go.Av
open Go.Proofs
set_option maxRecDepth 100000
set_option maxHeartbeats 2000000
set_option linter.unusedVariables false
set_option linter.unusedSimpArgs false
theorem qGo:ELe (.agg [.int .i64 0,.int .i64 0]) (q00 1 default):=ELe.refl _
theorem qMK:ELe (.agg [.int .i64 0,.int .i64 0,.int .i64 0,.int .i64 0,.str ⟨#[]⟩]) (q09 1 default):=ELe.refl _
def q3l (x:q0U) (left:Int):Int:=q3j x.reply.path.size left
theorem qIS (x:q0U) (left:Int):q3l x left≤left∨q3l x left<0:=q8m _ _
theorem qTC {n:Nat} {v:Int} (h:q3j n v<0):q3j n v=-1:=by
 unfold q3j at h⊢;split
 ·rfl
 ·rename_i c;rw[if_neg c]at h;exact absurd h c
theorem qJt (c:Int):q0h (.ptr [.int .i64 c] 0 1)=c:=rfl
def x7M (xs:List q07) (left:Int):Prop:=0≤left∧left≤q4w∧xs.length≤maxLen
noncomputable def xDV (xs:List q07) (left:Int):V:=.int .i64 (q3j xs.length left)
noncomputable def x87:q0P:=fun args bin=>match args,bin with
 |[a0,.int .i64 a1],[]=>some (VLe a0 (q0D (q00 1) 1 (((q0K q05) a0)))∧x7M ((q0K q05) a0) a1,xDV ((q0K q05) a0) a1,[])
 |_,_=>none
noncomputable def D84:=lkR []
theorem xGw:q0C Tryz.prog D84:=q04
noncomputable def xGh (xs:List q07) (left:Int):=cxN D84 Tryz.f84 [0,1,4,10]
theorem xFs (xs:List q07) (left:Int) (hpre:x7M xs left):q0d (xGh xs left) Tryz.f84 0 [q0D (q00 1) 1 (xs),.int .i64 (left)] (fun rr=>VLe rr (xDV xs left)):=by
 have key:inK IntKind.i64 (left-(↑ xs.length:Int))∧(decide (left-(↑ xs.length:Int)<0)=true→VLe (vi (-1)) (vi (q3j xs.length left)))∧(decide (left-(↑ xs.length:Int)<0)=false→VLe (vi (left-(↑ xs.length:Int))) (vi (q3j xs.length left))):=by
  delta vi;obtain⟨h0,hm,hb⟩:=hpre;unfold q4w at hm;unfold maxLen at hb;refine⟨q0X (by omega),fun h=>?_,fun h=>?_⟩
  ·exact q0I (by unfold q3j;rw[if_pos (of_decide_eq_true h)])
  ·exact q0I (by unfold q3j;rw[if_neg (of_decide_eq_false h)])
 exact Eq.mp (by kernel_rfl) key
theorem xHF:q0R Tryz.prog 84 x87:=by
 refine sob 0 Tryz.func84 fun args bin ob r bout hDe hob=>?_;unfold x87 at hDe;split at hDe
 ·rename_i a0 a1;cases hDe;exact okB (xFs ((q0K q05) a0) a1 (hob.2)) xGw (args_of_vles ⟨hob.1,VLe.refl _,trivial⟩)
 ·cases hDe
def qWP (x:q2E) (left:Int):Prop:=0≤left∧left≤q4w∧x.bd
noncomputable def x15 (x:q2E) (left:Int):V:=.int .i64 (q3j x.path.size left)
noncomputable def qYr:q0P:=fun args bin=>match args,bin with
 |[a0,.int .i64 a1],[]=>some (VLe a0 (q0V 1 ((q0q a0)))∧qWP (q0q a0) a1,x15 (q0q a0) a1,[])
 |_,_=>none
noncomputable def xEf:=lkR []
theorem x78:q0C Tryz.prog xEf:=q04
noncomputable def x7F (x:q2E) (left:Int):=cxN xEf Tryz.f219 [0,1,2,4,11]
noncomputable def qDe (x:q2E):Nat:=x.path.size
theorem xBc (x:q2E) (left:Int) (hpre:qWP x left):q0d (x7F x left) Tryz.f219 0 [q0V 1 (x),.int .i64 (left)] (fun rr=>VLe rr (x15 x left)):=by
 have key:inK IntKind.i64 (left-(↑ (qDe x):Int))∧(decide (left-(↑ (qDe x):Int)<0)=true→VLe (vi (-1)) (vi (q3j (qDe x) left)))∧(decide (left-(↑ (qDe x):Int)<0)=false→VLe (vi (left-(↑ (qDe x):Int))) (vi (q3j (qDe x) left))):=by
  delta qDe;delta vi;obtain⟨h0,hm,hb⟩:=hpre;unfold q4w at hm;unfold q2E.bd maxLen at hb;refine⟨q0X (by omega),fun h=>?_,fun h=>?_⟩
  ·exact q0I (by unfold q3j;rw[if_pos (of_decide_eq_true h)])
  ·exact q0I (by unfold q3j;rw[if_neg (of_decide_eq_false h)])
 exact Eq.mp (by kernel_rfl) key
theorem xCk:q0R Tryz.prog 219 qYr:=by
 refine sob 0 Tryz.func219 fun args bin ob r bout hDe hob=>?_;unfold qYr at hDe;split at hDe
 ·rename_i a0 a1;cases hDe;exact okB (xBc (q0q a0) a1 (hob.2)) x78 (args_of_vles ⟨hob.1,VLe.refl _,trivial⟩)
 ·cases hDe
def qWC (x:q0U) (left:Int):Prop:=0≤left∧left≤q4w∧x.bd
noncomputable def x3q (x:q0U) (left:Int):V:=.int .i64 (q3l x left)
noncomputable def qWF:q0P:=fun args bin=>match args,bin with
 |[a0,.int .i64 a1],[]=>some (VLe a0 (q09 1 ((q0H a0)))∧qWC (q0H a0) a1,x3q (q0H a0) a1,[])
 |_,_=>none
noncomputable def xF0:=lkR [(219,qYr)]
theorem x97:q0C Tryz.prog xF0:=q02 xCk (q04)
noncomputable def xBQ (x:q0U) (left:Int):=cxN xF0 Tryz.f148 [0,1,2,4,10]
noncomputable def qL1 (x:q0U):Nat:=(q0q (q0V 1 x.reply)).path.size
theorem xCW (x:q0U) (left:Int) (hpre:qWC x left):q0d (xBQ x left) Tryz.f148 0 [q09 1 (x),.int .i64 (left)] (fun rr=>VLe rr (x3q x left)):=by
 have key:(VLe (q0V 1 x.reply) (q0V 1 (q0q (q0V 1 x.reply)))∧qWP (q0q (q0V 1 x.reply)) left)∧(decide (q3j (qL1 x) left<(0:Int))=true→VLe (vi (-1)) (vi (q3l x left)))∧(decide (q3j (qL1 x) left<(0:Int))=false→VLe (vi (q3j (qL1 x) left)) (vi (q3l x left))):=by
  delta qL1;delta vi;obtain⟨h0,hm,hb⟩:=hpre;simp only[q4D];exact⟨⟨VLe.refl _,h0,hm,hb⟩,fun h=>q0I (qTC (of_decide_eq_true h)).symm,fun h=>VLe.refl _⟩
 exact Eq.mp (by kernel_rfl) key
theorem xBs:q0R Tryz.prog 148 qWF:=by
 refine sob 0 Tryz.func148 fun args bin ob r bout hDe hob=>?_;unfold qWF at hDe;split at hDe
 ·rename_i a0 a1;cases hDe;exact okB (xCW (q0H a0) a1 (hob.2)) x97 (args_of_vles ⟨hob.1,VLe.refl _,trivial⟩)
 ·cases hDe
def x6d (xs:List q0U) (left:Int):Prop:=0≤left∧left≤q4w∧xs.length≤maxLen∧∀x∈xs,x.bd
noncomputable def xDn (xs:List q0U) (left:Int):V:=.int .i64 (szS q3l xs left)
noncomputable def xAk:q0P:=fun args bin=>match args,bin with
 |[a0,.int .i64 a1],[]=>some (VLe a0 (q0D (q09 1) 1 (((q0K q0H) a0)))∧x6d ((q0K q0H) a0) a1,xDn ((q0K q0H) a0) a1,[])
 |_,_=>none
noncomputable def qZR (xs:List q0U) (left:Int):q0M:=
 ⟨Nat×Int,fun p=>⟨[(0,q0D (q09 1) 1 xs),(1,.int .i64 p.2),(5,.int .i64 p.1)],[]⟩,
  fun p=>p.1≤xs.length∧0≤p.2∧p.2≤left∧szS q3l xs left=szA q3l (xs.drop p.1) p.2,fun p=>xs.length-p.1⟩
noncomputable def xH3 (xs:List q0U) (left:Int):Nat→Option q0M:=fun rg_=>match rg_ with
 |5=>some (qZR xs left)
 |_=>none
noncomputable def D85:=lkR [(148,qWF)]
theorem xGk:q0C Tryz.prog D85:=q02 xBs (q04)
noncomputable def xFz (xs:List q0U) (left:Int):=cxL D85 Tryz.f85 [0,1,4,5,11,15,25] [(5,⟨[(0,none),(1,none),(5,none)],[]⟩)] (xH3 xs left) []
noncomputable def qK8 (xs:List q0U) (x:Nat×Int):V:=q09 1 (xs.getD (↑x.1:Int).toNat default)
noncomputable def q4O (xs:List q0U):Int:=(↑ xs.length:Int)
def qWs (xs:List q0U) (left:Int) (x:Nat×Int):Prop:=Prod.fst x≤xs.length∧(0:Int)≤Prod.snd x∧Prod.snd x≤left∧szS q3l xs left=szA q3l (List.drop x.1 xs) x.2
theorem xGM (xs:List q0U) (left:Int) (hpre:x6d xs left):q0d (xFz xs left) Tryz.f85 0 [q0D (q09 1) 1 (xs),.int .i64 (left)] (fun rr=>VLe rr (xDn xs left)):=by
 have key:inK IntKind.i64 (left-(q4O xs))∧(decide (left-(q4O xs)<0)=true→VLe (vi (-1)) (vi (szS q3l xs left)))∧(decide (left-(q4O xs)<0)=false→((∃x:Nat×Int,SLe (AS.mk [(0,q0D (q09 1) 1 xs),(1,vi (left-(q4O xs))),(5,vi 0)] []) (AS.mk [(0,q0D (q09 1) 1 xs),(1,vi x.2),(5,vi (↑x.1:Int))] [])∧qWs xs left x)∧∀x:Nat×Int,qWs xs left x→(decide ((↑x.1:Int)<(q4O xs))=true→(0≤(↑x.1:Int)∧(↑x.1:Int)<(q4O xs))∧(VLe (qK8 xs x) (q09 1 (q0H (qK8 xs x)))∧qWC (q0H (qK8 xs x)) x.2)∧(decide (q3l (q0H (qK8 xs x)) x.2<(0:Int))=true→VLe (vi (-1)) (vi (szS q3l xs left)))∧(decide (q3l (q0H (qK8 xs x)) x.2<(0:Int))=false→(inK IntKind.i64 ((↑x.1:Int)+1)∧∃y:Nat×Int,SLe (AS.mk [(0,q0D (q09 1) 1 xs),(1,vi (q3l (q0H (qK8 xs x)) x.2)),(5,vi ((↑x.1:Int)+1))] []) (AS.mk [(0,q0D (q09 1) 1 xs),(1,vi y.2),(5,vi (↑y.1:Int))] [])∧(Prod.fst y≤xs.length∧(0:Int)≤Prod.snd y∧Prod.snd y≤left∧szS q3l xs left=szA q3l (List.drop y.1 xs) y.2)∧xs.length-Prod.fst y<xs.length-Prod.fst x)))∧(decide ((↑x.1:Int)<(q4O xs))=false→VLe (vi x.2) (vi (szS q3l xs left))))):=by
  delta qWs;delta q4O;delta qK8;delta vi;obtain⟨h0,hm,hl,hb⟩:=hpre;unfold q4w at hm;unfold maxLen at hl;refine⟨q0X (by omega),fun h=>q0I (qJQ (of_decide_eq_true h)).symm,fun h=>?_⟩;have h':=of_decide_eq_false h;refine⟨⟨(0,left-xs.length),SLe.refl _,Nat.zero_le _,by simp only;omega,by simp only;omega,qJ1 h'⟩,?_⟩;rintro⟨i,v⟩ ⟨h1,h2,h3,h4⟩;simp only at h1 h2 h3 h4⊢;refine⟨fun h=>?_,fun h=>?_⟩
  ·have hlt:i<xs.length:=by simpa using h
   have hin:xs.getD i default∈xs:=by simp[hlt]
   have e:=qG4 q3l hlt v;have hle:=qIS (xs.getD i default) v;simp only[q2h,Int.toNat_natCast];refine⟨⟨by omega,by omega⟩,⟨VLe.refl _,by omega,by unfold q4w;omega,hb _ hin⟩,fun h5=>?_,fun h5=>?_⟩
   ·have h6:=of_decide_eq_true h5;exact q0I (by rw[h4,e,if_pos h6])
   ·have h6:=of_decide_eq_false h5;exact⟨q0X (by omega),(i+1,q3l (xs.getD i default) v),SLe.refl _,⟨by simp only;omega,by simp only;omega,by simp only;omega,by rw[h4,e,if_neg h6]⟩,by simp only;omega⟩
  ·have hge:i=xs.length:=by simp at h;omega
   refine q0I ?_;rw[h4,hge,List.drop_length];rfl
 exact Eq.mp (by kernel_rfl) key
theorem xGL:q0R Tryz.prog 85 xAk:=by
 refine sob 0 Tryz.func85 fun args bin ob r bout hDe hob=>?_;unfold xAk at hDe;split at hDe
 ·rename_i a0 a1;cases hDe;exact okB (xGM ((q0K q0H) a0) a1 (hob.2)) xGk (args_of_vles ⟨hob.1,VLe.refl _,trivial⟩)
 ·cases hDe
noncomputable def q3g (s:q06) (left:Int):Int:=
 if szS q1Y s.nodes left<0 then -1 else if q3j s.sessions.length (szS q1Y s.nodes left)<0 then -1
 else if szS q3l s.marks (q3j s.sessions.length (szS q1Y s.nodes left))<0 then -1 else szS q3l s.marks (q3j s.sessions.length (szS q1Y s.nodes left))
theorem qNW {s:q06} {left:Int} (h0:0≤left) (h:¬q3g s left<0):(s.nodes.length:Int)≤left∧(s.sessions.length:Int)≤left∧(s.marks.length:Int)≤left:=by
 unfold q3g at h;split at h
 ·exact absurd (show(-1:Int)<0 by decide) h
 rename_i g1;split at h
 ·exact absurd (show(-1:Int)<0 by decide) h
 rename_i g2;split at h
 ·exact absurd (show(-1:Int)<0 by decide) h
 rename_i g3;have a1:=qRl g1;have a2:=qTN g2;have a3:=qRl g3;have t1:=qFp q8p s.nodes left;have t2:=q8m s.sessions.length (szS q1Y s.nodes left);omega
def x5o (s:q06) (left:Int):Prop:=0≤left∧left≤q4w∧s.bd
noncomputable def xEL (s:q06) (left:Int):V:=.int .i64 (q3g s left)
noncomputable def xCe:q0P:=fun args bin=>match args,bin with
 |[a0,.int .i64 a1],[]=>some (VLe a0 (q0J 1 ((q0B a0)))∧x5o (q0B a0) a1,xEL (q0B a0) a1,[])
 |_,_=>none
noncomputable def D31:=lkR [(83,x7n),(84,x87),(85,xAk)]
theorem xGX:q0C Tryz.prog D31:=q02 xFg (q02 xHF (q02 xGL (q04)))
noncomputable def xGU (s:q06) (left:Int):=cxN D31 Tryz.f31 [0,1,2,4,10,16,22]
noncomputable def q1F (s:q06):List q0A:=q0K q03 (q0D (q01 1) 1 s.nodes)
noncomputable def q1G (s:q06):List q07:=q0K q05 (q0D (q00 1) 1 s.sessions)
noncomputable def q4a (s:q06):List q0U:=q0K q0H (q0D (q09 1) 1 s.marks)
noncomputable def qK4 (s:q06):Nat:=(q1G s).length
theorem xGF (s:q06) (left:Int) (hpre:x5o s left):q0d (xGU s left) Tryz.f31 0 [q0J 1 (s),.int .i64 (left)] (fun rr=>VLe rr (xEL s left)):=by
 have key:(VLe (q0D (q01 1) 1 s.nodes) (q0D (q01 1) 1 (q1F s))∧x8x (q1F s) left)∧(decide (szS q1Y (q1F s) left<(0:Int))=true→VLe (vi (-1)) (vi (q3g s left)))∧(decide (szS q1Y (q1F s) left<(0:Int))=false→(VLe (q0D (q00 1) 1 s.sessions) (q0D (q00 1) 1 (q1G s))∧x7M (q1G s) (szS q1Y (q1F s) left))∧(decide (q3j (qK4 s) (szS q1Y (q1F s) left)<(0:Int))=true→VLe (vi (-1)) (vi (q3g s left)))∧(decide (q3j (qK4 s) (szS q1Y (q1F s) left)<(0:Int))=false→(VLe (q0D (q09 1) 1 s.marks) (q0D (q09 1) 1 (q4a s))∧x6d (q4a s) (q3j (qK4 s) (szS q1Y (q1F s) left)))∧(decide (szS q3l (q4a s) (q3j (qK4 s) (szS q1Y (q1F s) left))<(0:Int))=true→VLe (vi (-1)) (vi (q3g s left)))∧(decide (szS q3l (q4a s) (q3j (qK4 s) (szS q1Y (q1F s) left))<(0:Int))=false→VLe (vi (szS q3l (q4a s) (q3j (qK4 s) (szS q1Y (q1F s) left)))) (vi (q3g s left))))):=by
  delta qK4;delta q4a;delta q1G;delta q1F;delta vi;obtain⟨h0,hm,⟨hn,hnb⟩,hs,hk,hkb⟩:=hpre;simp only[q0o,q0p,q2i];have t1:=qFp q8p s.nodes left;have t2:=q8m s.sessions.length (szS q1Y s.nodes left);unfold q4w at hm;refine⟨⟨VLe.refl _,h0,by unfold q4w;omega,hn,hnb⟩,fun h=>?_,fun h=>?_⟩
  ·exact q0I (by unfold q3g;rw[if_pos (of_decide_eq_true h)])
  have g1:=of_decide_eq_false h;refine⟨⟨VLe.refl _,by omega,by unfold q4w;omega,hs⟩,fun h=>?_,fun h=>?_⟩
  ·exact q0I (by unfold q3g;rw[if_neg g1,if_pos (of_decide_eq_true h)])
  have g2:=of_decide_eq_false h;refine⟨⟨VLe.refl _,by omega,by unfold q4w;omega,hk,hkb⟩,fun h=>?_,fun h=>?_⟩
  ·exact q0I (by unfold q3g;rw[if_neg g1,if_neg g2,if_pos (of_decide_eq_true h)])
  ·exact q0I (by unfold q3g;rw[if_neg g1,if_neg g2,if_neg (of_decide_eq_false h)])
 exact Eq.mp (by kernel_rfl) key
theorem xHQ:q0R Tryz.prog 31 xCe:=by
 refine sob 0 Tryz.func31 fun args bin ob r bout hDe hob=>?_;unfold xCe at hDe;split at hDe
 ·rename_i a0 a1;cases hDe;exact okB (xGF (q0B a0) a1 (hob.2)) xGX (args_of_vles ⟨hob.1,VLe.refl _,trivial⟩)
 ·cases hDe
def qSS (x:q07):Prop:=True
noncomputable def qZH (x:q07):V:=q00 2 (x)
noncomputable def qWt:q0P:=fun args bin=>match args,bin with
 |[a0],[]=>some (VLe a0 (q00 1 ((q05 a0)))∧qSS (q05 a0),qZH (q05 a0),[])
 |_,_=>none
noncomputable def xDl:=lkR []
theorem x4j:q0C Tryz.prog xDl:=q04
noncomputable def x5G (x:q07):=cxN xDl Tryz.f154 [0,1,2,3]
theorem x4n (x:q07) (hpre:qSS x):q0d (x5G x) Tryz.f154 1 [q00 1 (x)] (fun rr=>VLe rr (qZH x)):=by
 have key:VLe (q00 1 x) (q00 1 x):=by
  exact q21 ⟨VLe.refl _,VLe.refl _,trivial⟩
 exact Eq.mp (by kernel_rfl) key
theorem x83:q0R Tryz.prog 154 qWt:=by
 refine sob 1 Tryz.func154 fun args bin ob r bout hDe hob=>?_;unfold qWt at hDe;split at hDe
 ·rename_i a0;cases hDe;exact okB (x4n (q05 a0) (hob.2)) x4j (args_of_vles ⟨hob.1,trivial⟩)
 ·cases hDe
noncomputable def qO8 (xs:List q07) (x:Nat×List q07):V:=q00 1 (xs.getD (↑x.1:Int).toNat default)
def qVh (xs:List q07) (x:Nat×List q07):Prop:=Prod.fst x≤xs.length∧(x.2.length=xs.length∧∀j:Nat,j<Prod.fst x→x.2.getD j default=xs.getD j default)
def qVe (x:q2E):Prop:=True
noncomputable def x3b (x:q2E):V:=q0V 2 (x)
noncomputable def qYI:q0P:=fun args bin=>match args,bin with
 |[a0],[]=>some (VLe a0 (q0V 1 ((q0q a0)))∧qVe (q0q a0),x3b (q0q a0),[])
 |_,_=>none
noncomputable def xEA:=lkR []
theorem xAL:q0C Tryz.prog xEA:=q04
noncomputable def x5r (x:q2E):=cxN xEA Tryz.f222 [0,1,2,3]
theorem x9C (x:q2E) (hpre:qVe x):q0d (x5r x) Tryz.f222 1 [q0V 1 (x)] (fun rr=>VLe rr (x3b x)):=by
 have key:VLe (q0V 1 x) (q0V 1 x):=by
  exact q21 ⟨VLe.refl _,VLe.refl _,VLe.refl _,trivial⟩
 exact Eq.mp (by kernel_rfl) key
theorem x5k:q0R Tryz.prog 222 qYI:=by
 refine sob 1 Tryz.func222 fun args bin ob r bout hDe hob=>?_;unfold qYI at hDe;split at hDe
 ·rename_i a0;cases hDe;exact okB (x9C (q0q a0) (hob.2)) xAL (args_of_vles ⟨hob.1,trivial⟩)
 ·cases hDe
def qTw (x:q0U):Prop:=True
noncomputable def x2A (x:q0U):V:=q09 2 (x)
noncomputable def qYN:q0P:=fun args bin=>match args,bin with
 |[a0],[]=>some (VLe a0 (q09 1 ((q0H a0)))∧qTw (q0H a0),x2A (q0H a0),[])
 |_,_=>none
noncomputable def xDJ:=lkR [(222,qYI)]
theorem x85:q0C Tryz.prog xDJ:=q02 x5k (q04)
noncomputable def x9p (x:q0U):=cxN xDJ Tryz.f155 [0,1,2,3]
theorem x5K (x:q0U) (hpre:qTw x):q0d (x9p x) Tryz.f155 1 [q09 1 (x)] (fun rr=>VLe rr (x2A x)):=by
 have key:(VLe (q0V 1 x.reply) (q0V 1 (q0q (q0V 1 x.reply)))∧qVe (q0q (q0V 1 x.reply)))∧VLe (q09 1 x) (q09 1 x):=by
  simp only[q4D];exact⟨⟨VLe.refl _,trivial⟩,VLe.refl _⟩
 exact Eq.mp (by kernel_rfl) key
theorem x9v:q0R Tryz.prog 155 qYN:=by
 refine sob 1 Tryz.func155 fun args bin ob r bout hDe hob=>?_;unfold qYN at hDe;split at hDe
 ·rename_i a0;cases hDe;exact okB (x5K (q0H a0) (hob.2)) x85 (args_of_vles ⟨hob.1,trivial⟩)
 ·cases hDe
noncomputable def qPj (xs:List q0U) (x:Nat×List q0U):V:=q09 1 (xs.getD (↑x.1:Int).toNat default)
def qVk (xs:List q0U) (x:Nat×List q0U):Prop:=Prod.fst x≤xs.length∧(x.2.length=xs.length∧∀j:Nat,j<Prod.fst x→x.2.getD j default=xs.getD j default)
noncomputable def qRM (s:q06):V:=q0D (q00 1) 1 s.sessions
noncomputable def q9Z (s:q06):V:=q0D (q01 1) 1 s.nodes
noncomputable def qP2 (s:q06):V:=q0D (q09 1) 1 s.marks
def qTL (x:q07) (y:q07):Prop:=True
noncomputable def x1A (x:q07) (y:q07):V:=.bool (decide (x=y))
noncomputable def qVd:q0P:=fun args bin=>match args,bin with
 |[a0,a1],[]=>some (VLe a0 (q00 1 ((q05 a0)))∧VLe a1 (q00 1 ((q05 a1)))∧qTL (q05 a0) (q05 a1),x1A (q05 a0) (q05 a1),[])
 |_,_=>none
noncomputable def xF1:=lkR []
theorem x8k:q0C Tryz.prog xF1:=q04
noncomputable def x6e (x:q07) (y:q07):=cxN xF1 Tryz.f165 [0,1,2,3,4,9,14]
theorem x6q (x:q07) (y:q07) (hpre:qTL x y):q0d (x6e x y) Tryz.f165 0 [q00 1 (x),q00 1 (y)] (fun rr=>VLe rr (x1A x y)):=by
 have key:((x.id !=y.id)=true→VLe (V.bool false) (V.bool (decide (x=y))))∧((x.id !=y.id)=false→((x.upto !=y.upto)=true→VLe (V.bool false) (V.bool (decide (x=y))))∧((x.upto !=y.upto)=false→VLe (V.bool true) (V.bool (decide (x=y))))):=by
  simp[qEU]
  grind
 exact Eq.mp (by kernel_rfl) key
theorem x63:q0R Tryz.prog 165 qVd:=by
 refine sob 0 Tryz.func165 fun args bin ob r bout hDe hob=>?_;unfold qVd at hDe;split at hDe
 ·rename_i a0 a1;cases hDe;exact okB (x6q (q05 a0) (q05 a1) (hob.2.2)) x8k (args_of_vles ⟨hob.1,hob.2.1,trivial⟩)
 ·cases hDe
def x4H (xs:List q07) (ys:List q07):Prop:=xs.length≤maxLen∧∀x∈xs,∀y,qTL x y
noncomputable def xEJ (xs:List q07) (ys:List q07):V:=.bool (decide (xs=ys))
noncomputable def x9I:q0P:=fun args bin=>match args,bin with
 |[a0,a1],[]=>some (VLe a0 (q0D (q00 1) 1 (((q0K q05) a0)))∧VLe a1 (q0D (q00 1) 1 (((q0K q05) a1)))∧x4H ((q0K q05) a0) ((q0K q05) a1),xEJ ((q0K q05) a0) ((q0K q05) a1),[])
 |_,_=>none
noncomputable def x0G (xs:List q07) (ys:List q07):q0M:=
 ⟨Nat,fun i=>⟨[(0,q0D (q00 1) 1 xs),(1,q0D (q00 1) 1 ys),(5,.int .i64 i)],[]⟩,
  fun i=>i≤xs.length∧xs.length=ys.length∧∀j,j<i→xs.getD j default=ys.getD j default,fun i=>xs.length-i⟩
noncomputable def xH0 (xs:List q07) (ys:List q07):Nat→Option q0M:=fun rg_=>match rg_ with
 |4=>some (x0G xs ys)
 |_=>none
noncomputable def D97:=lkR [(165,qVd)]
theorem xGi:q0C Tryz.prog D97:=q02 x63 (q04)
noncomputable def xGo (xs:List q07) (ys:List q07):=cxL D97 Tryz.f97 [0,1,4,5,10,14,26] [(4,⟨[(0,none),(1,none),(5,none)],[]⟩)] (xH0 xs ys) []
noncomputable def qMm (ys:List q07) (x:Nat):V:=q00 1 (ys.getD (↑x:Int).toNat default)
def qVN (xs:List q07) (ys:List q07) (x:Nat):Prop:=x≤xs.length∧(xs.length=ys.length∧∀j:Nat,j<x→xs.getD j default=ys.getD j default)
theorem xH7 (xs:List q07) (ys:List q07) (hpre:x4H xs ys):q0d (xGo xs ys) Tryz.f97 0 [q0D (q00 1) 1 (xs),q0D (q00 1) 1 (ys)] (fun rr=>VLe rr (xEJ xs ys)):=by
 have key:(((↑ xs.length:Int)!=(↑ ys.length:Int))=true→VLe (V.bool false) (V.bool (decide (xs=ys))))∧(((↑ xs.length:Int)!=(↑ ys.length:Int))=false→((∃x:Nat,SLe (AS.mk [(0,q0D (q00 1) 1 xs),(1,q0D (q00 1) 1 ys),(5,vi 0)] []) (AS.mk [(0,q0D (q00 1) 1 xs),(1,q0D (q00 1) 1 ys),(5,vi (↑x:Int))] [])∧qVN xs ys x)∧∀x:Nat,qVN xs ys x→(decide ((↑x:Int)<(↑ xs.length:Int))=true→(0≤(↑x:Int)∧(↑x:Int)<(↑ xs.length:Int))∧(0≤(↑x:Int)∧(↑x:Int)<(↑ ys.length:Int))∧(VLe (q37 xs x) (q00 1 (q05 (q37 xs x)))∧VLe (qMm ys x) (q00 1 (q05 (qMm ys x)))∧qTL (q05 (q37 xs x)) (q05 (qMm ys x)))∧((!decide (q05 (q37 xs x)=q05 (qMm ys x)))=true→VLe (V.bool false) (V.bool (decide (xs=ys))))∧((!decide (q05 (q37 xs x)=q05 (qMm ys x)))=false→(inK IntKind.i64 ((↑x:Int)+1)∧∃y:Nat,SLe (AS.mk [(0,q0D (q00 1) 1 xs),(1,q0D (q00 1) 1 ys),(5,vi ((↑x:Int)+1))] []) (AS.mk [(0,q0D (q00 1) 1 xs),(1,q0D (q00 1) 1 ys),(5,vi (↑y:Int))] [])∧(y≤xs.length∧(xs.length=ys.length∧∀j:Nat,j<y→xs.getD j default=ys.getD j default))∧xs.length-y<xs.length-x)))∧(decide ((↑x:Int)<(↑ xs.length:Int))=false→VLe (V.bool true) (V.bool (decide (xs=ys)))))):=by
  delta qVN;delta qMm;delta q37;delta vi;unfold x4H maxLen at hpre;obtain⟨hpre,hel⟩:=hpre;refine⟨fun h=>?_,fun h=>?_⟩
  ·refine q0Z ?_;have hne:xs≠ys:=fun e=>by subst e;simp at h
   simp[hne]
  ·have hlen:xs.length=ys.length:=by simp at h;omega
   refine⟨⟨0,SLe.refl _,by omega,hlen,fun j hj=>absurd hj (Nat.not_lt_zero j)⟩,?_⟩;rintro i ⟨hi,_,hj⟩;refine⟨fun h=>?_,fun h=>?_⟩
   ·have hlt:i<xs.length:=by simpa using h
    have hin:xs.getD i default∈xs:=by simp[hlt]
    simp only[q2K,Int.toNat_natCast];refine⟨⟨by omega,by omega⟩,⟨by omega,by omega⟩,⟨VLe.refl _,VLe.refl _,hel _ hin _⟩,fun h2=>?_,fun h2=>⟨q0X (by omega),i+1,SLe.refl _,⟨by omega,hlen,fun j h3=>?_⟩,by omega⟩⟩
    ·refine q0Z ?_;have hne:xs≠ys:=fun e=>by subst e;simp at h2
     simp[hne]
    ·rcases Nat.lt_or_ge j i with h4|h4
     ·exact hj j h4
     ·have:j=i:=by omega
      subst this;simpa using h2
   ·refine q0Z ?_;have hge:i=xs.length:=by simp at h;omega
    have heq:xs=ys:=by
     refine List.ext_getElem hlen fun k h1 h2=>?_;have:=hj k (by omega);simpa[h1,h2]using this
    simp[heq]
 exact Eq.mp (by kernel_rfl) key
theorem xGV:q0R Tryz.prog 97 x9I:=by
 refine sob 0 Tryz.func97 fun args bin ob r bout hDe hob=>?_;unfold x9I at hDe;split at hDe
 ·rename_i a0 a1;cases hDe;exact okB (xH7 ((q0K q05) a0) ((q0K q05) a1) (hob.2.2)) xGi (args_of_vles ⟨hob.1,hob.2.1,trivial⟩)
 ·cases hDe
def x4B (x:q2E) (y:q2E):Prop:=True
noncomputable def xEX (x:q2E) (y:q2E):V:=.bool (decide (x=y))
noncomputable def x4J:q0P:=fun args bin=>match args,bin with
 |[a0,a1],[]=>some (VLe a0 (q0V 1 ((q0q a0)))∧VLe a1 (q0V 1 ((q0q a1)))∧x4B (q0q a0) (q0q a1),xEX (q0q a0) (q0q a1),[])
 |_,_=>none
noncomputable def D65:=lkR []
theorem xFo:q0C Tryz.prog D65:=q04
noncomputable def xFW (x:q2E) (y:q2E):=cxN D65 Tryz.f65 [0,1,2,3,4,9,14,19]
theorem xG9 (x:q2E) (y:q2E) (hpre:x4B x y):q0d (xFW x y) Tryz.f65 0 [q0V 1 (x),q0V 1 (y)] (fun rr=>VLe rr (xEX x y)):=by
 have key:((x.code !=y.code)=true→VLe (V.bool false) (V.bool (decide (x=y))))∧((x.code !=y.code)=false→((x.value !=y.value)=true→VLe (V.bool false) (V.bool (decide (x=y))))∧((x.value !=y.value)=false→((!q1t x.path y.path)=true→VLe (V.bool false) (V.bool (decide (x=y))))∧((!q1t x.path y.path)=false→VLe (V.bool true) (V.bool (decide (x=y)))))):=by
  simp[qLm,q1W]
  grind
 exact Eq.mp (by kernel_rfl) key
theorem xDo:q0R Tryz.prog 65 x4J:=by
 refine sob 0 Tryz.func65 fun args bin ob r bout hDe hob=>?_;unfold x4J at hDe;split at hDe
 ·rename_i a0 a1;cases hDe;exact okB (xG9 (q0q a0) (q0q a1) (hob.2.2)) xFo (args_of_vles ⟨hob.1,hob.2.1,trivial⟩)
 ·cases hDe
def qT0 (x:q0U) (y:q0U):Prop:=True
noncomputable def x3F (x:q0U) (y:q0U):V:=.bool (decide (x=y))
noncomputable def qY9:q0P:=fun args bin=>match args,bin with
 |[a0,a1],[]=>some (VLe a0 (q09 1 ((q0H a0)))∧VLe a1 (q09 1 ((q0H a1)))∧qT0 (q0H a0) (q0H a1),x3F (q0H a0) (q0H a1),[])
 |_,_=>none
noncomputable def xEc:=lkR [(65,x4J)]
theorem x6M:q0C Tryz.prog xEc:=q02 xDo (q04)
noncomputable def x5N (x:q0U) (y:q0U):=cxN xEc Tryz.f166 [0,1,2,3,4,9,14,20]
noncomputable def qEn (x:q0U):V:=q0V 1 x.reply
noncomputable def qE8 (y:q0U):V:=q0V 1 y.reply
theorem x8e (x:q0U) (y:q0U) (hpre:qT0 x y):q0d (x5N x y) Tryz.f166 0 [q09 1 (x),q09 1 (y)] (fun rr=>VLe rr (x3F x y)):=by
 have key:((x.client !=y.client)=true→VLe (V.bool false) (V.bool (decide (x=y))))∧((x.client !=y.client)=false→((x.number !=y.number)=true→VLe (V.bool false) (V.bool (decide (x=y))))∧((x.number !=y.number)=false→(VLe (qEn x) (q0V 1 (q0q (qEn x)))∧VLe (qE8 y) (q0V 1 (q0q (qE8 y)))∧x4B (q0q (qEn x)) (q0q (qE8 y)))∧((!decide (q0q (qEn x)=q0q (qE8 y)))=true→VLe (V.bool false) (V.bool (decide (x=y))))∧((!decide (q0q (qEn x)=q0q (qE8 y)))=false→VLe (V.bool true) (V.bool (decide (x=y)))))):=by
  delta qE8;delta qEn;simp only[q4D];refine⟨fun h=>q0Z ?_,fun h=>⟨fun h2=>q0Z ?_,fun h2=>⟨⟨VLe.refl _,VLe.refl _,trivial⟩,fun h3=>q0Z ?_,fun h3=>q0Z ?_⟩⟩⟩
  all_goals simp_all [qKL]
 exact Eq.mp (by kernel_rfl) key
theorem x4u:q0R Tryz.prog 166 qY9:=by
 refine sob 0 Tryz.func166 fun args bin ob r bout hDe hob=>?_;unfold qY9 at hDe;split at hDe
 ·rename_i a0 a1;cases hDe;exact okB (x8e (q0H a0) (q0H a1) (hob.2.2)) x6M (args_of_vles ⟨hob.1,hob.2.1,trivial⟩)
 ·cases hDe
def x4O (xs:List q0U) (ys:List q0U):Prop:=xs.length≤maxLen∧∀x∈xs,∀y,qT0 x y
noncomputable def xEl (xs:List q0U) (ys:List q0U):V:=.bool (decide (xs=ys))
noncomputable def x9s:q0P:=fun args bin=>match args,bin with
 |[a0,a1],[]=>some (VLe a0 (q0D (q09 1) 1 (((q0K q0H) a0)))∧VLe a1 (q0D (q09 1) 1 (((q0K q0H) a1)))∧x4O ((q0K q0H) a0) ((q0K q0H) a1),xEl ((q0K q0H) a0) ((q0K q0H) a1),[])
 |_,_=>none
noncomputable def x1W (xs:List q0U) (ys:List q0U):q0M:=
 ⟨Nat,fun i=>⟨[(0,q0D (q09 1) 1 xs),(1,q0D (q09 1) 1 ys),(5,.int .i64 i)],[]⟩,
  fun i=>i≤xs.length∧xs.length=ys.length∧∀j,j<i→xs.getD j default=ys.getD j default,fun i=>xs.length-i⟩
noncomputable def xGp (xs:List q0U) (ys:List q0U):Nat→Option q0M:=fun rg_=>match rg_ with
 |4=>some (x1W xs ys)
 |_=>none
noncomputable def D98:=lkR [(166,qY9)]
theorem xFZ:q0C Tryz.prog D98:=q02 x4u (q04)
noncomputable def xHL (xs:List q0U) (ys:List q0U):=cxL D98 Tryz.f98 [0,1,4,5,10,14,26] [(4,⟨[(0,none),(1,none),(5,none)],[]⟩)] (xGp xs ys) []
noncomputable def qBs (xs:List q0U) (x:Nat):V:=q09 1 (xs.getD (↑x:Int).toNat default)
noncomputable def qMS (ys:List q0U) (x:Nat):V:=q09 1 (ys.getD (↑x:Int).toNat default)
def qWA (xs:List q0U) (ys:List q0U) (x:Nat):Prop:=x≤xs.length∧(xs.length=ys.length∧∀j:Nat,j<x→xs.getD j default=ys.getD j default)
theorem xH5 (xs:List q0U) (ys:List q0U) (hpre:x4O xs ys):q0d (xHL xs ys) Tryz.f98 0 [q0D (q09 1) 1 (xs),q0D (q09 1) 1 (ys)] (fun rr=>VLe rr (xEl xs ys)):=by
 have key:(((q4O xs)!=(↑ ys.length:Int))=true→VLe (V.bool false) (V.bool (decide (xs=ys))))∧(((q4O xs)!=(↑ ys.length:Int))=false→((∃x:Nat,SLe (AS.mk [(0,q0D (q09 1) 1 xs),(1,q0D (q09 1) 1 ys),(5,vi 0)] []) (AS.mk [(0,q0D (q09 1) 1 xs),(1,q0D (q09 1) 1 ys),(5,vi (↑x:Int))] [])∧qWA xs ys x)∧∀x:Nat,qWA xs ys x→(decide ((↑x:Int)<(q4O xs))=true→(0≤(↑x:Int)∧(↑x:Int)<(q4O xs))∧(0≤(↑x:Int)∧(↑x:Int)<(↑ ys.length:Int))∧(VLe (qBs xs x) (q09 1 (q0H (qBs xs x)))∧VLe (qMS ys x) (q09 1 (q0H (qMS ys x)))∧qT0 (q0H (qBs xs x)) (q0H (qMS ys x)))∧((!decide (q0H (qBs xs x)=q0H (qMS ys x)))=true→VLe (V.bool false) (V.bool (decide (xs=ys))))∧((!decide (q0H (qBs xs x)=q0H (qMS ys x)))=false→(inK IntKind.i64 ((↑x:Int)+1)∧∃y:Nat,SLe (AS.mk [(0,q0D (q09 1) 1 xs),(1,q0D (q09 1) 1 ys),(5,vi ((↑x:Int)+1))] []) (AS.mk [(0,q0D (q09 1) 1 xs),(1,q0D (q09 1) 1 ys),(5,vi (↑y:Int))] [])∧(y≤xs.length∧(xs.length=ys.length∧∀j:Nat,j<y→xs.getD j default=ys.getD j default))∧xs.length-y<xs.length-x)))∧(decide ((↑x:Int)<(q4O xs))=false→VLe (V.bool true) (V.bool (decide (xs=ys)))))):=by
  delta q4O;delta qWA;delta qMS;delta qBs;delta vi;unfold x4O maxLen at hpre;obtain⟨hpre,hel⟩:=hpre;refine⟨fun h=>?_,fun h=>?_⟩
  ·refine q0Z ?_;have hne:xs≠ys:=fun e=>by subst e;simp at h
   simp[hne]
  ·have hlen:xs.length=ys.length:=by simp at h;omega
   refine⟨⟨0,SLe.refl _,by omega,hlen,fun j hj=>absurd hj (Nat.not_lt_zero j)⟩,?_⟩;rintro i ⟨hi,_,hj⟩;refine⟨fun h=>?_,fun h=>?_⟩
   ·have hlt:i<xs.length:=by simpa using h
    have hin:xs.getD i default∈xs:=by simp[hlt]
    simp only[q2h,Int.toNat_natCast];refine⟨⟨by omega,by omega⟩,⟨by omega,by omega⟩,⟨VLe.refl _,VLe.refl _,hel _ hin _⟩,fun h2=>?_,fun h2=>⟨q0X (by omega),i+1,SLe.refl _,⟨by omega,hlen,fun j h3=>?_⟩,by omega⟩⟩
    ·refine q0Z ?_;have hne:xs≠ys:=fun e=>by subst e;simp at h2
     simp[hne]
    ·rcases Nat.lt_or_ge j i with h4|h4
     ·exact hj j h4
     ·have:j=i:=by omega
      subst this;simpa using h2
   ·refine q0Z ?_;have hge:i=xs.length:=by simp at h;omega
    have heq:xs=ys:=by
     refine List.ext_getElem hlen fun k h1 h2=>?_;have:=hj k (by omega);simpa[h1,h2]using this
    simp[heq]
 exact Eq.mp (by kernel_rfl) key
theorem xFd:q0R Tryz.prog 98 x9s:=by
 refine sob 0 Tryz.func98 fun args bin ob r bout hDe hob=>?_;unfold x9s at hDe;split at hDe
 ·rename_i a0 a1;cases hDe;exact okB (xH5 ((q0K q0H) a0) ((q0K q0H) a1) (hob.2.2)) xFZ (args_of_vles ⟨hob.1,hob.2.1,trivial⟩)
 ·cases hDe
noncomputable def qNU (x:q06):V:=q0D (q00 1) 1 x.sessions
noncomputable def qNM (y:q06):V:=q0D (q00 1) 1 y.sessions
noncomputable def qMW (x:q06):V:=q0D (q01 1) 1 x.nodes
noncomputable def qMh (y:q06):V:=q0D (q01 1) 1 y.nodes
noncomputable def qMU (x:q06):V:=q0D (q09 1) 1 x.marks
noncomputable def qMc (y:q06):V:=q0D (q09 1) 1 y.marks
def qRf (x:q06) (y:q06):Prop:=VLe (V.bool false) (V.bool (decide (x=y)))
def qN1 (n:Int):Prop:=True
noncomputable def x07 (n:Int):V:=.bool (decide (inR n 0 9000))
noncomputable def qNe:q0P:=fun args bin=>match args,bin with
 |[.int .i64 a0],[]=>some (qN1 a0,x07 a0,[])
 |_,_=>none
noncomputable def xDs:=lkR [(120,q9i)]
theorem x7o:q0C Tryz.prog xDs:=q02 qBu (q04)
noncomputable def x6L (n:Int):=cxN xDs Tryz.f119 [0,2]
theorem x64 (n:Int) (hpre:qN1 n):q0d (x6L n) Tryz.f119 0 [.int .i64 (n)] (fun rr=>VLe rr (x07 n)):=by
 have key:q64 n (0:Int) (9000:Int)∧VLe (V.bool (decide (inR n 0 9000))) (V.bool (decide (inR n 0 9000))):=by
  exact⟨trivial,VLe.refl _⟩
 exact Eq.mp (by kernel_rfl) key
theorem qVq:q0R Tryz.prog 119 qNe:=by
 refine sob 0 Tryz.func119 fun args bin ob r bout hDe hob=>?_;unfold qNe at hDe;split at hDe
 ·rename_i a0;cases hDe;exact okB (x64 a0 (hob)) x7o (args_of_vles ⟨VLe.refl _,trivial⟩)
 ·cases hDe
def qPe (n:Int):Prop:=True
noncomputable def x1k (n:Int):V:=.bool (decide (inR n 0 9000))
noncomputable def qSN:q0P:=fun args bin=>match args,bin with
 |[.int .i64 a0],[]=>some (qPe a0,x1k a0,[])
 |_,_=>none
noncomputable def xE0:=lkR [(151,qA8)]
theorem x9t:q0C Tryz.prog xE0:=q02 qBp (q04)
noncomputable def xBB (n:Int):=cxN xE0 Tryz.f137 [0,2]
theorem x6J (n:Int) (hpre:qPe n):q0d (xBB n) Tryz.f137 0 [.int .i64 (n)] (fun rr=>VLe rr (x1k n)):=by
 have key:q62 n (0:Int) (9000:Int)∧VLe (V.bool (decide (inR n 0 9000))) (V.bool (decide (inR n 0 9000))):=by
  exact⟨trivial,VLe.refl _⟩
 exact Eq.mp (by kernel_rfl) key
theorem x3a:q0R Tryz.prog 137 qSN:=by
 refine sob 0 Tryz.func137 fun args bin ob r bout hDe hob=>?_;unfold qSN at hDe;split at hDe
 ·rename_i a0;cases hDe;exact okB (x6J a0 (hob)) x9t (args_of_vles ⟨VLe.refl _,trivial⟩)
 ·cases hDe
abbrev atS (l:List q07) (i:Nat):q07:=l.getD i default
noncomputable def q8Z (l:List q07) (i:Nat):Int:=if¬(inR (atS l i).id 1 9∧inR (atS l i).upto 0 9999)then 3 else if 0<i∧(atS l i).id≤(atS l (i-1)).id then 1 else 0
noncomputable def q1q (l:List q07):Int:=if 6<l.length then 2 else q1s (q8Z l) l.length
def q5B (r:q2E):Prop:=inR r.code 0 10∧inR r.value (-1) 9999∧r.path.size≤24
noncomputable instance (r:q2E):Decidable (q5B r):=Classical.propDecidable _
def qBw (c n:Int) (m:q0U):Bool:=decide (m.client=c∧m.number=n)
def q72 (l:List q0U) (c n:Int):Int:=q5l (qBw c n) l
abbrev q8V (l:List q0U) (i:Nat):q0U:=l.getD i default
noncomputable def q9b (l:List q0U) (i:Nat):Int:=
 if¬(inR (q8V l i).client 1 9∧inR (q8V l i).number 1 99∧q5B (q8V l i).reply)then 3 else if 0≤q72 (l.take i) (q8V l i).client (q8V l i).number then 6 else 0
noncomputable def q1a (s:q06):Int:=
 if q1A s.nodes≠0 then q1A s.nodes else if q1q s.sessions≠0 then q1q s.sessions else if¬inR s.now 0 9000 then 3
 else if 40<s.marks.length then 2 else q1s (q9b s.marks) s.marks.length
theorem qP5 {l:List q0U} {i:Nat} (h:i<l.length):q72 l (q8V l i).client (q8V l i).number=i↔¬0≤q72 (l.take i) (q8V l i).client (q8V l i).number:=by
 have hn:0≤q72 (l.take i) (q8V l i).client (q8V l i).number↔∃x∈l.take i,qBw (q8V l i).client (q8V l i).number x=true:=by
  have:=q6O (qBw (q8V l i).client (q8V l i).number) (l.take i);rw[←List.any_eq_true,←this,decide_eq_true_eq];exact Iff.rfl
 rw[hn];constructor
 ·rintro e ⟨x,hx,hm⟩;obtain⟨_,_,h3⟩:=q9u e;obtain⟨j,h1,h2,rfl⟩:=qMA.1 hx;rw[h3 j h1]at hm;cases hm
 ·intro hm;refine q3i h (fun j hj=>?_) (decide_eq_true ⟨rfl,rfl⟩);cases hc:qBw (q8V l i).client (q8V l i).number (l.getD j default)with
  |false=>rfl
  |true=>exact absurd ⟨_,qMA.2 ⟨j,hj,by omega,rfl⟩,hc⟩ hm
theorem q9x {l:List q07} {i:Nat} (h1:¬6<l.length) (hz:q1s (q8Z l) i=0) (hlt:i<l.length) {c:Int} (hc:c=q8Z l i) (h0:c≠0):VLe (.int .i64 c) (.int .i64 (q1q l)):=
 q0I (by
  unfold q1q;rw[if_neg h1,q5T hz (by rw[←hc];exact h0) _ hlt,hc])
abbrev qAZ:=q0U
def q7o (t:Nat) (x:q0U):V:=.ptr (q09 t x).cells 2 t
def q3d:V→q0U
 | .ptr cs _ _=>q0H (.agg cs)
 |_=>default
@[simp] theorem qR9 (t:Nat) (x:q0U):q3d (q7o t x)=x:=q2h t x
theorem qEJ (m:q0U):q3d (.ptr [.int .i64 m.client,.int .i64 m.number,.int .i64 m.reply.code,.int .i64 m.reply.value,.str m.reply.path] 2 1)=m:=rfl
def qOX (l:List q07):Prop:=l.length≤maxLen
noncomputable def x0p (l:List q07):V:=.int .i64 (q1q l)
noncomputable def qSf:q0P:=fun args bin=>match args,bin with
 |[a0],[]=>some (VLe a0 (q0D (q00 1) 1 (((q0K q05) a0)))∧qOX ((q0K q05) a0),x0p ((q0K q05) a0),[])
 |_,_=>none
noncomputable def qYC (l:List q07):q0M:=
 ⟨Nat,fun i=>⟨[(0,q0D (q00 1) 1 l),(8,q0D (q00 1) 1 l),(9,.int .i64 l.length),(10,.int .i64 i)],[]⟩,
  fun i=>i≤l.length∧q1s (q8Z l) i=0,fun i=>l.length-i⟩
noncomputable def x6G (l:List q07):Nat→Option q0M:=fun rg_=>match rg_ with
 |4=>some (qYC l)
 |_=>none
noncomputable def xEs:=lkR [(107,qMa),(120,q9i)]
theorem x8J:q0C Tryz.prog xEs:=q02 qT1 (q02 qBu (q04))
noncomputable def x4k (l:List q07):=cxL xEs Tryz.f118 [0,2,3,4,7,8,9,10,11,24,37] [(4,⟨[(0,none),(8,none),(9,none),(10,none)],[]⟩)] (x6G l) []
noncomputable def q4o (l:List q07) (x:Nat):Int:=(l.getD (↑x:Int).toNat default).id
theorem xBt (l:List q07) (hpre:qOX l):q0d (x4k l) Tryz.f118 0 [q0D (q00 1) 1 (l)] (fun rr=>VLe rr (x0p l)):=by
 have key:(decide ((q0O l)>6)=true→VLe (vi 2) (vi (q1q l)))∧(decide ((q0O l)>6)=false→((∃x:Nat,SLe (AS.mk [(0,q0D (q00 1) 1 l),(8,q0D (q00 1) 1 l),(9,vi (q0O l)),(10,vi 0)] []) (AS.mk [(0,q0D (q00 1) 1 l),(8,q0D (q00 1) 1 l),(9,vi (q0O l)),(10,vi (↑x:Int))] [])∧x≤l.length∧q1s (q8Z l) x=(0:Int))∧∀x:Nat,x≤l.length∧q1s (q8Z l) x=(0:Int)→(decide ((↑x:Int)<(q0O l))=true→(0≤(↑x:Int)∧(↑x:Int)<(q0O l))∧qGK (q4o l x)∧tq (!!decide (inR (q4o l x) (1:Int) (9:Int)))∧tq (!!decide (inR (q4o l x) (1:Int) (9:Int)))∧((!!decide (inR (q4o l x) (1:Int) (9:Int)))=true→q64 (l.getD (↑x:Int).toNat default).upto (0:Int) (9999:Int))∧tq (!!decide (inR (q4o l x) (1:Int) (9:Int)))∧((true=true→(!decide (inR (q4o l x) (1:Int) (9:Int)))=false→(!!decide (inR (q4o l x) (1:Int) (9:Int)))=true)∧∀b:Bool,(b=bif !decide (inR (q4o l x) (1:Int) (9:Int))then true else !decide (inR (l.getD (↑x:Int).toNat default).upto (0:Int) (9999:Int)))→(b=true→VLe (vi 3) (vi (q1q l)))∧(b=false→tq (q1x x)∧tq (q1x x)∧(q4W x→inK IntKind.i64 ((↑x:Int)-1))∧tq (q1x x)∧tq (q1x x)∧(q4W x→0≤(↑x:Int)-1∧(↑x:Int)-1<(q0O l))∧tq (q1x x)∧tq (q1x x)∧tq (q1x x)∧tq (q1x x)∧((true=true→q4W x→q4W x)∧∀b_1:Bool,(b_1=bif decide ((↑x:Int)>0)then decide ((l.getD (↑x:Int).toNat default).id≤(l.getD ((↑x:Int)-1).toNat default).id)else false)→(b_1=true→VLe (vi 1) (vi (q1q l)))∧(b_1=false→(inK IntKind.i64 ((↑x:Int)+1)∧∃y:Nat,SLe (AS.mk [(0,q0D (q00 1) 1 l),(8,q0D (q00 1) 1 l),(9,vi (q0O l)),(10,vi ((↑x:Int)+1))] []) (AS.mk [(0,q0D (q00 1) 1 l),(8,q0D (q00 1) 1 l),(9,vi (q0O l)),(10,vi (↑y:Int))] [])∧(y≤l.length∧q1s (q8Z l) y=(0:Int))∧l.length-y<l.length-x))))))∧(decide ((↑x:Int)<(q0O l))=false→VLe (vi 0) (vi (q1q l))))):=by
  delta q4W;delta q0O;delta q1x;delta q4o;delta vi;have hl:l.length≤maxLen:=hpre;unfold maxLen at hl;refine⟨fun h=>?_,fun h=>?_⟩
  ·have h1:6<l.length:=by have:=of_decide_eq_true h;omega
   exact q0I (by unfold q1q;rw[if_pos h1])
  have h1:¬6<l.length:=by have:=of_decide_eq_false h;omega
  refine⟨⟨0,SLe.refl _,by omega,rfl⟩,?_⟩;rintro i ⟨hi,hz⟩;refine⟨fun h2=>?_,fun h2=>?_⟩
  ·have hlt:i<l.length:=by have:=of_decide_eq_true h2;omega
   simp only[Int.toNat_natCast];refine⟨⟨by omega,by omega⟩,trivial,?_⟩
   repeat (first|(refine And.intro (fun h _=>h) ?_)|(refine And.intro (fun _ h=>h) ?_)|(refine And.intro ?aa ?_;case aa=>(exact(tqI _)))|(refine And.intro ?aa ?_;case aa=>(exact(fun _=>trivial)))|(refine And.intro ?aa ?_;case aa=>(exact(fun _=>⟨by omega,by omega⟩)))|(refine And.intro ?aa ?_;case aa=>(intros;simp_all [qGK,q64];done))|(refine And.intro ?aa ?_;case aa=>(intros;exact q0X (by omega)))|(refine And.intro ?aa ?_;case aa=>(intros;simp only[decide_eq_true_eq]at *;omega))|(intro q hq))
   have e0:q=decide (¬(inR (atS l i).id 1 9∧inR (atS l i).upto 0 9999)):=by
    rw[hq,Bool.eq_iff_iff,decide_eq_true_eq];by_cases a1:inR (atS l i).id 1 9<;>by_cases a2:inR (atS l i).upto 0 9999<;>simp only[a1,a2,decide_true,decide_false,Bool.not_true,Bool.not_false,cond_true,cond_false,and_true,true_and,and_false,false_and,not_true_eq_false,not_false_eq_true,Bool.false_eq_true]
   clear hq;rw[e0];refine⟨fun h5=>q9x h1 hz hlt (by unfold q8Z;rw[if_pos (of_decide_eq_true h5)]) (by decide),fun h5=>?_⟩;clear e0
   repeat (first|(refine And.intro (fun h _=>h) ?_)|(refine And.intro (fun _ h=>h) ?_)|(refine And.intro ?aa ?_;case aa=>(exact(tqI _)))|(refine And.intro ?aa ?_;case aa=>(exact(fun h=>q0X (by omega))))|(refine And.intro ?aa ?_;case aa=>(exact(fun h=>⟨by have:=of_decide_eq_true h;omega,by omega⟩)))|(refine And.intro ?aa ?_;case aa=>(intros;simp_all [qGK,q64];done))|(refine And.intro ?aa ?_;case aa=>(intros;exact q0X (by omega)))|(refine And.intro ?aa ?_;case aa=>(intros;simp only[decide_eq_true_eq]at *;omega))|(intro q hq))
   have e3:q=decide (0<i∧(atS l i).id≤(atS l (i-1)).id):=by
    rw[hq,Bool.eq_iff_iff,decide_eq_true_eq];by_cases a1:0<i
    ·have n1:((i:Int)-1).toNat=i-1:=by omega
     have a2:decide ((i:Int)>0)=true:=decide_eq_true (by omega);rw[a2,n1];simp only[cond_true,decide_eq_true_eq,a1,true_and]
    ·have a2:decide ((i:Int)>0)=false:=decide_eq_false (by omega);rw[a2];simp[a1]
   rw[e3];have e2:q8Z l i=if 0<i∧(atS l i).id≤(atS l (i-1)).id then 1 else 0:=if_neg (of_decide_eq_false h5)
   refine⟨fun h6=>q9x h1 hz hlt (by rw[e2,if_pos (of_decide_eq_true h6)]) (by decide),fun h6=>?_⟩;exact⟨q0X (by omega),i+1,SLe.refl _,⟨by omega,q4F hz (by rw[e2,if_neg (of_decide_eq_false h6)])⟩,by omega⟩
  ·have hge:i=l.length:=by have:=of_decide_eq_false h2;omega
   exact q0I (by unfold q1q;rw[if_neg h1,←hge,hz])
 exact Eq.mp (by kernel_rfl) key
theorem x3w:q0R Tryz.prog 118 qSf:=by
 refine sob 0 Tryz.func118 fun args bin ob r bout hDe hob=>?_;unfold qSf at hDe;split at hDe
 ·rename_i a0;cases hDe;exact okB (xBt ((q0K q05) a0) (hob.2)) x8J (args_of_vles ⟨hob.1,trivial⟩)
 ·cases hDe
def qSR (l:List q07):Prop:=l.length≤maxLen
noncomputable def x3j (l:List q07):V:=.int .i64 (q1q l)
noncomputable def qYo:q0P:=fun args bin=>match args,bin with
 |[a0],[]=>some (VLe a0 (q0D (q00 1) 1 (((q0K q05) a0)))∧qSR ((q0K q05) a0),x3j ((q0K q05) a0),[])
 |_,_=>none
noncomputable def qWQ (l:List q07):q0M:=
 ⟨Nat,fun i=>⟨[(0,q0D (q00 1) 1 l),(3,.int .i64 i)],[]⟩,
  fun i=>i≤l.length∧q1s (q8Z l) i=0,fun i=>l.length-i⟩
noncomputable def x8P (l:List q07):Nat→Option q0M:=fun rg_=>match rg_ with
 |4=>some (qWQ l)
 |_=>none
noncomputable def xEH:=lkR [(110,qQ4),(151,qA8)]
theorem x9e:q0C Tryz.prog xEH:=q02 qW8 (q02 qBp (q04))
noncomputable def xBp (l:List q07):=cxL xEH Tryz.f150 [0,2,3,6,10,28,44] [(4,⟨[(0,none),(3,none)],[]⟩)] (x8P l) []
def qLU (l:List q07) (x:Nat):Prop:=0≤(↑x:Int)∧(↑x:Int)<(q0O l)
def qKT (l:List q07) (x:Nat):Prop:=(!!decide (inR (q4o l x) (1:Int) (9:Int)))=true
theorem x6O (l:List q07) (hpre:qSR l):q0d (xBp l) Tryz.f150 0 [q0D (q00 1) 1 (l)] (fun rr=>VLe rr (x3j l)):=by
 have key:(decide ((q0O l)>6)=true→VLe (vi 2) (vi (q1q l)))∧(decide ((q0O l)>6)=false→((∃x:Nat,SLe (AS.mk [(0,q0D (q00 1) 1 l),(3,vi 0)] []) (AS.mk [(0,q0D (q00 1) 1 l),(3,vi (↑x:Int))] [])∧x≤l.length∧q1s (q8Z l) x=(0:Int))∧∀x:Nat,x≤l.length∧q1s (q8Z l) x=(0:Int)→(decide ((↑x:Int)<(q0O l))=true→qLU l x∧qIc (q4o l x)∧tq (!!decide (inR (q4o l x) (1:Int) (9:Int)))∧tq (!!decide (inR (q4o l x) (1:Int) (9:Int)))∧(qKT l x→qLU l x)∧tq (!!decide (inR (q4o l x) (1:Int) (9:Int)))∧tq (!!decide (inR (q4o l x) (1:Int) (9:Int)))∧tq (!!decide (inR (q4o l x) (1:Int) (9:Int)))∧(qKT l x→q62 (l.getD (↑x:Int).toNat default).upto (0:Int) (9999:Int))∧tq (!!decide (inR (q4o l x) (1:Int) (9:Int)))∧((true=true→(!decide (inR (q4o l x) (1:Int) (9:Int)))=false→qKT l x)∧∀b:Bool,(b=bif !decide (inR (q4o l x) (1:Int) (9:Int))then true else !decide (inR (l.getD (↑x:Int).toNat default).upto (0:Int) (9999:Int)))→(b=true→VLe (vi 3) (vi (q1q l)))∧(b=false→tq (q1x x)∧tq (q1x x)∧(q4W x→qLU l x)∧tq (q1x x)∧tq (q1x x)∧tq (q1x x)∧(q4W x→inK IntKind.i64 ((↑x:Int)-1))∧tq (q1x x)∧tq (q1x x)∧(q4W x→0≤(↑x:Int)-1∧(↑x:Int)-1<(q0O l))∧tq (q1x x)∧tq (q1x x)∧tq (q1x x)∧tq (q1x x)∧((true=true→q4W x→q4W x)∧∀b_1:Bool,(b_1=bif decide ((↑x:Int)>0)then decide ((l.getD (↑x:Int).toNat default).id≤(l.getD ((↑x:Int)-1).toNat default).id)else false)→(b_1=true→VLe (vi 1) (vi (q1q l)))∧(b_1=false→(inK IntKind.i64 ((↑x:Int)+1)∧∃y:Nat,SLe (AS.mk [(0,q0D (q00 1) 1 l),(3,vi ((↑x:Int)+1))] []) (AS.mk [(0,q0D (q00 1) 1 l),(3,vi (↑y:Int))] [])∧(y≤l.length∧q1s (q8Z l) y=(0:Int))∧l.length-y<l.length-x))))))∧(decide ((↑x:Int)<(q0O l))=false→VLe (vi 0) (vi (q1q l))))):=by
  delta qKT;delta qLU;delta q0O;delta q4W;delta q1x;delta q4o;delta vi;have hl:l.length≤maxLen:=hpre;unfold maxLen at hl;refine⟨fun h=>?_,fun h=>?_⟩
  ·have h1:6<l.length:=by have:=of_decide_eq_true h;omega
   exact q0I (by unfold q1q;rw[if_pos h1])
  have h1:¬6<l.length:=by have:=of_decide_eq_false h;omega
  refine⟨⟨0,SLe.refl _,by omega,rfl⟩,?_⟩;rintro i ⟨hi,hz⟩;refine⟨fun h2=>?_,fun h2=>?_⟩
  ·have hlt:i<l.length:=by have:=of_decide_eq_true h2;omega
   simp only[Int.toNat_natCast];refine⟨⟨by omega,by omega⟩,trivial,?_⟩
   repeat (first|(refine And.intro (fun h _=>h) ?_)|(refine And.intro (fun _ h=>h) ?_)|(refine And.intro ?aa ?_;case aa=>(exact(tqI _)))|(refine And.intro ?aa ?_;case aa=>(exact(fun _=>trivial)))|(refine And.intro ?aa ?_;case aa=>(exact(fun _=>⟨by omega,by omega⟩)))|(refine And.intro ?aa ?_;case aa=>(intros;simp_all [qIc,q62];done))|(refine And.intro ?aa ?_;case aa=>(intros;exact q0X (by omega)))|(refine And.intro ?aa ?_;case aa=>(intros;simp only[decide_eq_true_eq]at *;omega))|(intro q hq))
   have e0:q=decide (¬(inR (atS l i).id 1 9∧inR (atS l i).upto 0 9999)):=by
    rw[hq,Bool.eq_iff_iff,decide_eq_true_eq];by_cases a1:inR (atS l i).id 1 9<;>by_cases a2:inR (atS l i).upto 0 9999<;>simp only[a1,a2,decide_true,decide_false,Bool.not_true,Bool.not_false,cond_true,cond_false,and_true,true_and,and_false,false_and,not_true_eq_false,not_false_eq_true,Bool.false_eq_true]
   clear hq;rw[e0];refine⟨fun h5=>q9x h1 hz hlt (by unfold q8Z;rw[if_pos (of_decide_eq_true h5)]) (by decide),fun h5=>?_⟩;clear e0
   repeat (first|(refine And.intro (fun h _=>h) ?_)|(refine And.intro (fun _ h=>h) ?_)|(refine And.intro ?aa ?_;case aa=>(exact(tqI _)))|(refine And.intro ?aa ?_;case aa=>(exact(fun h=>q0X (by omega))))|(refine And.intro ?aa ?_;case aa=>(exact(fun h=>⟨by have:=of_decide_eq_true h;omega,by omega⟩)))|(refine And.intro ?aa ?_;case aa=>(intros;simp_all [qIc,q62];done))|(refine And.intro ?aa ?_;case aa=>(intros;exact q0X (by omega)))|(refine And.intro ?aa ?_;case aa=>(intros;simp only[decide_eq_true_eq]at *;omega))|(intro q hq))
   have e3:q=decide (0<i∧(atS l i).id≤(atS l (i-1)).id):=by
    rw[hq,Bool.eq_iff_iff,decide_eq_true_eq];by_cases a1:0<i
    ·have n1:((i:Int)-1).toNat=i-1:=by omega
     have a2:decide ((i:Int)>0)=true:=decide_eq_true (by omega);rw[a2,n1];simp only[cond_true,decide_eq_true_eq,a1,true_and]
    ·have a2:decide ((i:Int)>0)=false:=decide_eq_false (by omega);rw[a2];simp[a1]
   rw[e3];have e2:q8Z l i=if 0<i∧(atS l i).id≤(atS l (i-1)).id then 1 else 0:=if_neg (of_decide_eq_false h5)
   refine⟨fun h6=>q9x h1 hz hlt (by rw[e2,if_pos (of_decide_eq_true h6)]) (by decide),fun h6=>?_⟩;exact⟨q0X (by omega),i+1,SLe.refl _,⟨by omega,q4F hz (by rw[e2,if_neg (of_decide_eq_false h6)])⟩,by omega⟩
  ·have hge:i=l.length:=by have:=of_decide_eq_false h2;omega
   exact q0I (by unfold q1q;rw[if_neg h1,←hge,hz])
 exact Eq.mp (by kernel_rfl) key
theorem x7r:q0R Tryz.prog 150 qYo:=by
 refine sob 0 Tryz.func150 fun args bin ob r bout hDe hob=>?_;unfold qYo at hDe;split at hDe
 ·rename_i a0;cases hDe;exact okB (x6O ((q0K q05) a0) (hob.2)) x9e (args_of_vles ⟨hob.1,trivial⟩)
 ·cases hDe
def qT3 (r:q2E):Prop:=r.bd
noncomputable def qZ5 (r:q2E):V:=.bool (decide (q5B r))
noncomputable def qVP:q0P:=fun args bin=>match args,bin with
 |[a0],[]=>some (VLe a0 (q0V 1 ((q0q a0)))∧qT3 (q0q a0),qZ5 (q0q a0),[])
 |_,_=>none
noncomputable def xD0:=lkR [(120,q9i)]
theorem x6z:q0C Tryz.prog xD0:=q02 qBu (q04)
noncomputable def x9d (r:q2E):=cxN xD0 Tryz.f121 [0,1,2]
theorem xBm (r:q2E) (hpre:qT3 r):q0d (x9d r) Tryz.f121 0 [q0V 1 (r)] (fun rr=>VLe rr (qZ5 r)):=by
 have key:q64 r.code (0:Int) (10:Int)∧tq (decide (inR r.code 0 10))∧tq (decide (inR r.code 0 10))∧(decide (inR r.code 0 10)=true→q64 r.value (-1:Int) (9999:Int))∧((true=true→decide (inR r.code 0 10)=true→decide (inR r.code 0 10)=true)∧∀b:Bool,(b=bif decide (inR r.code 0 10)then decide (inR r.value (-1) 9999)else false)→tq b∧tq b∧tq b∧((true=true→b=true→b=true)∧∀b_1:Bool,(b_1=bif b then decide ((↑ r.path.size:Int)≤24)else false)→VLe (V.bool b_1) (V.bool (decide (q5B r))))):=by
  refine⟨trivial,?_⟩
  repeat (first|(refine And.intro (fun h _=>h) ?_)|(refine And.intro (fun _ h=>h) ?_)|(refine And.intro ?aa ?_;case aa=>(exact(tqI _)))|(refine And.intro ?aa ?_;case aa=>(exact(fun _=>trivial)))|(refine And.intro ?aa ?_;case aa=>(intros;simp_all [q64];done))|(refine And.intro ?aa ?_;case aa=>(intros;exact q0X (by omega)))|(refine And.intro ?aa ?_;case aa=>(intros;simp only[decide_eq_true_eq]at *;omega))|(intro q hq))
  rename_i q1 hq1;refine q0Z ?_;rw[hq,hq1,Bool.eq_iff_iff,decide_eq_true_eq];unfold q5B;by_cases a1:inR r.code 0 10<;>by_cases a2:inR r.value (-1) 9999<;>by_cases a3:(r.path.size:Int)≤24<;>simp[a1,a2,a3]<;>omega
 exact Eq.mp (by kernel_rfl) key
theorem x8R:q0R Tryz.prog 121 qVP:=by
 refine sob 0 Tryz.func121 fun args bin ob r bout hDe hob=>?_;unfold qVP at hDe;split at hDe
 ·rename_i a0;cases hDe;exact okB (xBm (q0q a0) (hob.2)) x6z (args_of_vles ⟨hob.1,trivial⟩)
 ·cases hDe
def qT5 (r:qAZ):Prop:=r.reply.bd
noncomputable def x02 (r:qAZ):V:=.bool (decide (q5B r.reply))
noncomputable def qWR:q0P:=fun args bin=>match args,bin with
 |[a0],[]=>some (VLe a0 (q7o 1 ((q3d a0)))∧qT5 (q3d a0),x02 (q3d a0),[])
 |_,_=>none
noncomputable def xDr:=lkR [(151,qA8)]
theorem xBL:q0C Tryz.prog xDr:=q02 qBp (q04)
noncomputable def x9A (r:qAZ):=cxN xDr Tryz.f152 [0,2]
noncomputable def qHx (r:qAZ):Bool:=decide (inR r.reply.code (0:Int) (10:Int))
def qL6 (r:qAZ):Prop:=decide (inR r.reply.code (0:Int) (10:Int))=true
theorem xBM (r:qAZ) (hpre:qT5 r):q0d (x9A r) Tryz.f152 0 [q7o 1 (r)] (fun rr=>VLe rr (x02 r)):=by
 have key:q62 r.reply.code (0:Int) (10:Int)∧tq (qHx r)∧tq (qHx r)∧tq (qHx r)∧tq (qHx r)∧(qL6 r→q62 r.reply.value (-1:Int) (9999:Int))∧((true=true→qL6 r→qL6 r)∧∀b:Bool,(b=bif decide (inR r.reply.code (0:Int) (10:Int))then decide (inR r.reply.value (-1:Int) (9999:Int))else false)→tq b∧tq b∧tq b∧tq b∧tq b∧((true=true→b=true→b=true)∧∀b_1:Bool,(b_1=bif b then decide ((↑ r.reply.path.size:Int)≤24)else false)→VLe (V.bool b_1) (V.bool (decide (q5B r.reply))))):=by
  delta qL6;delta qHx;refine⟨trivial,?_⟩
  repeat (first|(refine And.intro (fun h _=>h) ?_)|(refine And.intro (fun _ h=>h) ?_)|(refine And.intro ?aa ?_;case aa=>(exact(tqI _)))|(refine And.intro ?aa ?_;case aa=>(exact(fun _=>trivial)))|(refine And.intro ?aa ?_;case aa=>(intros;simp_all [q62];done))|(refine And.intro ?aa ?_;case aa=>(intros;exact q0X (by omega)))|(refine And.intro ?aa ?_;case aa=>(intros;simp only[decide_eq_true_eq]at *;omega))|(intro q hq))
  rename_i q1 hq1;refine q0Z ?_;rw[hq,hq1,Bool.eq_iff_iff,decide_eq_true_eq];unfold q5B;by_cases a1:inR r.reply.code 0 10<;>by_cases a2:inR r.reply.value (-1) 9999<;>by_cases a3:(r.reply.path.size:Int)≤24<;>simp[a1,a2,a3]<;>omega
 exact Eq.mp (by kernel_rfl) key
theorem xAo:q0R Tryz.prog 152 qWR:=by
 refine sob 0 Tryz.func152 fun args bin ob r bout hDe hob=>?_;unfold qWR at hDe;split at hDe
 ·rename_i a0;cases hDe;exact okB (xBM (q3d a0) (hob.2)) xBL (args_of_vles ⟨hob.1,trivial⟩)
 ·cases hDe
def qWa (m:q0U) (c:Int) (n:Int):Prop:=True
noncomputable def x1g (m:q0U) (c:Int) (n:Int):V:=.bool (qBw c n m)
noncomputable def qXR:q0P:=fun args bin=>match args,bin with
 |[a0,a1,a2],[]=>some (VLe a0 (q09 1 ((q0H a0)))∧VLe a1 (q1n 1 ((q0h a1)))∧VLe a2 (q1n 1 ((q0h a2)))∧qWa (q0H a0) (q0h a1) (q0h a2),x1g (q0H a0) (q0h a1) (q0h a2),[])
 |_,_=>none
noncomputable def xCv:=lkR []
theorem x8i:q0C Tryz.prog xCv:=q04
noncomputable def x8C (m:q0U) (c:Int) (n:Int):=cxN xCv Tryz.f206 [0,1,2,3,4]
theorem xAu (m:q0U) (c:Int) (n:Int) (hpre:qWa m c n):q0d (x8C m c n) Tryz.f206 0 [q09 1 (m),q1n 1 (c),q1n 1 (n)] (fun rr=>VLe rr (x1g m c n)):=by
 have key:tq (m.client==c)∧tq (m.client==c)∧tq (m.client==c)∧((true=true→(m.client==c)=true→(m.client==c)=true)∧∀b:Bool,(b=bif q0U.client m==c then m.number==n else false)→VLe (V.bool b) (V.bool (qBw c n m))):=by
  repeat (first|(refine And.intro (fun h _=>h) ?_)|(refine And.intro (fun _ h=>h) ?_)|(refine And.intro ?aa ?_;case aa=>(exact(tqI _)))|(refine And.intro ?aa ?_;case aa=>(intros;simp_all [];done))|(refine And.intro ?aa ?_;case aa=>(intros;exact q0X (by omega)))|(refine And.intro ?aa ?_;case aa=>(intros;simp only[decide_eq_true_eq]at *;omega))|(intro q hq))
  refine q0Z ?_;rw[hq];unfold qBw;rw[Bool.eq_iff_iff,decide_eq_true_eq];by_cases a1:m.client=c<;>simp[a1]
 exact Eq.mp (by kernel_rfl) key
theorem x7h:q0R Tryz.prog 206 qXR:=by
 refine sob 0 Tryz.func206 fun args bin ob r bout hDe hob=>?_;unfold qXR at hDe;split at hDe
 ·rename_i a0 a1 a2;cases hDe;exact okB (xAu (q0H a0) (q0h a1) (q0h a2) (hob.2.2.2)) x8i (args_of_vles ⟨hob.1,hob.2.1,hob.2.2.1,trivial⟩)
 ·cases hDe
def qCa (xs:List q0U) (c:Int) (n:Int):Prop:=xs.length≤maxLen∧(True)
noncomputable def qHD (xs:List q0U) (c:Int) (n:Int):V:=.int .i64 (q5l (fun m=>qBw c n m) xs)
noncomputable def qD0:q0P:=fun args bin=>match args,bin with
 |[a0,.fn 206 [a1,a2]],[]=>some (VLe a0 (q0D (q09 1) 1 (((q0K q0H) a0)))∧VLe a1 (q1n 1 ((q0h a1)))∧VLe a2 (q1n 1 ((q0h a2)))∧qCa ((q0K q0H) a0) (q0h a1) (q0h a2),qHD ((q0K q0H) a0) (q0h a1) (q0h a2),[])
 |_,_=>none
noncomputable def qK2 (xs:List q0U) (c:Int) (n:Int):q0M:=
 ⟨Nat,fun i=>⟨[(0,q0D (q09 1) 1 xs),(1,.fn 206 [q1n 1 (c),q1n 1 (n)]),(7,.int .i64 xs.length),(8,.int .i64 i)],[]⟩,
  fun i=>i≤xs.length∧∀j,j<i→(fun m=>qBw c n m) (xs.getD j default)=false,fun i=>xs.length-i⟩
noncomputable def qRE (xs:List q0U) (c:Int) (n:Int):Nat→Option q0M:=fun rg_=>match rg_ with
 |2=>some (qK2 xs c n)
 |_=>none
noncomputable def qLB:=lkR [(206,qXR)]
theorem qQI:q0C Tryz.prog qLB:=q02 x7h (q04)
noncomputable def qOB (xs:List q0U) (c:Int) (n:Int):=cxL qLB Tryz.f205 [0,1,4,5,7,8,9,16] [(2,⟨[(0,none),(1,none),(7,none),(8,none)],[]⟩)] (qRE xs c n) []
noncomputable def q7K (c:Int) (n:Int):Nat×V:=(1,V.fn (206:FuncId) [q1n 1 c,q1n 1 n])
theorem qOh (xs:List q0U) (c:Int) (n:Int) (hpre:qCa xs c n):q0d (qOB xs c n) Tryz.f205 0 [q0D (q09 1) 1 (xs),.fn 206 [q1n 1 (c),q1n 1 (n)]] (fun rr=>VLe rr (qHD xs c n)):=by
 have key:((∃x:Nat,SLe (AS.mk [(0,q0D (q09 1) 1 xs),(q7K c n),(7,vi (q4O xs)),(8,vi 0)] []) (AS.mk [(0,q0D (q09 1) 1 xs),(q7K c n),(7,vi (q4O xs)),(8,vi (↑x:Int))] [])∧(x≤xs.length∧∀j:Nat,j<x→qBw c n (xs.getD j default)=false))∧∀x:Nat,(x≤xs.length∧∀j:Nat,j<x→qBw c n (xs.getD j default)=false)→(decide ((↑x:Int)<(q4O xs))=true→(0≤(↑x:Int)∧(↑x:Int)<(q4O xs))∧(VLe (qBs xs x) (q09 1 (q0H (qBs xs x)))∧VLe (V.ptr [vi c] 0 1) (q1n 1 (q0h (V.ptr [vi c] 0 1)))∧VLe (V.ptr [vi n] 0 1) (q1n 1 (q0h (V.ptr [vi n] 0 1)))∧qWa (q0H (qBs xs x)) (q0h (V.ptr [vi c] 0 1)) (q0h (V.ptr [vi n] 0 1)))∧(qBw (q0h (V.ptr [vi c] 0 1)) (q0h (V.ptr [vi n] 0 1)) (q0H (qBs xs x))=true→VLe (vi (↑x:Int)) (vi (q5l (fun(m:q0U) ↦ qBw c n m) xs)))∧(qBw (q0h (V.ptr [vi c] 0 1)) (q0h (V.ptr [vi n] 0 1)) (q0H (qBs xs x))=false→(inK IntKind.i64 ((↑x:Int)+1)∧∃y:Nat,SLe (AS.mk [(0,q0D (q09 1) 1 xs),(q7K c n),(7,vi (q4O xs)),(8,vi ((↑x:Int)+1))] []) (AS.mk [(0,q0D (q09 1) 1 xs),(q7K c n),(7,vi (q4O xs)),(8,vi (↑y:Int))] [])∧(y≤xs.length∧∀j:Nat,j<y→qBw c n (xs.getD j default)=false)∧xs.length-y<xs.length-x)))∧(decide ((↑x:Int)<(q4O xs))=false→VLe (vi (-1)) (vi (q5l (fun(m:q0U) ↦ qBw c n m) xs)))):=by
  delta q4O;delta q7K;delta qBs;delta vi;obtain⟨hlen,hp⟩:=hpre;unfold maxLen at hlen;refine⟨⟨0,SLe.refl _,by omega,fun j hj=>absurd hj (Nat.not_lt_zero j)⟩,?_⟩;rintro i ⟨hi,hj⟩;refine⟨fun h=>?_,fun h=>?_⟩
  ·have hlt:i<xs.length:=by simpa using h
   have hin:xs.getD i default∈xs:=by simp[hlt]
   simp only[Int.toNat_natCast,q2h,q6T];refine⟨⟨by omega,by omega⟩,⟨VLe.refl _,VLe.refl _,VLe.refl _,trivial⟩,fun h2=>q0I (q3i hlt hj h2).symm,fun h2=>⟨q0X (by omega),i+1,SLe.refl _,⟨by omega,fun j h3=>?_⟩,by omega⟩⟩;rcases Nat.lt_or_ge j i with h4|h4
   ·exact hj j h4
   ·have:j=i:=by omega
    subst this;exact h2
  ·have hge:i=xs.length:=by simp at h;omega
   exact q0I (q4b fun j h3=>hj j (by omega)).symm
 exact Eq.mp (by kernel_rfl) key
theorem qOz:q0R Tryz.prog 205 qD0:=by
 refine sob 0 Tryz.func205 fun args bin ob r bout hDe hob=>?_;unfold qD0 at hDe;split at hDe
 ·rename_i a0 a1 a2;cases hDe;exact okB (qOh ((q0K q0H) a0) (q0h a1) (q0h a2) (hob.2.2.2)) qQI (args_of_vles ⟨hob.1,qHm ⟨hob.2.1,hob.2.2.1,trivial⟩,trivial⟩)
 ·cases hDe
def qQc (l:List q0U) (c:Int) (n:Int):Prop:=l.length≤maxLen
noncomputable def qZ4 (l:List q0U) (c:Int) (n:Int):V:=.int .i64 (q72 l c n)
noncomputable def qU6:q0P:=fun args bin=>match args,bin with
 |[a0,.int .i64 a1,.int .i64 a2],[]=>some (VLe a0 (q0D (q09 1) 1 (((q0K q0H) a0)))∧qQc ((q0K q0H) a0) a1 a2,qZ4 ((q0K q0H) a0) a1 a2,[])
 |_,_=>none
noncomputable def xDe:=lkR [(205,qD0)]
theorem x7B:q0C Tryz.prog xDe:=q02 qOz (q04)
noncomputable def x9w (l:List q0U) (c:Int) (n:Int):=cxN xDe Tryz.f122 [0,1,2,4,5,6]
theorem x7H (l:List q0U) (c:Int) (n:Int) (hpre:qQc l c n):q0d (x9w l c n) Tryz.f122 0 [q0D (q09 1) 1 (l),.int .i64 (c),.int .i64 (n)] (fun rr=>VLe rr (qZ4 l c n)):=by
 have key:(VLe (q0D (q09 1) 1 l) (q0D (q09 1) 1 (q0K q0H (q0D (q09 1) 1 l)))∧VLe (V.ptr [vi c] 0 1) (q1n 1 (q0h (V.ptr [vi c] 0 1)))∧VLe (V.ptr [vi n] 0 1) (q1n 1 (q0h (V.ptr [vi n] 0 1)))∧qCa (q0K q0H (q0D (q09 1) 1 l)) (q0h (V.ptr [vi c] 0 1)) (q0h (V.ptr [vi n] 0 1)))∧VLe (vi (q5l (fun(m:q0U) ↦ qBw (q0h (V.ptr [vi c] 0 1)) (q0h (V.ptr [vi n] 0 1)) m) (q0K q0H (q0D (q09 1) 1 l)))) (vi (q72 l c n)):=by
  delta vi;simp only[q2i,qJt];exact⟨⟨VLe.refl _,VLe.refl _,VLe.refl _,hpre,trivial⟩,VLe.refl _⟩
 exact Eq.mp (by kernel_rfl) key
theorem x1B:q0R Tryz.prog 122 qU6:=by
 refine sob 0 Tryz.func122 fun args bin ob r bout hDe hob=>?_;unfold qU6 at hDe;split at hDe
 ·rename_i a0 a1 a2;cases hDe;exact okB (x7H ((q0K q0H) a0) a1 a2 (hob.2)) x7B (args_of_vles ⟨hob.1,VLe.refl _,VLe.refl _,trivial⟩)
 ·cases hDe
def qNX (s:q06) (c:Int) (n:Int):Prop:=s.marks.length≤maxLen
noncomputable def x1p (s:q06) (c:Int) (n:Int):V:=.int .i64 (q72 s.marks c n)
noncomputable def qO4:q0P:=fun args bin=>match args,bin with
 |[a0,.int .i64 a1,.int .i64 a2],[]=>some (VLe a0 (q0b 1 ((q14 a0)))∧qNX (q14 a0) a1 a2,x1p (q14 a0) a1 a2,[])
 |_,_=>none
noncomputable def qYA (s:q06) (c:Int) (n:Int):q0M:=
 ⟨Nat,fun i=>⟨[(0,q0b 1 s),(1,.int .i64 c),(2,.int .i64 n),(7,.int .i64 i)],[]⟩,
  fun i=>i≤s.marks.length∧∀j,j<i→qBw c n (s.marks.getD j default)=false,fun i=>s.marks.length-i⟩
noncomputable def x6m (s:q06) (c:Int) (n:Int):Nat→Option q0M:=fun rg_=>match rg_ with
 |2=>some (qYA s c n)
 |_=>none
noncomputable def xEb:=lkR []
theorem x6N:q0C Tryz.prog xEb:=q04
noncomputable def x5s (s:q06) (c:Int) (n:Int):=cxL xEb Tryz.f141 [0,1,2,6,7,14,38] [(2,⟨[(0,none),(1,none),(2,none),(7,none)],[]⟩)] (x6m s c n) []
noncomputable def q1C (s:q06):List q0U:=s.marks
noncomputable def q73 (s:q06) (c:Int) (x:Nat):Bool:=((q1C s).getD (↑x:Int).toNat default).client==c
theorem x68 (s:q06) (c:Int) (n:Int) (hpre:qNX s c n):q0d (x5s s c n) Tryz.f141 0 [q0b 1 (s),.int .i64 (c),.int .i64 (n)] (fun rr=>VLe rr (x1p s c n)):=by
 have key:((∃x:Nat,SLe (AS.mk [(0,q0b 1 s),(1,vi c),(2,vi n),(7,vi 0)] []) (AS.mk [(0,q0b 1 s),(1,vi c),(2,vi n),(7,vi (↑x:Int))] [])∧(x≤(q1C s).length∧∀j:Nat,j<x→qBw c n ((q1C s).getD j default)=false))∧∀x:Nat,(x≤(q1C s).length∧∀j:Nat,j<x→qBw c n ((q1C s).getD j default)=false)→(decide ((↑x:Int)<(↑ (q1C s).length:Int))=true→(0≤(↑x:Int)∧(↑x:Int)<(↑ (q1C s).length:Int))∧tq (q73 s c x)∧tq (q73 s c x)∧tq (q73 s c x)∧tq (q73 s c x)∧tq (q73 s c x)∧((q73 s c x)=true→0≤(↑x:Int)∧(↑x:Int)<(↑ (q1C s).length:Int))∧tq (q73 s c x)∧tq (q73 s c x)∧tq (q73 s c x)∧tq (q73 s c x)∧((true=true→(q73 s c x)=true→(q73 s c x)=true)∧∀b:Bool,(b=bif q0U.client ((q1C s).getD (↑x:Int).toNat default)==c then((q1C s).getD (↑x:Int).toNat default).number==n else false)→(b=true→VLe (vi (↑x:Int)) (vi (q72 (q1C s) c n)))∧(b=false→(inK IntKind.i64 ((↑x:Int)+1)∧∃y:Nat,SLe (AS.mk [(0,q0b 1 s),(1,vi c),(2,vi n),(7,vi ((↑x:Int)+1))] []) (AS.mk [(0,q0b 1 s),(1,vi c),(2,vi n),(7,vi (↑y:Int))] [])∧(y≤(q1C s).length∧∀j:Nat,j<y→qBw c n ((q1C s).getD j default)=false)∧(q1C s).length-y<(q1C s).length-x))))∧(decide ((↑x:Int)<(↑ (q1C s).length:Int))=false→VLe (vi (-1)) (vi (q72 (q1C s) c n)))):=by
  delta q73;delta q1C;delta vi;have hl:s.marks.length≤maxLen:=hpre;unfold maxLen at hl;refine⟨⟨0,SLe.refl _,by omega,fun j hj=>absurd hj (Nat.not_lt_zero j)⟩,?_⟩;rintro i ⟨hi,hj⟩;refine⟨fun h=>?_,fun h=>?_⟩
  ·have hlt:i<s.marks.length:=by have:=of_decide_eq_true h;omega
   simp only[Int.toNat_natCast];refine⟨⟨by omega,by omega⟩,?_⟩
   repeat (first|(refine And.intro (fun h _=>h) ?_)|(refine And.intro (fun _ h=>h) ?_)|(refine And.intro ?aa ?_;case aa=>(exact(tqI _)))|(refine And.intro ?aa ?_;case aa=>(exact(fun _=>⟨by omega,by omega⟩)))|(refine And.intro ?aa ?_;case aa=>(intros;simp_all [];done))|(refine And.intro ?aa ?_;case aa=>(intros;exact q0X (by omega)))|(refine And.intro ?aa ?_;case aa=>(intros;simp only[decide_eq_true_eq]at *;omega))|(intro q hq))
   have e0:q=qBw c n (s.marks.getD i default):=by
    rw[hq];unfold qBw;rw[Bool.eq_iff_iff,decide_eq_true_eq];by_cases a1:(s.marks.getD i default).client=c
    ·have a2:((s.marks.getD i default).client==c)=true:=by rw[beq_iff_eq];exact a1
     rw[a2];simp only[cond_true,beq_iff_eq,a1,true_and]
    ·have a2:((s.marks.getD i default).client==c)=false:=by rw[beq_eq_false_iff_ne];exact a1
     rw[a2];simp only[cond_false,a1,false_and,Bool.false_eq_true]
   rw[e0];refine⟨fun h2=>q0I (q3i hlt hj h2).symm,fun h2=>⟨q0X (by omega),i+1,SLe.refl _,⟨by omega,fun j h3=>?_⟩,by omega⟩⟩;rcases Nat.lt_or_ge j i with h4|h4
   ·exact hj j h4
   ·have:j=i:=by omega
    subst this;exact h2
  ·have hge:i=s.marks.length:=by have:=of_decide_eq_false h;omega
   exact q0I (q4b fun j h3=>hj j (by omega)).symm
 exact Eq.mp (by kernel_rfl) key
theorem qYp:q0R Tryz.prog 141 qO4:=by
 refine sob 0 Tryz.func141 fun args bin ob r bout hDe hob=>?_;unfold qO4 at hDe;split at hDe
 ·rename_i a0 a1 a2;cases hDe;exact okB (x68 (q14 a0) a1 a2 (hob.2)) x6N (args_of_vles ⟨hob.1,VLe.refl _,VLe.refl _,trivial⟩)
 ·cases hDe
def xAB (s:q06):Prop:=s.bd
noncomputable def xDL (s:q06):V:=.int .i64 (q1a s)
noncomputable def xBv:q0P:=fun args bin=>match args,bin with
 |[a0],[]=>some (VLe a0 (q0J 1 ((q0B a0)))∧xAB (q0B a0),xDL (q0B a0),[])
 |_,_=>none
noncomputable def qYl (s:q06):q0M:=
 ⟨Nat,fun i=>⟨[(1,.oref 128 0 0),(30,q0D (q09 1) 1 s.marks),(31,.int .i64 s.marks.length),(32,.int .i64 i)],[(128,.box (q0J 1 s).cells)]⟩,
  fun i=>i≤s.marks.length∧q1s (q9b s.marks) i=0,fun i=>s.marks.length-i⟩
noncomputable def xGb (s:q06):Nat→Option q0M:=fun rg_=>match rg_ with
 |12=>some (qYl s)
 |_=>none
noncomputable def D46:=lkR [(117,qTl),(118,qSf),(119,qNe),(107,qMa),(120,q9i),(121,qVP),(122,qU6)]
theorem xFX:q0C Tryz.prog D46:=q02 qZI (q02 x3w (q02 qVq (q02 qT1 (q02 qBu (q02 x8R (q02 x1B (q04)))))))
noncomputable def xFy (s:q06):=cxL D46 Tryz.f46 [0,1,2,3,4,5,6,11,17,19,24,30,31,32,33,52,62] [(12,⟨[(1,none),(30,none),(31,none),(32,none)],[(128,[])]⟩)] (xGb s) []
noncomputable def qYm (s:q06):Nat:=(q1C s).length
noncomputable def qAM (s:q06):Int:=(↑ (qYm s):Int)
noncomputable def qMO (s:q06) (x:Nat):V:=V.sl ((Option.getD (some (↑x:Int)) (qAM s)).toNat-0) (match(motive:=Option Int→Nat→V) none with|none=>gL (q09 1) (q1C s)|some val=>q32 (gL (q09 1) (q1C s)) 0) 1
noncomputable def q5R (s:q06) (x:Nat):Int:=((q1C s).getD (↑x:Int).toNat default).client
noncomputable def qRn (s:q06):Nat×Blk:=(128,Blk.box [q0D (q01 1) 1 s.nodes,q0D (q00 1) 1 s.sessions,vi s.now,q0D (q09 1) 1 (q1C s)])
noncomputable def qAx (s:q06) (x:Nat):Int:=((q1C s).getD (↑x:Int).toNat default).number
noncomputable def qNu (s:q06) (x:Nat):V:=q0V 1 ((q1C s).getD (↑x:Int).toNat default).reply
noncomputable def qHX (s:q06):Nat×V:=(30,q0D (q09 1) 1 (q1C s))
theorem xGa (s:q06) (hpre:xAB s):q0d (xFy s) Tryz.f46 0 [q0J 1 (s)] (fun rr=>VLe rr (xDL s)):=by
 have key:(VLe (q0D (q01 1) 1 s.nodes) (q0D (q01 1) 1 (q1F s))∧qRi (q1F s))∧((q1A (q1F s)!=0)=true→VLe (vi (q1A (q1F s))) (vi (q1a s)))∧((q1A (q1F s)!=0)=false→(VLe (q0D (q00 1) 1 s.sessions) (q0D (q00 1) 1 (q1G s))∧qOX (q1G s))∧((q1q (q1G s)!=0)=true→VLe (vi (q1q (q1G s))) (vi (q1a s)))∧((q1q (q1G s)!=0)=false→qN1 s.now∧((!decide (inR s.now 0 9000))=true→VLe (vi 3) (vi (q1a s)))∧((!decide (inR s.now 0 9000))=false→(decide ((qAM s)>40)=true→VLe (vi 2) (vi (q1a s)))∧(decide ((qAM s)>40)=false→((∃x:Nat,SLe (AS.mk [(1,V.oref 128 0 0),(qHX s),(31,vi (qAM s)),(32,vi 0)] [qRn s]) (AS.mk [(1,V.oref 128 0 0),(qHX s),(31,vi (qAM s)),(32,vi (↑x:Int))] [qRn s])∧x≤(q1C s).length∧q1s (q9b (q1C s)) x=(0:Int))∧∀x:Nat,x≤(q1C s).length∧q1s (q9b (q1C s)) x=(0:Int)→(decide ((↑x:Int)<(qAM s))=true→(0≤(↑x:Int)∧(↑x:Int)<(qAM s))∧qGK (q5R s x)∧tq (!!decide (inR (q5R s x) (1:Int) (9:Int)))∧tq (!!decide (inR (q5R s x) (1:Int) (9:Int)))∧((!!decide (inR (q5R s x) (1:Int) (9:Int)))=true→q64 (qAx s x) (1:Int) (99:Int))∧tq (!!decide (inR (q5R s x) (1:Int) (9:Int)))∧((true=true→(!decide (inR (q5R s x) (1:Int) (9:Int)))=false→(!!decide (inR (q5R s x) (1:Int) (9:Int)))=true)∧∀b:Bool,(b=bif !decide (inR (q5R s x) (1:Int) (9:Int))then true else !decide (inR (qAx s x) (1:Int) (99:Int)))→tq (!b)∧tq (!b)∧((!b)=true→VLe (qNu s x) (q0V 1 (q0q (qNu s x)))∧qT3 (q0q (qNu s x)))∧tq (!b)∧((true=true→b=false→(!b)=true)∧∀b_1:Bool,(b_1=bif b then true else !decide (q5B (q0q (qNu s x))))→(b_1=true→VLe (vi 3) (vi (q1a s)))∧(b_1=false→((0:Int)≤Option.getD none (0:Int)∧Option.getD none (0:Int)≤Option.getD (some (↑x:Int)) (qAM s)∧Option.getD (some (↑x:Int)) (qAM s)≤(qAM s))∧q13 5 (qYm s) (gL (q09 1) (q1C s))∧(VLe (qMO s x) (q0D (q09 1) 1 (q0K q0H (qMO s x)))∧qQc (q0K q0H (qMO s x)) (q5R s x) (qAx s x))∧(decide (q72 (q0K q0H (qMO s x)) (q5R s x) (qAx s x)≥(0:Int))=true→VLe (vi 6) (vi (q1a s)))∧(decide (q72 (q0K q0H (qMO s x)) (q5R s x) (qAx s x)≥(0:Int))=false→(inK IntKind.i64 ((↑x:Int)+1)∧∃y:Nat,SLe (AS.mk [(1,V.oref 128 0 0),(qHX s),(31,vi (qAM s)),(32,vi ((↑x:Int)+1))] [qRn s]) (AS.mk [(1,V.oref 128 0 0),(qHX s),(31,vi (qAM s)),(32,vi (↑y:Int))] [qRn s])∧(y≤(q1C s).length∧q1s (q9b (q1C s)) y=(0:Int))∧(q1C s).length-y<(q1C s).length-x))))))∧(decide ((↑x:Int)<(qAM s))=false→VLe (vi 0) (vi (q1a s)))))))):=by
  delta qHX;delta q1F;delta qNu;delta q1G;delta qAx;delta qRn;delta q5R;delta qMO;delta qAM;delta qYm;delta q1C;delta vi;obtain⟨⟨hn,hnb⟩,hs,hk,hkb⟩:=hpre;have hk':=hk;unfold maxLen at hk';simp only[q0o,q0p,q4D,q3F,qEJ];refine⟨⟨VLe.refl _,hn⟩,fun h=>q0I (by unfold q1a;rw[if_pos (q8a h)]),fun h=>?_⟩;have c1:=q5C h;refine⟨⟨VLe.refl _,hs⟩,fun h=>q0I (by unfold q1a;rw[if_neg c1,if_pos (q8a h)]),fun h=>?_⟩;have c2:=q5C h;refine⟨trivial,fun h=>?_,fun h=>?_⟩
  ·have c3:¬inR s.now 0 9000:=by simpa using h
   exact q0I (by unfold q1a;rw[if_neg c1,if_neg c2,if_pos c3])
  have c3:inR s.now 0 9000:=by simpa using h
  refine⟨fun h=>?_,fun h=>?_⟩
  ·have c4:40<s.marks.length:=by have:=of_decide_eq_true h;omega
   exact q0I (by unfold q1a;rw[if_neg c1,if_neg c2,if_neg (not_not_intro c3),if_pos c4])
  have c4:¬40<s.marks.length:=by have:=of_decide_eq_false h;omega
  refine⟨⟨0,SLe.refl _,by omega,rfl⟩,?_⟩;rintro i ⟨hi,hz⟩;refine⟨fun h2=>?_,fun h2=>?_⟩
  ·have hlt:i<s.marks.length:=by have:=of_decide_eq_true h2;omega
   have hbd:(s.marks.getD i default).bd:=hkb _ (by simp[hlt]);simp only[Int.toNat_natCast];have stop:∀c,c=q9b s.marks i→c≠0→VLe (.int .i64 c) (.int .i64 (q1a s)):=fun c hc h0=>q0I (by
    unfold q1a;rw[if_neg c1,if_neg c2,if_neg (not_not_intro c3),if_neg c4,q5T hz (by rw[←hc];exact h0) _ hlt,hc])
   refine⟨⟨by omega,by omega⟩,trivial,?_⟩
   repeat (first|(refine And.intro (fun h _=>h) ?_)|(refine And.intro (fun _ h=>h) ?_)|(refine And.intro ?aa ?_;case aa=>(exact(tqI _)))|(refine And.intro ?aa ?_;case aa=>(exact(fun _=>trivial)))|(refine And.intro ?aa ?_;case aa=>(exact(fun _=>⟨VLe.refl _,hbd⟩)))|(refine And.intro ?aa ?_;case aa=>(intros;simp_all [qRi,qOX,qN1,qGK,q64,qT3,qQc];done))|(refine And.intro ?aa ?_;case aa=>(intros;exact q0X (by omega)))|(refine And.intro ?aa ?_;case aa=>(intros;simp only[decide_eq_true_eq]at *;omega))|(intro q hq))
   rename_i q1 hq1;have e0:q=decide (¬(inR (q8V s.marks i).client 1 9∧inR (q8V s.marks i).number 1 99∧q5B (q8V s.marks i).reply)):=by
    rw[hq,hq1,Bool.eq_iff_iff,decide_eq_true_eq];by_cases a1:inR (q8V s.marks i).client 1 9<;>by_cases a2:inR (q8V s.marks i).number 1 99<;>by_cases a3:q5B (q8V s.marks i).reply<;>simp only[a1,a2,a3,decide_true,decide_false,Bool.not_true,Bool.not_false,cond_true,cond_false,and_true,true_and,and_false,false_and,not_true_eq_false,not_false_eq_true,Bool.false_eq_true]
   clear hq hq1;rw[e0];refine⟨fun h5=>stop _ (by unfold q9b;rw[if_pos (of_decide_eq_true h5)]) (by decide),fun h5=>?_⟩;have e2:q9b s.marks i=if 0≤q72 (s.marks.take i) (q8V s.marks i).client (q8V s.marks i).number then 6 else 0:=if_neg (of_decide_eq_false h5)
   clear e0;simp only[Option.getD_some,Option.getD_none,Int.toNat_natCast,Nat.sub_zero,qRh (q2h 1) 1 s.marks i hi];refine⟨⟨by omega,by omega,by omega⟩,fun k hk=>⟨rfl,rfl⟩,⟨qT6 hi,by show(s.marks.take i).length≤maxLen;rw[List.length_take];unfold maxLen;omega⟩,fun h6=>?_,fun h6=>⟨q0X (by omega),i+1,SLe.refl _,⟨by omega,?_⟩,by omega⟩⟩
   ·exact stop _ (by rw[e2,if_pos (of_decide_eq_true h6)]) (by decide)
   ·exact q4F hz (by rw[e2,if_neg (of_decide_eq_false h6)])
  ·have hge:i=s.marks.length:=by have:=of_decide_eq_false h2;omega
   exact q0I (by unfold q1a;rw[if_neg c1,if_neg c2,if_neg (not_not_intro c3),if_neg c4,←hge,hz])
 exact Eq.mp (by kernel_rfl) key
theorem xGA:q0R Tryz.prog 46 xBv:=by
 refine sob 0 Tryz.func46 fun args bin ob r bout hDe hob=>?_;unfold xBv at hDe;split at hDe
 ·rename_i a0;cases hDe;exact okB (xGa (q0B a0) (hob.2)) xFX (args_of_vles ⟨hob.1,trivial⟩)
 ·cases hDe
def x90 (s:q06):Prop:=s.bd
noncomputable def xEo (s:q06):V:=.int .i64 (q1a s)
noncomputable def xA7:q0P:=fun args bin=>match args,bin with
 |[a0],[]=>some (VLe a0 (q0b 1 ((q14 a0)))∧x90 (q14 a0),xEo (q14 a0),[])
 |_,_=>none
noncomputable def qYe (s:q06):q0M:=
 ⟨Nat,fun i=>⟨[(0,q0b 1 s),(5,.int .i64 i)],[]⟩,
  fun i=>i≤s.marks.length∧q1s (q9b s.marks) i=0,fun i=>s.marks.length-i⟩
noncomputable def xGH (s:q06):Nat→Option q0M:=fun rg_=>match rg_ with
 |12=>some (qYe s)
 |_=>none
noncomputable def D87:=lkR [(149,qWb),(150,qYo),(137,qSN),(110,qQ4),(151,qA8),(152,qWR),(141,qO4)]
theorem xFu:q0C Tryz.prog D87:=q02 x7X (q02 x7r (q02 x3a (q02 qW8 (q02 qBp (q02 xAo (q02 qYp (q04)))))))
noncomputable def xH2 (s:q06):=cxL D87 Tryz.f87 [0,2,3,4,5,6,13,21,28,34,41,70,82] [(12,⟨[(0,none),(5,none)],[]⟩)] (xGH s) []
noncomputable def qSw (s:q06) (x:Nat):q2E:=((q1C s).getD (↑x:Int).toNat default).reply
noncomputable def qOU (s:q06) (x:Nat):V:=V.ptr [vi (q5R s x),vi (qAx s x),vi (qSw s x).code,vi (qSw s x).value,V.str (qSw s x).path] 2 1
theorem xG3 (s:q06) (hpre:x90 s):q0d (xH2 s) Tryz.f87 0 [q0b 1 (s)] (fun rr=>VLe rr (xEo s)):=by
 have key:(VLe (q0D (q01 1) 1 s.nodes) (q0D (q01 1) 1 (q1F s))∧qTS (q1F s))∧((q1A (q1F s)!=0)=true→VLe (vi (q1A (q1F s))) (vi (q1a s)))∧((q1A (q1F s)!=0)=false→(VLe (q0D (q00 1) 1 s.sessions) (q0D (q00 1) 1 (q1G s))∧qSR (q1G s))∧((q1q (q1G s)!=0)=true→VLe (vi (q1q (q1G s))) (vi (q1a s)))∧((q1q (q1G s)!=0)=false→qPe s.now∧((!decide (inR s.now 0 9000))=true→VLe (vi 3) (vi (q1a s)))∧((!decide (inR s.now 0 9000))=false→(decide ((↑ (q1C s).length:Int)>40)=true→VLe (vi 2) (vi (q1a s)))∧(decide ((↑ (q1C s).length:Int)>40)=false→((∃x:Nat,SLe (AS.mk [(0,q0b 1 s),(5,vi 0)] []) (AS.mk [(0,q0b 1 s),(5,vi (↑x:Int))] [])∧x≤(q1C s).length∧q1s (q9b (q1C s)) x=(0:Int))∧∀x:Nat,x≤(q1C s).length∧q1s (q9b (q1C s)) x=(0:Int)→(decide ((↑x:Int)<(↑ (q1C s).length:Int))=true→(0≤(↑x:Int)∧(↑x:Int)<(↑ (q1C s).length:Int))∧qIc (q5R s x)∧tq (!!decide (inR (q5R s x) (1:Int) (9:Int)))∧tq (!!decide (inR (q5R s x) (1:Int) (9:Int)))∧tq (!!decide (inR (q5R s x) (1:Int) (9:Int)))∧tq (!!decide (inR (q5R s x) (1:Int) (9:Int)))∧((!!decide (inR (q5R s x) (1:Int) (9:Int)))=true→q62 (qAx s x) (1:Int) (99:Int))∧tq (!!decide (inR (q5R s x) (1:Int) (9:Int)))∧((true=true→(!decide (inR (q5R s x) (1:Int) (9:Int)))=false→(!!decide (inR (q5R s x) (1:Int) (9:Int)))=true)∧∀b:Bool,(b=bif !decide (inR (q5R s x) (1:Int) (9:Int))then true else !decide (inR (qAx s x) (1:Int) (99:Int)))→tq (!b)∧tq (!b)∧tq (!b)∧((!b)=true→VLe (qOU s x) (q7o 1 (q3d (qOU s x)))∧qT5 (q3d (qOU s x)))∧tq (!b)∧((true=true→b=false→(!b)=true)∧∀b_1:Bool,(b_1=bif b then true else !decide (q5B (q3d (qOU s x)).reply))→(b_1=true→VLe (vi 3) (vi (q1a s)))∧(b_1=false→(VLe (q0b 1 s) (q0b 1 (q14 (q0b 1 s)))∧qNX (q14 (q0b 1 s)) (q5R s x) (qAx s x))∧((q72 (q14 (q0b 1 s)).marks (q5R s x) (qAx s x)!=(↑x:Int))=true→VLe (vi 6) (vi (q1a s)))∧((q72 (q14 (q0b 1 s)).marks (q5R s x) (qAx s x)!=(↑x:Int))=false→(inK IntKind.i64 ((↑x:Int)+1)∧∃y:Nat,SLe (AS.mk [(0,q0b 1 s),(5,vi ((↑x:Int)+1))] []) (AS.mk [(0,q0b 1 s),(5,vi (↑y:Int))] [])∧(y≤(q1C s).length∧q1s (q9b (q1C s)) y=(0:Int))∧(q1C s).length-y<(q1C s).length-x))))))∧(decide ((↑x:Int)<(↑ (q1C s).length:Int))=false→VLe (vi 0) (vi (q1a s)))))))):=by
  delta q1F;delta q1G;delta qOU;delta qSw;delta qAx;delta q5R;delta q1C;delta vi;obtain⟨⟨hn,hnb⟩,hs,hk,hkb⟩:=hpre;have hk':=hk;unfold maxLen at hk';simp only[q0o,q0p,q4D,q3F,qEJ];refine⟨⟨VLe.refl _,hn⟩,fun h=>q0I (by unfold q1a;rw[if_pos (q8a h)]),fun h=>?_⟩;have c1:=q5C h;refine⟨⟨VLe.refl _,hs⟩,fun h=>q0I (by unfold q1a;rw[if_neg c1,if_pos (q8a h)]),fun h=>?_⟩;have c2:=q5C h;refine⟨trivial,fun h=>?_,fun h=>?_⟩
  ·have c3:¬inR s.now 0 9000:=by simpa using h
   exact q0I (by unfold q1a;rw[if_neg c1,if_neg c2,if_pos c3])
  have c3:inR s.now 0 9000:=by simpa using h
  refine⟨fun h=>?_,fun h=>?_⟩
  ·have c4:40<s.marks.length:=by have:=of_decide_eq_true h;omega
   exact q0I (by unfold q1a;rw[if_neg c1,if_neg c2,if_neg (not_not_intro c3),if_pos c4])
  have c4:¬40<s.marks.length:=by have:=of_decide_eq_false h;omega
  refine⟨⟨0,SLe.refl _,by omega,rfl⟩,?_⟩;rintro i ⟨hi,hz⟩;refine⟨fun h2=>?_,fun h2=>?_⟩
  ·have hlt:i<s.marks.length:=by have:=of_decide_eq_true h2;omega
   have hbd:(s.marks.getD i default).bd:=hkb _ (by simp[hlt]);simp only[Int.toNat_natCast];have stop:∀c,c=q9b s.marks i→c≠0→VLe (.int .i64 c) (.int .i64 (q1a s)):=fun c hc h0=>q0I (by
    unfold q1a;rw[if_neg c1,if_neg c2,if_neg (not_not_intro c3),if_neg c4,q5T hz (by rw[←hc];exact h0) _ hlt,hc])
   refine⟨⟨by omega,by omega⟩,trivial,?_⟩
   repeat (first|(refine And.intro (fun h _=>h) ?_)|(refine And.intro (fun _ h=>h) ?_)|(refine And.intro ?aa ?_;case aa=>(exact(tqI _)))|(refine And.intro ?aa ?_;case aa=>(exact(fun _=>trivial)))|(refine And.intro ?aa ?_;case aa=>(exact(fun _=>⟨VLe.refl _,hbd⟩)))|(refine And.intro ?aa ?_;case aa=>(intros;simp_all [qTS,qSR,qPe,qIc,q62,qT5,qNX];done))|(refine And.intro ?aa ?_;case aa=>(intros;exact q0X (by omega)))|(refine And.intro ?aa ?_;case aa=>(intros;simp only[decide_eq_true_eq]at *;omega))|(intro q hq))
   rename_i q1 hq1;have e0:q=decide (¬(inR (q8V s.marks i).client 1 9∧inR (q8V s.marks i).number 1 99∧q5B (q8V s.marks i).reply)):=by
    rw[hq,hq1,Bool.eq_iff_iff,decide_eq_true_eq];by_cases a1:inR (q8V s.marks i).client 1 9<;>by_cases a2:inR (q8V s.marks i).number 1 99<;>by_cases a3:q5B (q8V s.marks i).reply<;>simp only[a1,a2,a3,decide_true,decide_false,Bool.not_true,Bool.not_false,cond_true,cond_false,and_true,true_and,and_false,false_and,not_true_eq_false,not_false_eq_true,Bool.false_eq_true]
   clear hq hq1;rw[e0];refine⟨fun h5=>stop _ (by unfold q9b;rw[if_pos (of_decide_eq_true h5)]) (by decide),fun h5=>?_⟩;have e2:q9b s.marks i=if 0≤q72 (s.marks.take i) (q8V s.marks i).client (q8V s.marks i).number then 6 else 0:=if_neg (of_decide_eq_false h5)
   clear e0;have hm:=qP5 hlt;refine⟨⟨VLe.refl _,hk⟩,fun h6=>?_,fun h6=>⟨q0X (by omega),i+1,SLe.refl _,⟨by omega,?_⟩,by omega⟩⟩
   ·exact stop _ (by rw[e2,if_pos (Classical.byContradiction fun g=>q8a h6 (hm.2 g))]) (by decide)
   ·exact q4F hz (by rw[e2,if_neg (hm.1 (Classical.not_not.1 (q5C h6)))])
  ·have hge:i=s.marks.length:=by have:=of_decide_eq_false h2;omega
   exact q0I (by unfold q1a;rw[if_neg c1,if_neg c2,if_neg (not_not_intro c3),if_neg c4,←hge,hz])
 exact Eq.mp (by kernel_rfl) key
theorem xH4:q0R Tryz.prog 87 xA7:=by
 refine sob 0 Tryz.func87 fun args bin ob r bout hDe hob=>?_;unfold xA7 at hDe;split at hDe
 ·rename_i a0;cases hDe;exact okB (xG3 (q14 a0) (hob.2)) xFu (args_of_vles ⟨hob.1,trivial⟩)
 ·cases hDe
set_option maxHeartbeats 4000000
theorem q4T {l:List q07} (h:q1q l=0):okS l:=by
 unfold q1q at h;split at h
 ·cases h
 ·rename_i h6;have hs:=q7H h;have hE:∀i,i<l.length→(inR (l.getD i default).id 1 9∧inR (l.getD i default).upto 0 9999)∧¬(0<i∧(l.getD i default).id≤(l.getD (i-1) default).id):=fun i hi=>by
   have:=hs i hi;unfold q8Z at this;split at this
   ·cases this
   ·rename_i c;split at this
    ·cases this
    ·rename_i c2;exact⟨Classical.not_not.1 c,c2⟩
  refine⟨by omega,qSX fun i h0 hi=>?_,fun s hs=>?_⟩
  ·have:=(hE i hi).2;omega
  ·obtain⟨i,hi,rfl⟩:=List.getElem_of_mem hs;have:=(hE i hi).1;simpa[hi]using this
def qP4 (l:List q07) (id:Int) (now:Int):Prop:=l.length≤maxLen
noncomputable def x1P (l:List q07) (id:Int) (now:Int):V:=.int .i64 (if q1q l≠0 then q1q l else if¬(inR id 1 9∧inR now 0 9000)then 3 else 0)
noncomputable def qQC:q0P:=fun args bin=>match args,bin with
 |[a0,.int .i64 a1,.int .i64 a2],[]=>some (VLe a0 (q0D (q00 1) 1 (((q0K q05) a0)))∧qP4 ((q0K q05) a0) a1 a2,x1P ((q0K q05) a0) a1 a2,[])
 |_,_=>none
noncomputable def xFQ:=lkR [(118,qSf),(107,qMa),(119,qNe)]
theorem xC0:q0C Tryz.prog xFQ:=q02 x3w (q02 qT1 (q02 qVq (q04)))
noncomputable def x93 (l:List q07) (id:Int) (now:Int):=cxN xFQ Tryz.f224 [0,1,2,6,7,11,20]
theorem xC7 (l:List q07) (id:Int) (now:Int) (hpre:qP4 l id now):q0d (x93 l id now) Tryz.f224 0 [q0D (q00 1) 1 (l),.int .i64 (id),.int .i64 (now)] (fun rr=>VLe rr (x1P l id now)):=by
 have key:(VLe (q0D (q00 1) 1 l) (q0D (q00 1) 1 (q0F l))∧qOX (q0F l))∧((q1q (q0F l)!=0)=true→VLe (vi (q1q (q0F l))) (vi (if q1q l≠(0:Int)then q1q l else if¬(inR id 1 9∧inR now 0 9000)then(3:Int)else(0:Int))))∧((q1q (q0F l)!=0)=false→qGK id∧tq (!!decide (inR id 1 9))∧((!!decide (inR id 1 9))=true→qN1 now)∧tq (!!decide (inR id 1 9))∧((true=true→(!decide (inR id 1 9))=false→(!!decide (inR id 1 9))=true)∧∀b:Bool,(b=bif !decide (inR id 1 9)then true else !decide (inR now 0 9000))→(b=true→VLe (vi 3) (vi (if q1q l≠(0:Int)then q1q l else if¬(inR id 1 9∧inR now 0 9000)then(3:Int)else(0:Int))))∧(b=false→VLe (vi 0) (vi (if q1q l≠(0:Int)then q1q l else if¬(inR id 1 9∧inR now 0 9000)then(3:Int)else(0:Int)))))):=by
  delta q0F;delta vi;have hl:l.length≤maxLen:=hpre;simp only[q0p];refine⟨⟨VLe.refl _,hl⟩,fun h=>q0I ?_,fun h=>?_⟩
  ·have h1:q1q l≠0:=by simpa using h
   rw[if_pos h1]
  ·have h1:q1q l=0:=by simpa using h
   rw[if_neg (not_not_intro h1)]
   repeat (first|refine And.intro (tqI _) ?_|refine And.intro (fun _ h=>h) ?_|refine And.intro (fun h _=>h) ?_|refine And.intro (fun _=>trivial) ?_|refine And.intro trivial ?_|refine And.intro (fun _ h=>by rw[h];rfl) ?_)
   intro q hq;refine⟨fun h2=>q0I ?_,fun h2=>q0I ?_⟩
   ·rw[h2]at hq;rw[if_pos];rintro⟨a1,a2⟩;rw[decide_eq_true a1,decide_eq_true a2]at hq;cases hq
   ·rw[h2]at hq;rw[if_neg];intro g;apply g;by_cases a1:inR id 1 9
    ·by_cases a2:inR now 0 9000
     ·exact⟨a1,a2⟩
     ·rw[decide_eq_true a1,decide_eq_false a2]at hq;cases hq
    ·rw[decide_eq_false a1]at hq;cases hq
 exact Eq.mp (by kernel_rfl) key
theorem qWX:q0R Tryz.prog 224 qQC:=by
 refine sob 0 Tryz.func224 fun args bin ob r bout hDe hob=>?_;unfold qQC at hDe;split at hDe
 ·rename_i a0 a1 a2;cases hDe;exact okB (xC7 ((q0K q05) a0) a1 a2 (hob.2)) xC0 (args_of_vles ⟨hob.1,VLe.refl _,VLe.refl _,trivial⟩)
 ·cases hDe
def qRc (l:List q07) (id:Int) (now:Int):Prop:=q1q l=0∧inR id 1 9∧inR now 0 9000
noncomputable def q82 (l:List q07) (id:Int) (now:Int):q12:=q4S l id now
noncomputable def qV5 (l:List q07) (id:Int) (now:Int):List Blk:=[(.arr 2 ((q82 l id now).sessions).length (gL (q00 1) ((q82 l id now).sessions)) q0l)]
noncomputable def qV6 (l:List q07) (id:Int) (now:Int):V:=.agg [.int .i64 ((q82 l id now).code),.osl 0 ((q82 l id now).sessions).length]
noncomputable def qR8:q0P:=fun args bin=>match args,bin with
 |[a0,.int .i64 a1,.int .i64 a2],[]=>some (VLe a0 (q0D (q00 1) 1 (((q0K q05) a0)))∧qRc ((q0K q05) a0) a1 a2,qV6 ((q0K q05) a0) a1 a2,qV5 ((q0K q05) a0) a1 a2)
 |_,_=>none
noncomputable def qZK:Nat→Option (Fl×q0P):=lk [(224,(.ro,qQC)),(228,(.ro,qPn)),(163,(.ro,qCL)),(235,(.mv,qVw))]
theorem x3Z:q0C Tryz.prog qZK:=q02 qWX (q02 qYV (q02 qHj (q02 x7s (q04))))
noncomputable def x1G (l:List q07) (id:Int) (now:Int):=cxN qZK Tryz.f177 [0,1,2,6,7,8,9,15,24,27]
noncomputable def qJf (l:List q07) (id:Int) (now:Int):Blk:=Blk.arr 2 (q82 l id now).sessions.length (gL (q00 1) (q82 l id now).sessions) 100
def qGM (l:List q07) (id:Int) (now:Int):Prop:=BLe (Blk.arr 2 0 (fun(x:Nat) ↦ V.undef) 100) (qJf l id now)∧True
noncomputable def q5v (l:List q07):List q07:=q0K q05 (q0D (q00 1) 1 (q2f (q0F l)))
noncomputable def qGf (id:Int) (now:Int):List q07:=q0K q05 (V.sl 1 (q3C [V.agg [vi id,vi (now+10)]]) 1)
noncomputable def qGS (l:List q07) (id:Int) (now:Int):List q07:=qAo (q5v l) (↑ (q6y (q0F l) id):Int) (qGf id now)
noncomputable def qDq (l:List q07) (id:Int) (now:Int):V:=V.agg [vi (q82 l id now).code,V.osl 0 (q82 l id now).sessions.length]
def q8F (l:List q07):Prop:=VLe (q0D (q00 1) 1 l) (q0D (q00 1) 1 (q0F l))
noncomputable def qAh (l:List q07) (id:Int) (now:Int):Bool:=(if q1q (q0F l)≠(0:Int)then q1q (q0F l)else if¬(inR id 1 9∧inR now 0 9000)then(3:Int)else(0:Int))!=0
theorem qZs (l:List q07) (id:Int) (now:Int) (hpre:qRc l id now):q3h (x1G l id now) Tryz.f177 [(1,2)] [q0D (q00 1) 1 (l),.int .i64 (id),.int .i64 (now)] [] (fun rr bs=>VLe rr (qV6 l id now)∧q1y bs (qV5 l id now)):=by
 have key:(q8F l∧qP4 (q0F l) id now)∧((qAh l id now)=true→VLe (V.agg [vi (if q1q (q0F l)≠(0:Int)then q1q (q0F l)else if¬(inR id 1 9∧inR now 0 9000)then(3:Int)else(0:Int)),V.osl 0 0]) (qDq l id now)∧qGM l id now)∧((qAh l id now)=false→(q8F l∧qPy (q0F l) id)∧(qBB (q0F l) id=true→VLe (V.agg [vi 6,V.osl 0 0]) (qDq l id now)∧qGM l id now)∧(qBB (q0F l) id=false→(((↑ l.length:Int)==(6:Int))=true→VLe (V.agg [vi 2,V.osl 0 0]) (qDq l id now)∧qGM l id now)∧(((↑ l.length:Int)==(6:Int))=false→(q8F l∧qCY (q0F l))∧inK IntKind.i64 (now+10)∧((0=0∧2=2∧100=100∧((q2f (q0F l)).length=(q2f (q0F l)).length∧∀i:Nat,i<(q2f (q0F l)).length→ELe (q00 1 ((q2f (q0F l)).getD i default)) (q00 1 ((q5v l).getD i default))))∧(1=1∧2=2∧100=100∧(1=1∧∀i:Nat,i<1→ELe (q3C [V.agg [vi id,vi (now+10)]] i) (q00 1 ((qGf id now).getD i default))))∧qYM (q5v l) (↑ (q6y (q0F l) id):Int) (qGf id now))∧VLe (V.agg [vi 0,V.osl 0 (qGS l id now).length]) (qDq l id now)∧BLe (Blk.arr 2 (qGS l id now).length (gL (q00 1) (qGS l id now)) 100) (qJf l id now)∧True))):=by
  delta qAh;delta q8F;delta qDq;delta qGS;delta qGf;delta q5v;delta qGM;delta qJf;delta q0F;delta vi;obtain⟨h0,hid,hnow⟩:=hpre;have hk:=q4T h0;have hl:=hk.1;have hp:=qNf l id;have hnow2:=hnow;unfold inR at hnow2;have ec:(if q1q l≠0 then q1q l else if¬(inR id 1 9∧inR now 0 9000)then 3 else 0)=0:=by rw[if_neg (not_not_intro h0),if_neg (not_not_intro ⟨hid,hnow⟩)]
  have ew:q0K q05 (.sl 1 (q3C [.agg [.int .i64 id,.int .i64 (now+10)]]) 1)=[⟨id,now+10⟩]:=rfl;have es:=qRK hk.2.1 id;simp only[q0p,ec,ew,q2f];refine⟨⟨VLe.refl _,by show l.length≤maxLen;unfold maxLen;omega⟩,fun h=>absurd h (by decide),fun _=>⟨⟨VLe.refl _,hk,hid⟩,fun h=>?_,fun h=>⟨fun h2=>?_,fun h2=>?_⟩⟩⟩
  ·have e:q82 l id now=(⟨6,[]⟩:q12):=by
    show q4S l id now=_;unfold q4S;rw[if_pos (by rw[es,if_pos h];omega)]
   rw[e];exact⟨VLe.refl _,q3G _,trivial⟩
  ·have h3:¬0≤sAt l id:=by
    have:¬(qBB l id=true):=by rw[h];decide
    rw[es,if_neg this];omega
   have e:q82 l id now=(⟨2,[]⟩:q12):=by
    show q4S l id now=_;unfold q4S;rw[if_neg h3,if_pos (by have:=eq_of_beq h2;omega)]
   rw[e];exact⟨VLe.refl _,q3G _,trivial⟩
  ·have h3:¬0≤sAt l id:=by
    have:¬(qBB l id=true):=by rw[h];decide
    rw[es,if_neg this];omega
   have h4:¬(l.length:Int)=6:=by simpa using h2
   have e:q82 l id now=(⟨0,l.take (q6y l id)++⟨id,now+10⟩::l.drop (q6y l id)⟩:q12):=by
    show q4S l id now=_;unfold q4S;rw[if_neg h3,if_neg (by omega)]
   have e2:qAo l (q6y l id:Int) [⟨id,now+10⟩]=l.take (q6y l id)++⟨id,now+10⟩::l.drop (q6y l id):=by
    show l.take _++[_]++l.drop _=_;rw[List.append_assoc];rfl
   rw[e,e2];refine⟨⟨VLe.refl _,by show l.length≤1000;omega⟩,q0X (by omega),⟨⟨trivial,trivial,trivial,trivial,fun i hi=>ELe.refl _⟩,⟨trivial,trivial,trivial,trivial,fun i hi=>?_⟩,?_⟩,VLe.refl _,BLe.refl _,trivial⟩
   ·have:i=0:=by omega
    subst this;exact ELe.refl _
   ·exact⟨by omega,by omega,by show 0<1;omega,by show l.length+1≤1000;omega⟩
 exact Eq.mp (by kernel_rfl) key
theorem x0X:q0R Tryz.prog 177 qR8:=by
 refine q0S q77 (tpl:=[(1,2)]) Tryz.func177 rfl (by kernel_rfl) fun args bin ob r bout hDe hob=>?_;unfold qR8 at hDe;split at hDe
 ·rename_i a0 a1 a2;cases hDe;exact okQ (qZs ((q0K q05) a0) a1 a2 (hob.2)) x3Z (args_of_vles ⟨hob.1,VLe.refl _,VLe.refl _,trivial⟩) trivial
 ·cases hDe
theorem xA9 {n:Int} (h:0≤n∧n≤255):inK .u8 n:=Go.IntWalk.u8_in _ h
theorem agT {c:Int} {t:ByteArray} {x:q1S} (h:x=⟨c,t⟩):VLe (.agg [.int .i64 c,.str t]) (q7l 1 x):=by
 subst h;exact VLe.refl _
def qJ4 (n:Int):Prop:=inR n 0 9
noncomputable def x3u (n:Int):V:=.str (qO2 n)
noncomputable def qXY:q0P:=fun args bin=>match args,bin with
 |[.int .i64 a0],[]=>some (qJ4 a0,x3u a0,[])
 |_,_=>none
noncomputable def xF7:=lkR []
theorem x6r:q0C Tryz.prog xF7:=q04
noncomputable def x9Z (n:Int):Cx:=⟨tt,xF7,Tryz.f276.ntmps,[0,2,4,10],[],[2,5],fun _=>none,[],noM,[]⟩
theorem x71 (n:Int) (hpre:qJ4 n):q0d (x9Z n) Tryz.f276 0 [.int .i64 (n)] (fun rr=>VLe rr (x3u n)):=by
 have key:(decide (n<0)=true→False)∧(decide (n<0)=false→(decide (n<10)=true→inK IntKind.i64 (48+n)∧inK IntKind.u8 (48+n)∧(∀i:Nat,i<1→qPm (V.int IntKind.u8 (List.getD [48+n] i (0:Int)))=true)∧VLe (V.str (q6W 1 (q3C [V.int IntKind.u8 (48+n)]))) (V.str (qO2 n)))∧(decide (n<10)=false→False)):=by
  unfold qJ4 inR at hpre;exact⟨fun h=>by have:=of_decide_eq_true h;omega,fun _=>⟨fun _=>⟨q0X (by omega),xA9 (by omega),fun i hi=>by
   have:i=0:=by omega
   subst this;rfl,VLe.refl _⟩,fun h=>by have:=of_decide_eq_false h;omega⟩⟩
 exact Eq.mp (by kernel_rfl) key
theorem x7z:q0R Tryz.prog 276 qXY:=by
 refine sob 0 Tryz.func276 fun args bin ob r bout hDe hob=>?_;unfold qXY at hDe;split at hDe
 ·rename_i a0;cases hDe;exact okB (x71 a0 (hob)) x6r (args_of_vles ⟨VLe.refl _,trivial⟩)
 ·cases hDe
theorem qA6 {α:Type} [Inhabited α] {enc:α→V} {sz n i te:Nat} {xs:List α} {g:Nat→V} {x:α} (hi:i<xs.length) (h:ELe (g i) (enc x)) (ho:∀j,j≠i→g j=gL enc xs j):
  BLe (.arr sz n g te) (.arr sz n (gL enc (xs.set i x)) te):=by
 refine q1P (fun k hk=>?_) (Or.inl rfl);by_cases e:k=i
 ·subst e;simp only[gL];rw[q27 _ _ _ _ hi];exact h
 ·rw[ho k e];simp only[gL];rw[q1u _ _ _ _ e];exact ELe.refl _
theorem qLx {g h:Nat→V}:q3K 0 g h=h:=by funext i;simp[q3K]
theorem q5e {sz:Nat} {cs:List V} (h:cs.length=sz) (h2:q87 (.agg cs)=true):q13 sz 1 (q3C [.agg cs]):=by
 intro k hk;have:k=0:=by omega
 subst this;exact⟨h,h2⟩
theorem qKm {α:Type} [Inhabited α] {l:List α} {x:Nat} (hx:x≤l.length) (z:α) (i:Nat):
  (l.take x++z::l.drop x).getD i default=if i<x then l.getD i default else if i=x then z else l.getD (i-1) default:=by
 have hl:(l.take x).length=x:=by rw[List.length_take];omega
 rw[List.getD_eq_getElem?_getD,List.getElem?_append,hl];split
 ·rename_i h;rw[List.getElem?_take,if_pos h,List.getD_eq_getElem?_getD]
 ·rename_i h;split
  ·rename_i h2;subst h2;simp
  ·rename_i h2;have:i-x=(i-x-1)+1:=by omega
   rw[this,List.getElem?_cons_succ,List.getElem?_drop,List.getD_eq_getElem?_getD];congr 2;omega
theorem qXK {l:List q0A} {z:q0A} {x:Nat} (hx:x≤l.length):
  BLe (.arr 5 (x+1+(l.length-x)) (q3K (x+1) (q3K x (q3K 0 (q3C []) (gL (q01 1) l)) (q3C [q01 1 z])) (q32 (gL (q01 1) l) x)) q0l)
   (.arr 5 (x+1+(l.length-x)) (gL (q01 1) (l.take x++z::l.drop x)) q0l):=by
 refine q1P (fun i hi=>?_) (Or.inl rfl);have e:q3K (x+1) (q3K x (q3K 0 (q3C []) (gL (q01 1) l)) (q3C [q01 1 z])) (q32 (gL (q01 1) l) x) i=gL (q01 1) (l.take x++z::l.drop x) i:=by
  unfold q3K gL q32;rw[qKm hx];by_cases h1:i<x
  ·rw[if_pos (by omega),if_pos h1,if_pos h1,if_neg (Nat.not_lt_zero i),Nat.sub_zero]
  ·by_cases h2:i=x
   ·subst h2;rw[if_pos (by omega),if_neg h1,if_neg h1,if_pos rfl,Nat.sub_self];rfl
   ·rw[if_neg (by omega),if_neg h1,if_neg h2];have:x+(i-(x+1))=i-1:=by omega
    rw[this]
 rw[e];exact ELe.refl _
def qVR (p:ByteArray) (s:ByteArray):Prop:=p.size≤1000∧s.size≤1000
noncomputable def x1H (p:ByteArray) (s:ByteArray):V:=.str (q2L p s)
noncomputable def qVx:q0P:=fun args bin=>match args,bin with
 |[.str a0,.str a1],[]=>some (qVR a0 a1,x1H a0 a1,[])
 |_,_=>none
noncomputable def xEr:=lkR []
theorem x7c:q0C Tryz.prog xEr:=q04
noncomputable def xCG (p:ByteArray) (s:ByteArray):=cxN xEr Tryz.f253 [0,1,4,6]
theorem x5v (p:ByteArray) (s:ByteArray) (hpre:qVR p s):q0d (xCG p s) Tryz.f253 0 [.str (p),.str (s)] (fun rr=>VLe rr (x1H p s)):=by
 have key:(q1t p (ByteArray.mk #[(47:UInt8)])=true→(ByteArray.mk #[(47:UInt8)]).size+s.size≤2^62∧VLe (V.str (ByteArray.mk #[(47:UInt8)]++s)) (V.str (q2L p s)))∧(q1t p (ByteArray.mk #[(47:UInt8)])=false→p.size+(ByteArray.mk #[(47:UInt8)]).size≤2^62∧(p++ByteArray.mk #[(47:UInt8)]).size+s.size≤2^62∧VLe (V.str (p++ByteArray.mk #[(47:UInt8)]++s)) (V.str (q2L p s))):=by
  obtain⟨h1,h2⟩:=hpre;have t1:(⟨#[47]⟩:ByteArray).size=1:=rfl;simp only[q1W];refine⟨fun h=>⟨by omega,q7i ?_⟩,fun h=>⟨by omega,by rw[ByteArray.size_append];omega,q7i ?_⟩⟩
  ·unfold q2L;rw[if_pos (of_decide_eq_true h)]
  ·unfold q2L;rw[if_neg (of_decide_eq_false h)]
 exact Eq.mp (by kernel_rfl) key
theorem x9G:q0R Tryz.prog 253 qVx:=by
 refine sob 0 Tryz.func253 fun args bin ob r bout hDe hob=>?_;unfold qVx at hDe;split at hDe
 ·rename_i a0 a1;cases hDe;exact okB (x5v a0 a1 (hob)) x7c (args_of_vles ⟨VLe.refl _,VLe.refl _,trivial⟩)
 ·cases hDe
def qTa (s:ByteArray) (n:Int):Prop:=s.size≤1000∧inR n 0 99
noncomputable def x3X (s:ByteArray) (n:Int):V:=.str (q5P s n)
noncomputable def qXi:q0P:=fun args bin=>match args,bin with
 |[.str a0,.int .i64 a1],[]=>some (qTa a0 a1,x3X a0 a1,[])
 |_,_=>none
noncomputable def xDQ:=lkR [(276,qXY)]
theorem xA1:q0C Tryz.prog xDQ:=q02 x7z (q04)
noncomputable def xAq (s:ByteArray) (n:Int):=cxN xDQ Tryz.f252 [0,1,4]
theorem xBF (s:ByteArray) (n:Int) (hpre:qTa s n):q0d (xAq s n) Tryz.f252 0 [.str (s),.int .i64 (n)] (fun rr=>VLe rr (x3X s n)):=by
 have key:(10:Int)≠(0:Int)∧inK IntKind.i64 (Int.tdiv n (10:Int))∧qJ4 (Int.tdiv n (10:Int))∧s.size+1≤4611686018427387904∧(10:Int)≠(0:Int)∧qJ4 (Int.tmod n (10:Int))∧(s++qO2 (Int.tdiv n (10:Int))).size+1≤4611686018427387904∧VLe (V.str (s++qO2 (Int.tdiv n (10:Int))++qO2 (Int.tmod n (10:Int)))) (V.str (q5P s n)):=by
  obtain⟨h1,h2⟩:=hpre;unfold inR at h2;obtain⟨k,rfl⟩:=Int.eq_ofNat_of_zero_le h2.1;have e1:((k:Int)).tdiv 10=((k/10:Nat):Int):=rfl;have e2:((k:Int)).tmod 10=((k%10:Nat):Int):=rfl;have p1:qJ4 ((k:Int).tdiv 10):=by
   show inR _ 0 9;unfold inR;rw[e1];omega
  have p2:qJ4 ((k:Int).tmod 10):=by
   show inR _ 0 9;unfold inR;rw[e2];omega
  refine⟨by decide,q0X (by rw[e1];omega),p1,by omega,by decide,p2,?_,VLe.refl _⟩;rw[ByteArray.size_append,qDT];omega
 exact Eq.mp (by kernel_rfl) key
theorem x9Q:q0R Tryz.prog 252 qXi:=by
 refine sob 0 Tryz.func252 fun args bin ob r bout hDe hob=>?_;unfold qXi at hDe;split at hDe
 ·rename_i a0 a1;cases hDe;exact okB (xBF a0 a1 (hob)) xA1 (args_of_vles ⟨VLe.refl _,VLe.refl _,trivial⟩)
 ·cases hDe
def q6w (c:Int):Prop:=True
noncomputable def q4t (c:Int):q16:=(⟨c,q1f,[]⟩:q16)
noncomputable def x2V (c:Int):List Blk:=[(.arr 5 ((q4t c).nodes).length (gL (q01 1) ((q4t c).nodes)) q0l)]
noncomputable def x11 (c:Int):V:=.agg [.int .i64 ((q4t c).code),.str ((q4t c).path),.osl 0 ((q4t c).nodes).length]
noncomputable def qOq:q0P:=fun args bin=>match args,bin with
 |[.int .i64 a0],[]=>some (q6w a0,x11 a0,x2V a0)
 |_,_=>none
noncomputable def xDZ:=lkR []
theorem xCu:q0C Tryz.prog xDZ:=q04
noncomputable def x5A (c:Int):=cxN xDZ Tryz.f249 [0,2]
theorem xBz (c:Int) (hpre:q6w c):q3h (x5A c) Tryz.f249 [(2,5)] [.int .i64 (c)] [] (fun rr bs=>VLe rr (x11 c)∧q1y bs (x2V c)):=by
 have key:VLe (V.agg [vi c,V.str (ByteArray.mk #[]),V.osl 0 0]) (V.agg [vi (q4t c).code,V.str (q4t c).path,V.osl 0 0])∧BLe (Blk.arr 5 0 (fun(x:Nat) ↦ V.undef) 100) (Blk.arr 5 0 (gL (q01 1) (q4t c).nodes) 100)∧True:=by
  delta vi;exact⟨VLe.refl _,q3G _,trivial⟩
 exact Eq.mp (by kernel_rfl) key
theorem qW1:q0R Tryz.prog 249 qOq:=by
 refine q0S q77 (tpl:=[(2,5)]) Tryz.func249 rfl (by kernel_rfl) fun args bin ob r bout hDe hob=>?_;unfold qOq at hDe;split at hDe
 ·rename_i a0;cases hDe;exact okQ (xBz a0 (hob)) xCu (args_of_vles ⟨VLe.refl _,trivial⟩) trivial
 ·cases hDe
def qNg (l:List q0A):Prop:=l.length≤1000
noncomputable def qDw (l:List q0A):List q0A:=l
noncomputable def qZQ (l:List q0A):List Blk:=[(.arr 5 (qDw l).length (gL (q01 1) (qDw l)) q0l)]
noncomputable def x08 (l:List q0A):V:=.osl 0 (qDw l).length
noncomputable def qP6:q0P:=fun args bin=>match args,bin with
 |[a0],[]=>some (VLe a0 (q0D (q01 1) 1 (((q0K q03) a0)))∧qNg ((q0K q03) a0),x08 ((q0K q03) a0),qZQ ((q0K q03) a0))
 |_,_=>none
noncomputable def xEW:=lkR []
theorem x7l:q0C Tryz.prog xEW:=q04
noncomputable def xCX (l:List q0A):=cxN xEW Tryz.f202 [0,2]
theorem x8G (l:List q0A) (hpre:qNg l):q3h (xCX l) Tryz.f202 [(0,5)] [q0D (q01 1) 1 (l)] [] (fun rr bs=>VLe rr (x08 l)∧q1y bs (qZQ l)):=by
 have key:0=0∧0+l.length≤1073741824∧q13 5 l.length (gL (q01 1) l)∧(∀i:Nat,i<l.length→q86 (q01 1 (l.getD i default))=true)∧VLe (V.osl 0 (0+l.length)) (V.osl 0 (qDw l).length)∧BLe (Blk.arr 5 (0+l.length) (q3K 0 (q3C []) (gL (q01 1) l)) 100) (Blk.arr 5 (qDw l).length (gL (q01 1) (qDw l)) 100)∧True:=by
  have hl:l.length≤1000:=hpre;refine⟨rfl,by omega,fun k hk=>⟨rfl,rfl⟩,fun k hk=>rfl,?_⟩;rw[Nat.zero_add,qLx];exact⟨VLe.refl _,BLe.refl _,trivial⟩
 exact Eq.mp (by kernel_rfl) key
theorem qVK:q0R Tryz.prog 202 qP6:=by
 refine q0S q77 (tpl:=[(0,5)]) Tryz.func202 rfl (by kernel_rfl) fun args bin ob r bout hDe hob=>?_;unfold qP6 at hDe;split at hDe
 ·rename_i a0;cases hDe;exact okQ (x8G ((q0K q03) a0) (hob.2)) x7l (args_of_vles ⟨hob.1,trivial⟩) trivial
 ·cases hDe
def qSL (l:List q0A) (z:q0A):Prop:=l.length≤1000
noncomputable def qDm (l:List q0A) (z:q0A):List q0A:=qKs l z
noncomputable def x2g (l:List q0A) (z:q0A):List Blk:=[(.arr 5 (qDm l z).length (gL (q01 1) (qDm l z)) q0l)]
noncomputable def x3c (l:List q0A) (z:q0A):V:=.osl 0 (qDm l z).length
noncomputable def qVv:q0P:=fun args bin=>match args,bin with
 |[a0,a1],[]=>some (VLe a0 (q0D (q01 1) 1 (((q0K q03) a0)))∧VLe a1 (q01 1 ((q03 a1)))∧qSL ((q0K q03) a0) (q03 a1),x3c ((q0K q03) a0) (q03 a1),x2g ((q0K q03) a0) (q03 a1))
 |_,_=>none
noncomputable def qWx (l:List q0A) (z:q0A):q0M:=
 ⟨Nat,fun i=>⟨[(0,q0D (q01 1) 1 l),(3,.oref 256 0 0),(5,.int .i64 i)],[(256,.box [.str z.path,.int .i64 z.data,.int .i64 z.version,.int .i64 z.owner,.int .i64 z.next])]⟩,
  fun i=>i≤l.length∧∀k,k<i→lt (atZ l k).path z.path,fun i=>l.length-i⟩
noncomputable def x9U (l:List q0A) (z:q0A):Nat→Option q0M:=fun rg_=>match rg_ with
 |2=>some (qWx l z)
 |_=>none
noncomputable def xFG:=lkR []
theorem x7I:q0C Tryz.prog xFG:=q04
noncomputable def x7t (l:List q0A) (z:q0A):=cxL xFG Tryz.f254 [0,1,3,4,5,6,20] [(2,⟨[(0,none),(3,none),(5,none)],[(256,[])]⟩)] (x9U l z) []
noncomputable def qII (z:q0A):Nat×Blk:=(256,Blk.box [V.str z.path,vi z.data,vi z.version,vi z.owner,vi z.next])
noncomputable def qBi (l:List q0A) (x:Nat):Bool:=decide ((↑x:Int)<(q0G l))
theorem xAJ (l:List q0A) (z:q0A) (hpre:qSL l z):q3h (x7t l z) Tryz.f254 [(0,5)] [q0D (q01 1) 1 (l),q01 1 (z)] [] (fun rr bs=>VLe rr (x3c l z)∧q1y bs (x2g l z)):=by
 have key:((∃x:Nat,SLe (AS.mk [(0,q0D (q01 1) 1 l),(3,V.oref 256 0 0),(5,vi 0)] [qII z]) (AS.mk [(0,q0D (q01 1) 1 l),(3,V.oref 256 0 0),(5,vi (↑x:Int))] [qII z])∧(x≤l.length∧∀k:Nat,k<x→lt (atZ l k).path z.path))∧∀x:Nat,(x≤l.length∧∀k:Nat,k<x→lt (atZ l k).path z.path)→tq (qBi l x)∧tq (qBi l x)∧(decide ((↑x:Int)<(q0G l))=true→0≤(↑x:Int)∧(↑x:Int)<(q0G l))∧tq (qBi l x)∧tq (qBi l x)∧tq (qBi l x)∧tq (qBi l x)∧tq (qBi l x)∧((true=true→decide ((↑x:Int)<(q0G l))=true→decide ((↑x:Int)<(q0G l))=true)∧∀b:Bool,(b=bif decide ((↑x:Int)<(q0G l))then qFa (l.getD (↑x:Int).toNat default).path z.path else false)→(b=true→(inK IntKind.i64 ((↑x:Int)+1)∧∃y:Nat,SLe (AS.mk [(0,q0D (q01 1) 1 l),(3,V.oref 256 0 0),(5,vi ((↑x:Int)+1))] [qII z]) (AS.mk [(0,q0D (q01 1) 1 l),(3,V.oref 256 0 0),(5,vi (↑y:Int))] [qII z])∧(y≤l.length∧∀k:Nat,k<y→lt (atZ l k).path z.path)∧l.length-y<l.length-x))∧(b=false→((0:Int)≤Option.getD none (0:Int)∧Option.getD none (0:Int)≤Option.getD (some (↑x:Int)) (q0G l)∧Option.getD (some (↑x:Int)) (q0G l)≤(q0G l))∧q13 5 l.length (gL (q01 1) l)∧0=0∧0+((Option.getD (some (↑x:Int)) (q0G l)).toNat-0)≤1073741824∧q13 5 ((Option.getD (some (↑x:Int)) (q0G l)).toNat-0) (match(motive:=Option Int→Nat→V) none with|none=>gL (q01 1) l|some val=>q32 (gL (q01 1) l) 0)∧(∀i:Nat,i<(Option.getD (some (↑x:Int)) (q0G l)).toNat-0→q86 (q01 1 (l.getD i default))=true)∧0+((Option.getD (some (↑x:Int)) (q0G l)).toNat-0)=0+((Option.getD (some (↑x:Int)) (q0G l)).toNat-0)∧0+((Option.getD (some (↑x:Int)) (q0G l)).toNat-0)+1≤1073741824∧q13 5 1 (q3C [q01 1 z])∧((0:Int)≤Option.getD (some (↑x:Int)) (0:Int)∧Option.getD (some (↑x:Int)) (0:Int)≤Option.getD none (q0G l)∧Option.getD none (q0G l)≤(q0G l))∧q13 5 l.length (gL (q01 1) l)∧0+((Option.getD (some (↑x:Int)) (q0G l)).toNat-0)+1=0+((Option.getD (some (↑x:Int)) (q0G l)).toNat-0)+1∧0+((Option.getD (some (↑x:Int)) (q0G l)).toNat-0)+1+((Option.getD none (q0G l)).toNat-(Option.getD (some (↑x:Int)) (0:Int)).toNat)≤1073741824∧q13 5 ((Option.getD none (q0G l)).toNat-(Option.getD (some (↑x:Int)) (0:Int)).toNat) (match(motive:=Option Int→Nat→V) some (↑x:Int)with|none=>gL (q01 1) l|some val=>q32 (gL (q01 1) l) (Option.getD (some (↑x:Int)) (0:Int)).toNat)∧(∀i:Nat,i<(Option.getD none (q0G l)).toNat-(Option.getD (some (↑x:Int)) (0:Int)).toNat→q86 (q01 1 (l.getD ((Option.getD (some (↑x:Int)) (0:Int)).toNat+i) default))=true)∧VLe (V.osl 0 (0+((Option.getD (some (↑x:Int)) (q0G l)).toNat-0)+1+((Option.getD none (q0G l)).toNat-(Option.getD (some (↑x:Int)) (0:Int)).toNat))) (V.osl 0 (qDm l z).length)∧BLe (Blk.arr 5 (0+((Option.getD (some (↑x:Int)) (q0G l)).toNat-0)+1+((Option.getD none (q0G l)).toNat-(Option.getD (some (↑x:Int)) (0:Int)).toNat)) (q3K (0+((Option.getD (some (↑x:Int)) (q0G l)).toNat-0)+1) (q3K (0+((Option.getD (some (↑x:Int)) (q0G l)).toNat-0)) (q3K 0 (q3C []) (match(motive:=Option Int→Nat→V) none with|none=>gL (q01 1) l|some val=>q32 (gL (q01 1) l) 0)) (q3C [q01 1 z])) (match(motive:=Option Int→Nat→V) some (↑x:Int)with|none=>gL (q01 1) l|some val=>q32 (gL (q01 1) l) (Option.getD (some (↑x:Int)) (0:Int)).toNat)) 100) (Blk.arr 5 (qDm l z).length (gL (q01 1) (qDm l z)) 100)∧True))):=by
  delta qBi;delta qII;delta q0G;delta vi;have hl:l.length≤1000:=hpre;simp only[qCm];refine⟨⟨0,SLe.refl _,by omega,fun k hk=>absurd hk (Nat.not_lt_zero k)⟩,?_⟩;rintro i ⟨hi,hk⟩;refine⟨tqI _,tqI _,fun h=>⟨by omega,by simpa using h⟩,tqI _,tqI _,tqI _,tqI _,tqI _,fun _ h=>h,fun b hb=>⟨fun h=>?_,fun h=>?_⟩⟩
  ·rw[h]at hb;have hlt:i<l.length:=by
    by_cases a1:(i:Int)<l.length
    ·omega
    ·rw[decide_eq_false a1]at hb;cases hb
   have a1:decide ((i:Int)<l.length)=true:=decide_eq_true (by omega);rw[a1]at hb;have h3:lt (atZ l i).path z.path:=of_decide_eq_true hb.symm;refine⟨q0X (by omega),i+1,SLe.refl _,⟨by omega,fun k h4=>?_⟩,by omega⟩;by_cases e:k=i
   ·subst e;exact h3
   ·exact hk k (by omega)
  ·rw[h]at hb;have hp:q2U l z.path=i:=qDO hi hk fun hlt g=>by
    have a1:decide ((i:Int)<l.length)=true:=decide_eq_true (by omega);rw[a1]at hb;exact of_decide_eq_false (p:=lt (atZ l i).path z.path) hb.symm g
   have e:qDm l z=l.take i++z::l.drop i:=by
    show qKs l z=_;unfold qKs;rw[hp]
   have en:(qDm l z).length=i+1+(l.length-i):=by
    rw[e,List.length_append,List.length_cons,List.length_take,List.length_drop];omega
   rw[en,e];simp only[Option.getD_some,Option.getD_none,Int.toNat_natCast,Nat.sub_zero,Nat.zero_add];exact⟨⟨by omega,by omega,by omega⟩,fun k hk=>⟨rfl,rfl⟩,trivial,by omega,fun k hk=>⟨rfl,rfl⟩,fun k hk=>rfl,trivial,by omega,q5e rfl rfl,⟨by omega,by omega,by omega⟩,fun k hk=>⟨rfl,rfl⟩,trivial,by omega,fun k hk=>⟨rfl,rfl⟩,fun k hk=>rfl,VLe.refl _,qXK hi,trivial⟩
 exact Eq.mp (by kernel_rfl) key
theorem x8n:q0R Tryz.prog 254 qVv:=by
 refine q0S q77 (tpl:=[(0,5)]) Tryz.func254 rfl (by kernel_rfl) fun args bin ob r bout hDe hob=>?_;unfold qVv at hDe;split at hDe
 ·rename_i a0 a1;cases hDe;exact okQ (xAJ ((q0K q03) a0) (q03 a1) (hob.2.2)) x7I (args_of_vles ⟨hob.1,hob.2.1,trivial⟩) trivial
 ·cases hDe
theorem qO3 {l:List q0A} {p:ByteArray} {i:Nat} (h:i<l.length) (h2:(l.getD i default).path≠top∧upF (l.getD i default).path=p):q1p (l.take (i+1)) p=q1p (l.take i) p++[q4R (l.getD i default).path]:=by
 have e:l.take (i+1)=l.take i++[l.getD i default]:=by
  rw[List.take_add_one];simp[h]
 rw[e];unfold q1p;rw[List.filter_append,List.map_append];congr 1;simp only[List.filter_cons,decide_eq_true h2,if_true,List.filter_nil,List.map_cons,List.map_nil]
theorem qV3 {l:List q0A} {p:ByteArray} {i:Nat} (h:i<l.length) (h2:¬((l.getD i default).path≠top∧upF (l.getD i default).path=p)):q1p (l.take (i+1)) p=q1p (l.take i) p:=by
 have e:l.take (i+1)=l.take i++[l.getD i default]:=by
  rw[List.take_add_one];simp[h]
 rw[e];unfold q1p;rw[List.filter_append];simp only[List.filter_cons,decide_eq_false h2,List.filter_nil,Bool.false_eq_true,if_false,List.append_nil]
theorem qKy (l:List q0A) (p:ByteArray):(q1p l p).length≤l.length:=by
 unfold q1p;rw[List.length_map];exact List.length_filter_le _ _
theorem qEs {s:ByteArray}:q13 1 1 (q3C [.str s]):=by
 intro k hk;have:k=0:=by omega
 subst this;exact⟨rfl,rfl⟩
def qMN (l:List q0A):Prop:=∀z∈l,0<z.path.size∧z.path.size≤1000∧0≤z.version∧0≤z.next
theorem qTF {l:List q0A} {x:Nat} (hx:x<l.length) (i:Nat):(l.take x++l.drop (x+1)).getD i default=if i<x then l.getD i default else l.getD (i+1) default:=by
 have hl:(l.take x).length=x:=by rw[List.length_take];omega
 rw[List.getD_eq_getElem?_getD,List.getElem?_append,hl];split
 ·rename_i h;rw[List.getElem?_take,if_pos h,List.getD_eq_getElem?_getD]
 ·rename_i h;rw[List.getElem?_drop,List.getD_eq_getElem?_getD];congr 2;omega
theorem x7w {v w:Int}:(bif v != -1 then v !=w else false)=decide (v≠-1∧v≠w):=by
 by_cases a1:v=-1
 ·have:(v != -1)=false:=by simp[a1]
  rw[this,decide_eq_false (fun g=>g.1 a1)];rfl
 ·have:(v != -1)=true:=by simp[a1]
  rw[this];by_cases a2:v=w
  ·rw[decide_eq_false (fun g=>g.2 a2)];simp[a2]
  ·rw[decide_eq_true ⟨a1,a2⟩];simp[a2]
theorem qBS {l:List q0A} {p:ByteArray} (h:decide (atN l p<0)=false):0≤atN l p∧atN l p<l.length:=by
 have h1:=of_decide_eq_false h;have h2:=qAq (q7r p) l;have h3:q5l (q7r p) l=atN l p:=rfl;omega
def qSn (l:List q0A) (p:ByteArray):Prop:=l.length≤1000∧qMN l
noncomputable def qZq (l:List q0A) (p:ByteArray):V:=q0D q4r 2 (q1p l p)
noncomputable def qSG:q0P:=fun args bin=>match args,bin with
 |[a0,.str a1],[]=>some (VLe a0 (q0D (q01 1) 1 (((q0K q03) a0)))∧qSn ((q0K q03) a0) a1,qZq ((q0K q03) a0) a1,[])
 |_,_=>none
noncomputable def qVb (l:List q0A) (p:ByteArray):q0M:=
 ⟨Nat,fun i=>⟨[(0,q0D (q01 1) 1 l),(1,.str p),(5,.osl (q25 5) (q1p (l.take i) p).length),(6,.int .i64 i)],[(q25 5,.arr 1 (q1p (l.take i) p).length (gL q4r (q1p (l.take i) p)) q0l)]⟩,
  fun i=>i≤l.length,fun i=>l.length-i⟩
noncomputable def x5J (l:List q0A) (p:ByteArray):Nat→Option q0M:=fun rg_=>match rg_ with
 |3=>some (qVb l p)
 |_=>none
noncomputable def xEG:=lkR [(221,qPZ),(250,qPI)]
theorem xCT:q0C Tryz.prog xEG:=q02 qYH (q02 qY5 (q04))
noncomputable def x7k (l:List q0A) (p:ByteArray):=cxL xEG Tryz.f255 [0,1,4,5,6,7,12,27] [(3,⟨[(0,none),(1,none),(5,some 1),(6,none)],[]⟩)] (x5J l p) []
noncomputable def q3J (l:List q0A) (x:Nat):ByteArray:=(l.getD (↑x:Int).toNat default).path
noncomputable def qQi (l:List q0A) (p:ByteArray) (y:Nat):AS:=AS.mk [(0,q0D (q01 1) 1 l),(1,V.str p),(5,V.osl 32000384 (q1p (List.take y l) p).length),(6,vi (↑y:Int))] [(32000384,Blk.arr 1 (q1p (List.take y l) p).length (gL q4r (q1p (List.take y l) p)) 100)]
noncomputable def qOa (l:List q0A) (x:Nat):Nat→V:=q3C [V.str (ByteArray.extract (q3J l x) (Option.getD (some ((↑ (q2B (q3J l x)):Int)+1)) (0:Int)).toNat (Option.getD none (↑ (q3J l x).size:Int)).toNat)]
def qLj (l:List q0A) (x:Nat):Prop:=(!q1t (q3J l x) (ByteArray.mk #[(47:UInt8)]))=true
noncomputable def q7z (l:List q0A) (p:ByteArray) (x:Nat):Nat:=(q1p (List.take x l) p).length
theorem x96 (l:List q0A) (p:ByteArray) (hpre:qSn l p):q0d (x7k l p) Tryz.f255 1 [q0D (q01 1) 1 (l),.str (p)] (fun rr=>VLe rr (qZq l p)):=by
 have key:((∃x:Nat,SLe (AS.mk [(0,q0D (q01 1) 1 l),(1,V.str p),(5,V.osl 32000384 0),(6,vi 0)] [(32000384,Blk.arr 1 0 (q3C []) 100)]) (AS.mk [(0,q0D (q01 1) 1 l),(1,V.str p),(5,V.osl 32000384 (q7z l p x)),(6,vi (↑x:Int))] [(32000384,Blk.arr 1 (q7z l p x) (gL q4r (q1p (List.take x l) p)) 100)])∧x≤l.length)∧∀x:Nat,x≤l.length→(decide ((↑x:Int)<(↑ l.length:Int))=true→(0≤(↑x:Int)∧(↑x:Int)<(↑ l.length:Int))∧tq (!q1t (q3J l x) (ByteArray.mk #[(47:UInt8)]))∧(qLj l x→qG6 (q3J l x))∧tq (!q1t (q3J l x) (ByteArray.mk #[(47:UInt8)]))∧tq (!q1t (q3J l x) (ByteArray.mk #[(47:UInt8)]))∧((true=true→qLj l x→qLj l x)∧∀b:Bool,(b=bif !q1t (q3J l x) (ByteArray.mk #[(47:UInt8)])then q1t (upF (q3J l x)) p else false)→(b=true→qQZ (q3J l x)∧inK IntKind.i64 ((↑ (q2B (q3J l x)):Int)+1)∧((0:Int)≤Option.getD (some ((↑ (q2B (q3J l x)):Int)+1)) (0:Int)∧Option.getD (some ((↑ (q2B (q3J l x)):Int)+1)) (0:Int)≤Option.getD none (↑ (q3J l x).size:Int)∧Option.getD none (↑ (q3J l x).size:Int)≤(↑ (q3J l x).size:Int))∧(q1p (List.take x l) p).length=(q1p (List.take x l) p).length∧(q1p (List.take x l) p).length+1≤1073741824∧q13 1 1 (qOa l x)∧(inK IntKind.i64 ((↑x:Int)+1)∧∃y:Nat,SLe (AS.mk [(0,q0D (q01 1) 1 l),(1,V.str p),(5,V.osl 32000384 ((q1p (List.take x l) p).length+1)),(6,vi ((↑x:Int)+1))] [(32000384,Blk.arr 1 ((q1p (List.take x l) p).length+1) (q3K (q7z l p x) (gL q4r (q1p (List.take x l) p)) (qOa l x)) 100)]) (qQi l p y)∧y≤l.length∧l.length-y<l.length-x))∧(b=false→(inK IntKind.i64 ((↑x:Int)+1)∧∃y:Nat,SLe (AS.mk [(0,q0D (q01 1) 1 l),(1,V.str p),(5,V.osl 32000384 (q7z l p x)),(6,vi ((↑x:Int)+1))] [(32000384,Blk.arr 1 (q7z l p x) (gL q4r (q1p (List.take x l) p)) 100)]) (qQi l p y)∧y≤l.length∧l.length-y<l.length-x))))∧(decide ((↑x:Int)<(↑ l.length:Int))=false→VLe (q0D q4r 2 (q1p (List.take x l) p)) (q0D q4r 2 (q1p l p)))):=by
  delta q7z;delta qLj;delta qOa;delta qQi;delta q3J;delta vi;obtain⟨hl,hb⟩:=hpre;simp only[q1W];refine⟨⟨0,q1Q ⟨rfl,VLe.refl _,rfl,VLe.refl _,rfl,VLe.refl _,rfl,VLe.refl _,trivial⟩ ⟨rfl,q3G _,trivial⟩,by omega⟩,fun i hi=>⟨fun h=>?_,fun h=>?_⟩⟩
  ·have hlt:i<l.length:=by simpa using h
   have hz:=hb (l.getD i default) (q3w hlt);have n1:=qKy (l.take i) p;rw[List.length_take]at n1;have h4:q2B (l.getD i default).path<(l.getD i default).path.size:=q8G _ hz.1;simp only[Int.toNat_natCast];refine⟨⟨by omega,by omega⟩,tqI _,fun _=>hz.2.1,tqI _,tqI _,fun _ h=>h,fun b hb2=>⟨fun h2=>?_,fun h2=>?_⟩⟩
   ·rw[h2]at hb2;have hc:(l.getD i default).path≠top∧upF (l.getD i default).path=p:=by
     by_cases a1:(l.getD i default).path=top
     ·rw[decide_eq_true a1]at hb2;cases hb2
     ·rw[decide_eq_false a1]at hb2;exact⟨a1,of_decide_eq_true hb2.symm⟩
    simp only[Option.getD_some,Option.getD_none];refine⟨hz.2.1,q0X (by omega),⟨by omega,by omega,by omega⟩,trivial,by omega,qEs,q0X (by omega),i+1,?_,by omega,by omega⟩;rw[qO3 hlt hc,List.length_append,List.length_singleton];have e1:((q2B (l.getD i default).path:Int)+1).toNat=q2B (l.getD i default).path+1:=by omega
    have e2:(((l.getD i default).path.size:Int)).toNat=(l.getD i default).path.size:=by omega
    rw[e1,e2];exact q1Q ⟨rfl,VLe.refl _,rfl,VLe.refl _,rfl,VLe.refl _,rfl,q0I (by omega),trivial⟩ ⟨rfl,q66 rfl rfl,trivial⟩
   ·rw[h2]at hb2;have hc:¬((l.getD i default).path≠top∧upF (l.getD i default).path=p):=fun g=>by
     rw[decide_eq_false g.1]at hb2;exact of_decide_eq_false (p:=upF (l.getD i default).path=p) hb2.symm g.2
    refine⟨q0X (by omega),i+1,?_,by omega,by omega⟩;rw[qV3 hlt hc];exact q1Q ⟨rfl,VLe.refl _,rfl,VLe.refl _,rfl,VLe.refl _,rfl,q0I (by omega),trivial⟩ ⟨rfl,BLe.refl _,trivial⟩
  ·have hge:i=l.length:=by simp at h;omega
   subst hge;rw[List.take_length];exact VLe.refl _
 exact Eq.mp (by kernel_rfl) key
theorem x0b:q0R Tryz.prog 255 qSG:=by
 refine sob 1 Tryz.func255 fun args bin ob r bout hDe hob=>?_;unfold qSG at hDe;split at hDe
 ·rename_i a0 a1;cases hDe;exact okB (x96 ((q0K q03) a0) a1 (hob.2)) xCT (args_of_vles ⟨hob.1,VLe.refl _,trivial⟩)
 ·cases hDe
noncomputable def x57 (l:List q0A) (p:ByteArray) (v:Int):q16:=q3X l p v
noncomputable def q80 (l:List q0A) (p:ByteArray):Int:=atN (q08 l) p
noncomputable def x4p (l:List q0A) (p:ByteArray) (d:Int) (v:Int):q16:=q2P l p d v
noncomputable def q2V (l:List q0A) (p:ByteArray):Nat:=(atN (q08 l) p).toNat
noncomputable def q2y (l:List q0A):List q0A:=qDw (q08 l)
def qKF (l:List q0A) (p:ByteArray):Prop:=(0:Int)≤atN (q08 l) p∧atN (q08 l) p<(↑ (q2y l).length:Int)
set_option maxHeartbeats 8000000
theorem qL2 {l:List q0A} {i t:Nat} {v:V} {z:q0A} (hv:q03 v=z):q0K q03 (.sl l.length (q65 (gL (q01 1) l) i v) t)=l.set i z:=by
 refine List.ext_getElem (by simp[q0K]) fun k h1 h2=>?_;have hk:k<l.length:=by simpa using h2
 simp only[q0K,List.getElem_map,List.getElem_range,q2F,List.getElem_set];by_cases e:k=i
 ·subst e;rw[if_pos rfl,if_pos rfl,hv]
 ·rw[if_neg e,if_neg (fun g=>e g.symm)];simp[gL,hk]
theorem qOp {l:List q0A} {i:Nat} {v:V} {z:q0A} (hi:i<l.length) (hv:v=q01 1 z):VLe (.sl l.length (q65 (gL (q01 1) l) i v) 1) (q0D (q01 1) 1 (l.set i z)):=
 q4i (by rw[List.length_set]) (fun k hk=>by
  have hk2:k<l.length:=by rw[List.length_set]at hk;exact hk
  rw[q2F,List.getElem_set];by_cases e:k=i
  ·subst e;rw[if_pos rfl,if_pos rfl,hv]
  ·rw[if_neg e,if_neg (fun g=>e g.symm)];simp[gL,hk2]) (Or.inl rfl)
theorem inB {a b:Prop} [Decidable a] [Decidable b]:(bif !decide a then true else !decide b)=decide (¬(a∧b)):=by
 by_cases h1:a<;>by_cases h2:b<;>simp[h1,h2]
theorem qNh (p:ByteArray):(upF p).size≤p.size+1:=by
 unfold upF;split
 ·show 1≤_;omega
 ·have h:q2B p≤p.size:=q9s _ _;rw[q8P _ _ _ (Nat.zero_le _) h];omega
theorem qAV (s:ByteArray) (n:Int):(q5P s n).size=s.size+2:=by
 unfold q5P;rw[ByteArray.size_append,ByteArray.size_append,qDT,qDT]
theorem qGy {p:ByteArray} (h:0<p.size):(q4R p).size≤p.size:=by
 have h2:q2B p<p.size:=q8G _ h;unfold q4R;rw[q8P _ _ _ (by omega) (Nat.le_refl _)];omega
theorem qKe {l out:List q0A} {p:ByteArray} {d o:Int} {x:q16} (hx:x=q5y l out p d o) (h1:decide (atN l p≥0)=false) (h2:decide ((l.length:Int)≥20)=false):x=⟨0,p,qKs out ⟨p,d,0,o,0⟩⟩:=by
 rw[hx];unfold q5y;rw[if_neg (of_decide_eq_false h1),if_neg (by have:=of_decide_eq_false h2;omega)]
theorem qKi {l out:List q0A} {p:ByteArray} {d o:Int} {x:q16} (hx:x=q5y l out p d o) (h1:decide (atN l p≥0)=true):x=⟨6,q1f,[]⟩:=by
 rw[hx];unfold q5y;rw[if_pos (of_decide_eq_true h1)]
theorem qLP {l out:List q0A} {p:ByteArray} {d o:Int} {x:q16} (hx:x=q5y l out p d o) (h1:decide (atN l p≥0)=false) (h2:decide ((l.length:Int)≥20)=true):x=⟨2,q1f,[]⟩:=by
 rw[hx];unfold q5y;rw[if_neg (of_decide_eq_false h1),if_pos (by have:=of_decide_eq_true h2;omega)]
noncomputable def x5O (l:List q0A) (p:ByteArray) (d:Int) (o:Int) (s:Bool):q16:=q2j l p d o s
noncomputable def q7G (l:List q0A) (p:ByteArray):Nat:=(atN (q08 l) (upF p)).toNat
noncomputable def qGx (l:List q0A) (p:ByteArray):V:=V.sl (q2y l).length (q65 (gL (q01 1) (q2y l)) (q7G l p) (V.agg [V.str ((q2y l).getD (q7G l p) default).path,vi ((q2y l).getD (q7G l p) default).data,vi ((q2y l).getD (q7G l p) default).version,vi ((q2y l).getD (q7G l p) default).owner,vi ((l.getD (q7G l p) default).next+(1:Int))])) 1
noncomputable def q5k (p:ByteArray):Nat:=(Option.getD (some ((↑ (q2B p):Int)+1)) (0:Int)).toNat
noncomputable def q5n (l:List q0A) (p:ByteArray):Int:=(l.getD (q7G l p) default).next
noncomputable def q5m (p:ByteArray):Nat:=(Option.getD none (↑ p.size:Int)).toNat
noncomputable def qIf (l:List q0A) (p:ByteArray) (d:Int) (o:Int):V:=V.agg [V.str (q2L (upF p) (q5P (ByteArray.extract p (q5k p) (q5m p)) (q5n l p))),vi d,vi 0,vi o,vi 0]
theorem qZL (a b:Int):q6W 2 (q3C [.int .u8 a,.int .u8 b])=q6W 1 (q3C [.int .u8 a])++q6W 1 (q3C [.int .u8 b]):=by
 apply q4d;rfl
def qOZ (v:Int) (z:q0A):Prop:=True
noncomputable def x1Q (v:Int) (z:q0A):V:=.bool (decide (v=-1∨v=z.version))
noncomputable def qRH:q0P:=fun args bin=>match args,bin with
 |[.int .i64 a0,a1],[]=>some (VLe a1 (q01 1 ((q03 a1)))∧qOZ a0 (q03 a1),x1Q a0 (q03 a1),[])
 |_,_=>none
noncomputable def xDN:=lkR []
theorem x6v:q0C Tryz.prog xDN:=q04
noncomputable def x9P (v:Int) (z:q0A):=cxN xDN Tryz.f187 [0,1,3,4]
theorem xA0 (v:Int) (z:q0A) (hpre:qOZ v z):q0d (x9P v z) Tryz.f187 0 [.int .i64 (v),q01 1 (z)] (fun rr=>VLe rr (x1Q v z)):=by
 have key:tq (!v==(-1))∧tq (!v==(-1))∧tq (!v==(-1))∧((true=true→(v==(-1))=false→(!v==(-1))=true)∧∀b:Bool,(b=bif v==(-1)then true else v==z.version)→VLe (V.bool b) (V.bool (decide (v=(-1:Int)∨v=z.version)))):=by
  repeat (first|refine And.intro (tqI _) ?_|refine And.intro (fun _ h=>by rw[h];rfl) ?_)
  intro q hq;refine q0Z ?_;rw[hq,Bool.eq_iff_iff,decide_eq_true_eq];by_cases a1:v=-1<;>simp[a1]
 exact Eq.mp (by kernel_rfl) key
theorem qXo:q0R Tryz.prog 187 qRH:=by
 refine sob 0 Tryz.func187 fun args bin ob r bout hDe hob=>?_;unfold qRH at hDe;split at hDe
 ·rename_i a0 a1;cases hDe;exact okB (xA0 a0 (q03 a1) (hob.2)) x6v (args_of_vles ⟨VLe.refl _,hob.1,trivial⟩)
 ·cases hDe
def qJX (l:List q0A) (p:ByteArray):Prop:=l.length≤maxLen
noncomputable def x2q (l:List q0A) (p:ByteArray):V:=.int .i64 (if q1A l≠0 then q1A l else q1I p)
noncomputable def qJk:q0P:=fun args bin=>match args,bin with
 |[a0,.str a1],[]=>some (VLe a0 (q0D (q01 1) 1 (((q0K q03) a0)))∧qJX ((q0K q03) a0) a1,x2q ((q0K q03) a0) a1,[])
 |_,_=>none
noncomputable def xDC:=lkR [(117,qTl),(175,qNN)]
theorem x9z:q0C Tryz.prog xDC:=q02 qZI (q02 qTr (q04))
noncomputable def x6i (l:List q0A) (p:ByteArray):=cxN xDC Tryz.f237 [0,1,4,5,9]
theorem x5I (l:List q0A) (p:ByteArray) (hpre:qJX l p):q0d (x6i l p) Tryz.f237 0 [q0D (q01 1) 1 (l),.str (p)] (fun rr=>VLe rr (x2q l p)):=by
 have key:(VLe (q0D (q01 1) 1 l) (q0D (q01 1) 1 (q08 l))∧qRi (q08 l))∧((q1A (q08 l)!=0)=true→VLe (vi (q1A (q08 l))) (vi (if q1A l≠(0:Int)then q1A l else q1I p)))∧((q1A (q08 l)!=0)=false→qJB p∧VLe (vi (q1I p)) (vi (if q1A l≠(0:Int)then q1A l else q1I p))):=by
  delta q08;delta vi;have hl:l.length≤maxLen:=hpre;simp only[q0o];refine⟨⟨VLe.refl _,hl⟩,fun h=>q0I ?_,fun h=>?_⟩
  ·have h1:q1A l≠0:=by simpa using h
   rw[if_pos h1]
  ·have h1:q1A l=0:=by simpa using h
   rw[if_neg (not_not_intro h1)];exact⟨trivial,VLe.refl _⟩
 exact Eq.mp (by kernel_rfl) key
theorem qP0:q0R Tryz.prog 237 qJk:=by
 refine sob 0 Tryz.func237 fun args bin ob r bout hDe hob=>?_;unfold qJk at hDe;split at hDe
 ·rename_i a0 a1;cases hDe;exact okB (x5I ((q0K q03) a0) a1 (hob.2)) x9z (args_of_vles ⟨hob.1,VLe.refl _,trivial⟩)
 ·cases hDe
def qWy (s:ByteArray) (n:Int):Prop:=s.size≤900
noncomputable def qZZ (s:ByteArray) (n:Int):V:=q7l 0 (if¬q5j s then⟨5,q1f⟩else if¬inR n 0 99 then⟨3,q1f⟩else if¬q5j (q5P s n)then⟨5,q1f⟩else⟨0,q5P s n⟩)
noncomputable def qWh:q0P:=fun args bin=>match args,bin with
 |[.str a0,.int .i64 a1],[]=>some (qWy a0 a1,qZZ a0 a1,[])
 |_,_=>none
noncomputable def xE2:=lkR [(234,qT9),(120,q9i)]
theorem x6g:q0C Tryz.prog xE2:=q02 qZT (q02 qBu (q04))
noncomputable def x6p (s:ByteArray) (n:Int):=cxN xE2 Tryz.f239 [0,1,4,5,6,11,30]
noncomputable def qHH (s:ByteArray) (n:Int):V:=q7l 1 (if¬q5j s then q1S.mk (5:Int) q1f else if¬inR n 0 99 then q1S.mk (3:Int) q1f else if¬q5j (q5P s n)then q1S.mk (5:Int) q1f else q1S.mk (0:Int) (q5P s n))
noncomputable def qI3 (n:Int):Nat→V:=q3C [V.int IntKind.u8 ((48:Int)+Int.tdiv n (10:Int)),V.int IntKind.u8 ((48:Int)+Int.tmod n (10:Int))]
theorem x5i (s:ByteArray) (n:Int) (hpre:qWy s n):q0d (x6p s n) Tryz.f239 0 [.str (s),.int .i64 (n)] (fun rr=>VLe rr (qZZ s n)):=by
 have key:qGs s∧((!decide (q5j s))=true→VLe (V.agg [vi 5,V.str (ByteArray.mk #[])]) (qHH s n))∧((!decide (q5j s))=false→q64 n (0:Int) (99:Int)∧((!decide (inR n 0 99))=true→VLe (V.agg [vi 3,V.str (ByteArray.mk #[])]) (qHH s n))∧((!decide (inR n 0 99))=false→(10:Int)≠(0:Int)∧inK IntKind.i64 (Int.tdiv n (10:Int))∧inK IntKind.i64 ((48:Int)+Int.tdiv n (10:Int))∧inK IntKind.u8 ((48:Int)+Int.tdiv n (10:Int))∧(10:Int)≠(0:Int)∧inK IntKind.i64 ((48:Int)+Int.tmod n (10:Int))∧inK IntKind.u8 ((48:Int)+Int.tmod n (10:Int))∧(∀i:Nat,i<2→qPm (V.int IntKind.u8 (List.getD [(48:Int)+Int.tdiv n (10:Int),(48:Int)+Int.tmod n (10:Int)] i (0:Int)))=true)∧s.size+2≤4611686018427387904∧qGs (s++q6W 2 (qI3 n))∧((!decide (q5j (s++q6W 2 (qI3 n))))=true→VLe (V.agg [vi 5,V.str (ByteArray.mk #[])]) (qHH s n))∧((!decide (q5j (s++q6W 2 (qI3 n))))=false→VLe (V.agg [vi 0,V.str (s++q6W 2 (qI3 n))]) (qHH s n)))):=by
  delta qI3;delta qHH;delta vi;have hs:s.size≤900:=hpre;have b2:s++q6W 2 (q3C [.int .u8 (48+n.tdiv 10),.int .u8 (48+n.tmod 10)])=q5P s n:=by
   unfold q5P qO2;rw[qZL,ByteArray.append_assoc]
  have z2:(q5P s n).size=s.size+2:=qAV s n;simp only[b2];refine⟨by show s.size≤1000;omega,fun h=>agT ?_,fun h=>⟨trivial,fun h2=>agT ?_,fun h2=>?_⟩⟩
  ·have h1:¬q5j s:=by simpa using h
   rw[if_pos h1]
  ·have h1:q5j s:=by simpa using h
   have h3:¬inR n 0 99:=by simpa using h2
   rw[if_neg (not_not_intro h1),if_pos h3]
  ·have h1:q5j s:=by simpa using h
   have h3:inR n 0 99:=by simpa using h2
   have h4:=h3;unfold inR at h4;obtain⟨k,rfl⟩:=Int.eq_ofNat_of_zero_le h4.1;have e1:((k:Int)).tdiv 10=((k/10:Nat):Int):=rfl;have e2:((k:Int)).tmod 10=((k%10:Nat):Int):=rfl;rw[if_neg (not_not_intro h1),if_neg (not_not_intro h3)];refine⟨by decide,q0X (by rw[e1];omega),q0X (by rw[e1];omega),xA9 (by rw[e1];omega),by decide,q0X (by rw[e2];omega),xA9 (by rw[e2];omega),fun i hi=>rfl,by omega,by show(q5P s k).size≤1000;omega,fun h5=>agT ?_,fun h5=>agT ?_⟩
   ·have h6:¬q5j (q5P s k):=by simpa using h5
    rw[if_pos h6]
   ·have h6:q5j (q5P s k):=by simpa using h5
    rw[if_neg (not_not_intro h6)]
 exact Eq.mp (by kernel_rfl) key
theorem xCO:q0R Tryz.prog 239 qWh:=by
 refine sob 0 Tryz.func239 fun args bin ob r bout hDe hob=>?_;unfold qWh at hDe;split at hDe
 ·rename_i a0 a1;cases hDe;exact okB (x5i a0 a1 (hob)) x6g (args_of_vles ⟨VLe.refl _,VLe.refl _,trivial⟩)
 ·cases hDe
def qY2 (p:ByteArray) (s:ByteArray):Prop:=p.size≤1000∧s.size≤1000
noncomputable def x34 (p:ByteArray) (s:ByteArray):V:=.str (q2L p s)
noncomputable def qVj:q0P:=fun args bin=>match args,bin with
 |[.str a0,.str a1],[]=>some (qY2 a0 a1,x34 a0 a1,[])
 |_,_=>none
noncomputable def xFL:=lkR []
theorem x4y:q0C Tryz.prog xFL:=q04
noncomputable def x84 (p:ByteArray) (s:ByteArray):=cxN xFL Tryz.f240 [0,1,4,6]
theorem x91 (p:ByteArray) (s:ByteArray) (hpre:qY2 p s):q0d (x84 p s) Tryz.f240 0 [.str (p),.str (s)] (fun rr=>VLe rr (x34 p s)):=by
 have key:(q1t p (ByteArray.mk #[(47:UInt8)])=true→p.size+s.size≤2^62∧VLe (V.str (p++s)) (V.str (q2L p s)))∧(q1t p (ByteArray.mk #[(47:UInt8)])=false→p.size+(ByteArray.mk #[(47:UInt8)]).size≤2^62∧(p++ByteArray.mk #[(47:UInt8)]).size+s.size≤2^62∧VLe (V.str (p++ByteArray.mk #[(47:UInt8)]++s)) (V.str (q2L p s))):=by
  obtain⟨h1,h2⟩:=hpre;have t1:(⟨#[47]⟩:ByteArray).size=1:=rfl;simp only[q1W];refine⟨fun h=>⟨by omega,q7i ?_⟩,fun h=>⟨by omega,by rw[ByteArray.size_append];omega,q7i ?_⟩⟩
  ·have h3:=of_decide_eq_true h;unfold q2L;rw[if_pos h3,h3]
  ·unfold q2L;rw[if_neg (of_decide_eq_false h)]
 exact Eq.mp (by kernel_rfl) key
theorem x9E:q0R Tryz.prog 240 qVj:=by
 refine sob 0 Tryz.func240 fun args bin ob r bout hDe hob=>?_;unfold qVj at hDe;split at hDe
 ·rename_i a0 a1;cases hDe;exact okB (x91 a0 a1 (hob)) x4y (args_of_vles ⟨VLe.refl _,VLe.refl _,trivial⟩)
 ·cases hDe
def qU9 (l:List q0A) (p:ByteArray):Prop:=l.length≤1000∧(∀z∈l,z.path.size≤1000∧q6d z.path)
noncomputable def qZA (l:List q0A) (p:ByteArray):V:=q0D q4r 2 (q1p l p)
noncomputable def qSU:q0P:=fun args bin=>match args,bin with
 |[a0,.str a1],[]=>some (VLe a0 (q0D (q01 1) 1 (((q0K q03) a0)))∧qU9 ((q0K q03) a0) a1,qZA ((q0K q03) a0) a1,[])
 |_,_=>none
noncomputable def qVH (l:List q0A) (p:ByteArray):q0M:=
 ⟨Nat,fun i=>⟨[(0,q0D (q01 1) 1 l),(1,.str p),(5,.osl (q25 5) (q1p (l.take i) p).length),(11,q0D (q01 1) 1 l),(12,.int .i64 l.length),(13,.int .i64 i)],[(q25 5,.arr 1 (q1p (l.take i) p).length (gL q4r (q1p (l.take i) p)) q0l)]⟩,
  fun i=>i≤l.length,fun i=>l.length-i⟩
noncomputable def x74 (l:List q0A) (p:ByteArray):Nat→Option q0M:=fun rg_=>match rg_ with
 |3=>some (qVH l p)
 |_=>none
noncomputable def xEV:=lkR [(204,qPU)]
theorem xCR:q0C Tryz.prog xEV:=q02 qVc (q04)
noncomputable def xC3 (l:List q0A) (p:ByteArray):=cxL xEV Tryz.f242 [0,1,4,5,7,8,9,11,12,13,14,30] [(3,⟨[(0,none),(1,none),(5,some 1),(11,none),(12,none),(13,none)],[]⟩)] (x74 l p) []
noncomputable def qEe (l:List q0A):Nat×V:=(11,q0D (q01 1) 1 l)
noncomputable def qRL (l:List q0A) (p:ByteArray) (y:Nat):AS:=AS.mk [(0,q0D (q01 1) 1 l),(1,V.str p),(5,V.osl 32000384 (q1p (List.take y l) p).length),(qEe l),(12,vi (q0G l)),(13,vi (↑y:Int))] [(32000384,Blk.arr 1 (q1p (List.take y l) p).length (gL q4r (q1p (List.take y l) p)) 100)]
theorem x8N (l:List q0A) (p:ByteArray) (hpre:qU9 l p):q0d (xC3 l p) Tryz.f242 1 [q0D (q01 1) 1 (l),.str (p)] (fun rr=>VLe rr (qZA l p)):=by
 have key:((∃x:Nat,SLe (AS.mk [(0,q0D (q01 1) 1 l),(1,V.str p),(5,V.osl 32000384 0),(qEe l),(12,vi (q0G l)),(13,vi 0)] [(32000384,Blk.arr 1 0 (q3C []) 100)]) (AS.mk [(0,q0D (q01 1) 1 l),(1,V.str p),(5,V.osl 32000384 (q7z l p x)),(qEe l),(12,vi (q0G l)),(13,vi (↑x:Int))] [(32000384,Blk.arr 1 (q7z l p x) (gL q4r (q1p (List.take x l) p)) 100)])∧x≤l.length)∧∀x:Nat,x≤l.length→(decide ((↑x:Int)<(q0G l))=true→(0≤(↑x:Int)∧(↑x:Int)<(q0G l))∧qJI (q3J l x)∧tq (!q1t (q3J l x) (ByteArray.mk #[(47:UInt8)]))∧tq (!q1t (q3J l x) (ByteArray.mk #[(47:UInt8)]))∧((true=true→(!q1t (q3J l x) (ByteArray.mk #[(47:UInt8)]))=true→(!q1t (q3J l x) (ByteArray.mk #[(47:UInt8)]))=true)∧∀b:Bool,(b=bif !q1t (q3J l x) (ByteArray.mk #[(47:UInt8)])then q1t (upF (q3J l x)) p else false)→(b=true→(q1p (List.take x l) p).length=(q1p (List.take x l) p).length∧(q1p (List.take x l) p).length+1≤1073741824∧q13 1 1 (q3C [V.str (q4R (q3J l x))])∧(inK IntKind.i64 ((↑x:Int)+1)∧∃y:Nat,SLe (AS.mk [(0,q0D (q01 1) 1 l),(1,V.str p),(5,V.osl 32000384 ((q1p (List.take x l) p).length+1)),(qEe l),(12,vi (q0G l)),(13,vi ((↑x:Int)+1))] [(32000384,Blk.arr 1 ((q1p (List.take x l) p).length+1) (q3K (q7z l p x) (gL q4r (q1p (List.take x l) p)) (q3C [V.str (q4R (q3J l x))])) 100)]) (qRL l p y)∧y≤l.length∧l.length-y<l.length-x))∧(b=false→(inK IntKind.i64 ((↑x:Int)+1)∧∃y:Nat,SLe (AS.mk [(0,q0D (q01 1) 1 l),(1,V.str p),(5,V.osl 32000384 (q7z l p x)),(qEe l),(12,vi (q0G l)),(13,vi ((↑x:Int)+1))] [(32000384,Blk.arr 1 (q7z l p x) (gL q4r (q1p (List.take x l) p)) 100)]) (qRL l p y)∧y≤l.length∧l.length-y<l.length-x))))∧(decide ((↑x:Int)<(q0G l))=false→VLe (q0D q4r 2 (q1p (List.take x l) p)) (q0D q4r 2 (q1p l p)))):=by
  delta q7z;delta qRL;delta q0G;delta qEe;delta q3J;delta vi;obtain⟨hl,hb⟩:=hpre;simp only[q1W];refine⟨⟨0,q1Q ⟨rfl,VLe.refl _,rfl,VLe.refl _,rfl,VLe.refl _,rfl,VLe.refl _,rfl,VLe.refl _,rfl,VLe.refl _,trivial⟩ ⟨rfl,q3G _,trivial⟩,by omega⟩,fun i hi=>⟨fun h=>?_,fun h=>?_⟩⟩
  ·have hlt:i<l.length:=by simpa using h
   have hz:=hb (l.getD i default) (q3w hlt);have n1:=qKy (l.take i) p;rw[List.length_take]at n1;simp only[Int.toNat_natCast,q1R];refine⟨⟨by omega,by omega⟩,hz,?_⟩
   repeat (first|refine And.intro (tqI _) ?_|refine And.intro (fun _ h=>h) ?_)
   intro b hb2;refine⟨fun h2=>?_,fun h2=>?_⟩
   ·rw[h2]at hb2;have hc:(l.getD i default).path≠top∧upF (l.getD i default).path=p:=by
     by_cases a1:(l.getD i default).path=top
     ·rw[decide_eq_true a1]at hb2;cases hb2
     ·rw[decide_eq_false a1]at hb2;exact⟨a1,of_decide_eq_true hb2.symm⟩
    refine⟨trivial,by omega,qEs,q0X (by omega),i+1,?_,by omega,by omega⟩;rw[qO3 hlt hc,List.length_append,List.length_singleton];exact q1Q ⟨rfl,VLe.refl _,rfl,VLe.refl _,rfl,VLe.refl _,rfl,VLe.refl _,rfl,VLe.refl _,rfl,q0I (by omega),trivial⟩ ⟨rfl,q66 rfl rfl,trivial⟩
   ·rw[h2]at hb2;have hc:¬((l.getD i default).path≠top∧upF (l.getD i default).path=p):=fun g=>by
     rw[decide_eq_false g.1]at hb2;exact of_decide_eq_false (p:=upF (l.getD i default).path=p) hb2.symm g.2
    refine⟨q0X (by omega),i+1,?_,by omega,by omega⟩;rw[qV3 hlt hc];exact q1Q ⟨rfl,VLe.refl _,rfl,VLe.refl _,rfl,VLe.refl _,rfl,VLe.refl _,rfl,VLe.refl _,rfl,q0I (by omega),trivial⟩ ⟨rfl,BLe.refl _,trivial⟩
  ·have hge:i=l.length:=by simp at h;omega
   subst hge;rw[List.take_length];exact VLe.refl _
 exact Eq.mp (by kernel_rfl) key
theorem x0f:q0R Tryz.prog 242 qSU:=by
 refine sob 1 Tryz.func242 fun args bin ob r bout hDe hob=>?_;unfold qSU at hDe;split at hDe
 ·rename_i a0 a1;cases hDe;exact okB (x8N ((q0K q03) a0) a1 (hob.2)) xCR (args_of_vles ⟨hob.1,VLe.refl _,trivial⟩)
 ·cases hDe
theorem q2J {l:List q0A} (h:q1A l=0):l.length≤20∧rising l∧∀z∈l,q1I z.path=0∧q6d z.path∧z.path.size≤24∧inR z.data 0 9999∧inR z.version 0 999∧inR z.owner 0 9∧inR z.next 0 100:=by
 obtain⟨h1,h2,_⟩:=qB9 h;refine⟨h1,qJR h,fun z hz=>?_⟩;obtain⟨i,hi,rfl⟩:=q8I hz;have hn:=q88 h2 hi;have hp:=q8S hn;have hr:=qF9 hn;exact⟨hp,q4n hp,q8C hp,hr.1,hr.2.1,hr.2.2.1,hr.2.2.2⟩
theorem qQU {l:List q0A} (h:q1A l=0):l.length≤1000∧∀z∈l,z.path.size≤1000∧q6d z.path:=by
 obtain⟨h1,_,h3⟩:=q2J h;exact⟨by omega,fun z hz=>⟨by have:=(h3 z hz).2.2.1;omega,(h3 z hz).2.1⟩⟩
theorem zc0 {l:List q0A} {p:ByteArray} (h:q1A l=0) (h2:q1I p=0):(if q1A l≠0 then q1A l else q1I p)=0:=by rw[if_neg (not_not_intro h),h2]
theorem qFb {c:Int} {x:q16} (h:x=⟨c,q1f,[]⟩):VLe (.agg [.int .i64 c,.str ⟨#[]⟩,.osl 0 0]) (.agg [.int .i64 x.code,.str x.path,.osl 0 x.nodes.length])∧
  BLe (.arr 5 0 (fun _=>.undef) q0l) (.arr 5 x.nodes.length (gL (q01 1) x.nodes) q0l)∧True:=by
 subst h;exact⟨VLe.refl _,q3G _,trivial⟩
theorem qMt {v w:Int} (h:(!decide (v=-1∨v=w))=false):v=-1∨v=w:=by
 rw[Bool.not_eq_false']at h;exact of_decide_eq_true h
def qOj (l:List q0A) (p:ByteArray) (v:Int):Prop:=q1A l=0∧q1I p=0
noncomputable def q6h (l:List q0A) (p:ByteArray) (v:Int):q16:=q3X l p v
noncomputable def qUW (l:List q0A) (p:ByteArray) (v:Int):List Blk:=[(.arr 5 ((q6h l p v).nodes).length (gL (q01 1) ((q6h l p v).nodes)) q0l)]
noncomputable def qUV (l:List q0A) (p:ByteArray) (v:Int):V:=.agg [.int .i64 ((q6h l p v).code),.str ((q6h l p v).path),.osl 0 ((q6h l p v).nodes).length]
noncomputable def qPw:q0P:=fun args bin=>match args,bin with
 |[a0,.str a1,.int .i64 a2],[]=>some (VLe a0 (q0D (q01 1) 1 (((q0K q03) a0)))∧qOj ((q0K q03) a0) a1 a2,qUV ((q0K q03) a0) a1 a2,qUW ((q0K q03) a0) a1 a2)
 |_,_=>none
noncomputable def x44:Nat→Option (Fl×q0P):=lk [(237,(.ro,qJk)),(184,(.ro,qGP)),(187,(.ro,qRH)),(242,(.ro,qSU)),(162,(.ro,qA0)),(243,(.mv,qWd))]
theorem x16:q0C Tryz.prog x44:=q02 qP0 (q02 qJp (q02 qXo (q02 x0f (q02 qCq (q02 xCZ (q04))))))
noncomputable def x1c (l:List q0A) (p:ByteArray) (v:Int):=cxN x44 Tryz.f182 [0,1,2,6,7,8,9,14,23,27,31,40]
def qAs (l:List q0A) (p:ByteArray) (v:Int):Prop:=BLe (Blk.arr 5 0 (fun(x:Nat) ↦ V.undef) 100) (Blk.arr 5 (q6h l p v).nodes.length (gL (q01 1) (q6h l p v).nodes) 100)∧True
noncomputable def q9V (l:List q0A) (p:ByteArray) (v:Int):V:=V.agg [vi (q6h l p v).code,V.str (q6h l p v).path,V.osl 0 (q6h l p v).nodes.length]
noncomputable def qAc (l:List q0A) (p:ByteArray):V:=q01 1 (l.getD (↑ (q2U (q08 l) p):Int).toNat default)
noncomputable def q89 (l:List q0A):List q0A:=q0K q03 (q0D (q01 1) 1 (q30 (q08 l)))
noncomputable def qG1 (l:List q0A) (p:ByteArray):List q0A:=qBk (q89 l) (↑ (q2U (q08 l) p):Int) ((↑ (q2U (q08 l) p):Int)+1)
theorem qZ8 (l:List q0A) (p:ByteArray) (v:Int) (hpre:qOj l p v):q3h (x1c l p v) Tryz.f182 [(2,5)] [q0D (q01 1) 1 (l),.str (p),.int .i64 (v)] [] (fun rr bs=>VLe rr (qUV l p v)∧q1y bs (qUW l p v)):=by
 have key:(q2N l∧qJX (q08 l) p)∧(((if q1A (q08 l)≠(0:Int)then q1A (q08 l)else q1I p)!=0)=true→VLe (V.agg [vi (if q1A (q08 l)≠(0:Int)then q1A (q08 l)else q1I p),V.str (ByteArray.mk #[]),V.osl 0 0]) (q9V l p v)∧qAs l p v)∧(((if q1A (q08 l)≠(0:Int)then q1A (q08 l)else q1I p)!=0)=false→(q2N l∧q9j (q08 l) p)∧(q1t p (ByteArray.mk #[(47:UInt8)])=true→VLe (V.agg [vi 1,V.str (ByteArray.mk #[]),V.osl 0 0]) (q9V l p v)∧qAs l p v)∧(q1t p (ByteArray.mk #[(47:UInt8)])=false→((!isZ (q08 l) p)=true→VLe (V.agg [vi 4,V.str (ByteArray.mk #[]),V.osl 0 0]) (q9V l p v)∧qAs l p v)∧((!isZ (q08 l) p)=false→(0≤(↑ (q2U (q08 l) p):Int)∧(↑ (q2U (q08 l) p):Int)<(↑ l.length:Int))∧(VLe (qAc l p) (q01 1 (q03 (qAc l p)))∧qOZ v (q03 (qAc l p)))∧((!decide (v=(-1:Int)∨v=(q03 (qAc l p)).version))=true→VLe (V.agg [vi 7,V.str (ByteArray.mk #[]),V.osl 0 0]) (q9V l p v)∧qAs l p v)∧((!decide (v=(-1:Int)∨v=(q03 (qAc l p)).version))=false→(q2N l∧qU9 (q08 l) p)∧(decide ((↑ (q1p (q08 l) p).length:Int)>0)=true→VLe (V.agg [vi 8,V.str (ByteArray.mk #[]),V.osl 0 0]) (q9V l p v)∧qAs l p v)∧(decide ((↑ (q1p (q08 l) p).length:Int)>0)=false→(q2N l∧qAD (q08 l))∧inK IntKind.i64 ((↑ (q2U (q08 l) p):Int)+1)∧((0=0∧5=5∧100=100∧((q30 (q08 l)).length=(q30 (q08 l)).length∧∀i:Nat,i<(q30 (q08 l)).length→ELe (q01 1 ((q30 (q08 l)).getD i default)) (q01 1 ((q89 l).getD i default))))∧qWH (q89 l) (↑ (q2U (q08 l) p):Int) ((↑ (q2U (q08 l) p):Int)+1))∧VLe (V.agg [vi 0,V.str (ByteArray.mk #[]),V.osl 0 (qG1 l p).length]) (q9V l p v)∧BLe (Blk.arr 5 (qG1 l p).length (gL (q01 1) (qG1 l p)) 100) (Blk.arr 5 (q6h l p v).nodes.length (gL (q01 1) (q6h l p v).nodes) 100)∧True))))):=by
  delta q2N;delta qG1;delta q89;delta qAc;delta q9V;delta qAs;delta q08;delta vi;obtain⟨ht,hp⟩:=hpre;obtain⟨hl,hr,hn⟩:=q2J ht;have hl2:l.length≤maxLen:=by unfold maxLen;omega
  have kp:=qQU ht;have zc:=zc0 ht hp;have ea:=qBg hr p;have lt0:=q57 hr p;simp only[q0o,q1R,zc,q1W,Int.toNat_natCast,q30];refine⟨⟨VLe.refl _,hl2⟩,fun h=>absurd h (by decide),fun _=>⟨⟨VLe.refl _,hr,by omega⟩,fun h=>qFb ?_,fun h=>⟨fun h2=>qFb ?_,fun h2=>?_⟩⟩⟩
  ·exact if_pos (of_decide_eq_true h)
  ·show q3X l p v=_;unfold q3X;rw[if_neg (of_decide_eq_false h),if_pos (lt0.2 (by simpa using h2))]
  ·have hz:isZ l p=true:=by simpa using h2
   obtain⟨q1,q2,q3⟩:=q6J hr hz;have h1:=of_decide_eq_false h;have h4:¬atN l p<0:=fun g=>by rw[lt0.1 g]at hz;cases hz
   refine⟨⟨by omega,by omega⟩,⟨VLe.refl _,trivial⟩,fun h3=>qFb ?_,fun h3=>⟨⟨VLe.refl _,kp⟩,fun h5=>qFb ?_,fun h5=>?_⟩⟩
   ·show q3X l p v=_;unfold q3X;rw[if_neg h1,if_neg h4,q1,if_pos];simpa using h3
   ·show q3X l p v=_;have h6:q1p l p≠[]:=fun g=>by rw[g]at h5;cases h5
    unfold q3X;rw[if_neg h1,if_neg h4,q1,if_neg,if_pos h6];intro g;have h7:v=-1∨v=(l.getD (q2U l p) default).version:=qMt h3;rcases h7 with h7|h7
    ·exact g.1 h7
    ·exact g.2 h7
   ·have h6:¬q1p l p≠[]:=fun g=>of_decide_eq_false h5 (by have:=List.length_pos_iff.2 g;omega);have e:q6h l p v=⟨0,q1f,l.take (q2U l p)++l.drop (q2U l p+1)⟩:=by
     show q3X l p v=_;unfold q3X;rw[if_neg h1,if_neg h4,q1,if_neg,if_neg h6];intro g;have h7:v=-1∨v=(l.getD (q2U l p) default).version:=qMt h3;rcases h7 with h7|h7
     ·exact g.1 h7
     ·exact g.2 h7
    rw[e];exact⟨⟨VLe.refl _,by show l.length≤1000;omega⟩,q0X (by omega),⟨⟨trivial,trivial,trivial,trivial,fun i hi=>ELe.refl _⟩,⟨by omega,by omega,rfl,by omega⟩⟩,VLe.refl _,BLe.refl _,trivial⟩
 exact Eq.mp (by kernel_rfl) key
theorem x35:q0R Tryz.prog 182 qPw:=by
 refine q0S q77 (tpl:=[(2,5)]) Tryz.func182 rfl (by kernel_rfl) fun args bin ob r bout hDe hob=>?_;unfold qPw at hDe;split at hDe
 ·rename_i a0 a1 a2;cases hDe;exact okQ (qZ8 ((q0K q03) a0) a1 a2 (hob.2)) x16 (args_of_vles ⟨hob.1,VLe.refl _,VLe.refl _,trivial⟩) trivial
 ·cases hDe
def qQa (l:List q0A) (p:ByteArray) (d:Int) (v:Int):Prop:=q1A l=0∧q1I p=0
noncomputable def q6s (l:List q0A) (p:ByteArray) (d:Int) (v:Int):q16:=q2P l p d v
noncomputable def qUq (l:List q0A) (p:ByteArray) (d:Int) (v:Int):List Blk:=[(.arr 5 ((q6s l p d v).nodes).length (gL (q01 1) ((q6s l p d v).nodes)) q0l)]
noncomputable def qV4 (l:List q0A) (p:ByteArray) (d:Int) (v:Int):V:=.agg [.int .i64 ((q6s l p d v).code),.str ((q6s l p d v).path),.osl 0 ((q6s l p d v).nodes).length]
noncomputable def qQN:q0P:=fun args bin=>match args,bin with
 |[a0,.str a1,.int .i64 a2,.int .i64 a3],[]=>some (VLe a0 (q0D (q01 1) 1 (((q0K q03) a0)))∧qQa ((q0K q03) a0) a1 a2 a3,qV4 ((q0K q03) a0) a1 a2 a3,qUq ((q0K q03) a0) a1 a2 a3)
 |_,_=>none
noncomputable def x0S:=lkR [(237,qJk),(184,qGP),(176,qMH),(187,qRH),(162,qA0)]
theorem x2i:q0C Tryz.prog x0S:=q02 qP0 (q02 qJp (q02 qSB (q02 qXo (q02 qCq (q04)))))
noncomputable def x43 (l:List q0A) (p:ByteArray) (d:Int) (v:Int):=cxN x0S Tryz.f183 [0,1,2,3,8,9,10,11,12,17,26,31,35,44]
noncomputable def q1m (l:List q0A) (p:ByteArray):Nat:=(↑ (q2U (q08 l) p):Int).toNat
def qBH (l:List q0A) (p:ByteArray) (d:Int) (v:Int):Prop:=BLe (Blk.arr 5 0 (fun(x:Nat) ↦ V.undef) 100) (Blk.arr 5 (q6s l p d v).nodes.length (gL (q01 1) (q6s l p d v).nodes) 100)∧True
noncomputable def q9Y (l:List q0A) (p:ByteArray) (d:Int) (v:Int):V:=V.agg [vi (q6s l p d v).code,V.str (q6s l p d v).path,V.osl 0 (q6s l p d v).nodes.length]
noncomputable def q0z (l:List q0A):List q0A:=q30 (q08 l)
def qGb (l:List q0A) (p:ByteArray):Prop:=0≤(↑ (q2U (q08 l) p):Int)∧(↑ (q2U (q08 l) p):Int)<(↑ (q0z l).length:Int)
noncomputable def qAt (l:List q0A) (p:ByteArray):V:=q01 1 (l.getD (q1m l p) default)
def qGW (l:List q0A) (p:ByteArray):Prop:=(↑ (q2U (q08 l) p):Int).toNat<(q0z l).length
def qJS (l:List q0A) (p:ByteArray):Prop:=0≤(↑ (q2U (q08 l) p):Int)∧(↑ (q2U (q08 l) p):Int)<(↑ l.length:Int)
theorem qZF (l:List q0A) (p:ByteArray) (d:Int) (v:Int) (hpre:qQa l p d v):q3h (x43 l p d v) Tryz.f183 [(2,5)] [q0D (q01 1) 1 (l),.str (p),.int .i64 (d),.int .i64 (v)] [] (fun rr bs=>VLe rr (qV4 l p d v)∧q1y bs (qUq l p d v)):=by
 have key:(q2N l∧qJX (q08 l) p)∧(((if q1A (q08 l)≠(0:Int)then q1A (q08 l)else q1I p)!=0)=true→VLe (V.agg [vi (if q1A (q08 l)≠(0:Int)then q1A (q08 l)else q1I p),V.str (ByteArray.mk #[]),V.osl 0 0]) (q9Y l p d v)∧qBH l p d v)∧(((if q1A (q08 l)≠(0:Int)then q1A (q08 l)else q1I p)!=0)=false→(q2N l∧q9j (q08 l) p)∧qJK d∧((!decide (inR d 0 9999))=true→VLe (V.agg [vi 3,V.str (ByteArray.mk #[]),V.osl 0 0]) (q9Y l p d v)∧qBH l p d v)∧((!decide (inR d 0 9999))=false→((!isZ (q08 l) p)=true→VLe (V.agg [vi 4,V.str (ByteArray.mk #[]),V.osl 0 0]) (q9Y l p d v)∧qBH l p d v)∧((!isZ (q08 l) p)=false→qJS l p∧(VLe (qAt l p) (q01 1 (q03 (qAt l p)))∧qOZ v (q03 (qAt l p)))∧((!decide (v=(-1:Int)∨v=(q03 (qAt l p)).version))=true→VLe (V.agg [vi 7,V.str (ByteArray.mk #[]),V.osl 0 0]) (q9Y l p d v)∧qBH l p d v)∧((!decide (v=(-1:Int)∨v=(q03 (qAt l p)).version))=false→qJS l p∧(((l.getD (q1m l p) default).version==999)=true→VLe (V.agg [vi 2,V.str (ByteArray.mk #[]),V.osl 0 0]) (q9Y l p d v)∧qBH l p d v)∧(((l.getD (q1m l p) default).version==999)=false→(q2N l∧qAD (q08 l))∧qGb l p∧qGW l p∧qGb l p∧qGW l p∧inK IntKind.i64 ((bif Nat.beq (q1m l p) (q1m l p)then((q0z l).getD (q1m l p) default).version else((q0z l).getD (q1m l p) default).version)+(1:Int))∧qGb l p∧qGW l p∧VLe (V.agg [vi 0,V.str (ByteArray.mk #[]),V.osl 0 (q0z l).length]) (q9Y l p d v)∧BLe (Blk.arr 5 (q0z l).length (q65 (q65 (gL (q01 1) (q0z l)) (q1m l p) (V.agg [V.str ((q0z l).getD (q1m l p) default).path,vi d,vi ((q0z l).getD (q1m l p) default).version,vi ((q0z l).getD (q1m l p) default).owner,vi ((q0z l).getD (q1m l p) default).next])) (q1m l p) (V.agg [V.str (bif Nat.beq (q1m l p) (q1m l p)then((q0z l).getD (q1m l p) default).path else((q0z l).getD (q1m l p) default).path),vi (bif Nat.beq (q1m l p) (q1m l p)then d else((q0z l).getD (q1m l p) default).data),vi ((bif Nat.beq (q1m l p) (q1m l p)then((q0z l).getD (q1m l p) default).version else((q0z l).getD (q1m l p) default).version)+(1:Int)),vi (bif Nat.beq (q1m l p) (q1m l p)then((q0z l).getD (q1m l p) default).owner else((q0z l).getD (q1m l p) default).owner),vi (bif Nat.beq (q1m l p) (q1m l p)then((q0z l).getD (q1m l p) default).next else((q0z l).getD (q1m l p) default).next)])) 100) (Blk.arr 5 (q6s l p d v).nodes.length (gL (q01 1) (q6s l p d v).nodes) 100)∧True))))):=by
  delta qJS;delta qGW;delta q2N;delta qAt;delta qGb;delta q0z;delta q9Y;delta qBH;delta q1m;delta q08;delta vi;obtain⟨ht,hp⟩:=hpre;obtain⟨hl,hr,hn⟩:=q2J ht;have hl2:l.length≤maxLen:=by unfold maxLen;omega
  have kp:=qQU ht;have zc:=zc0 ht hp;have ea:=qBg hr p;have lt0:=q57 hr p;simp only[q0o,q1R,zc,Int.toNat_natCast,q30];refine⟨⟨VLe.refl _,hl2⟩,fun h=>absurd h (by decide),fun _=>⟨⟨VLe.refl _,hr,by omega⟩,trivial,fun h=>qFb ?_,fun h=>⟨fun h2=>qFb ?_,fun h2=>?_⟩⟩⟩
  ·show q2P l p d v=_;unfold q2P;rw[if_pos (by simpa using h)]
  ·show q2P l p d v=_;unfold q2P;rw[if_neg (by simpa using h),if_pos (lt0.2 (by simpa using h2))]
  ·have hz:isZ l p=true:=by simpa using h2
   obtain⟨q1,q2,q3⟩:=q6J hr hz;have h1:¬¬inR d 0 9999:=by simpa using h
   have h4:¬atN l p<0:=fun g=>by rw[lt0.1 g]at hz;cases hz
   have hv:=(hn _ (q3w q2)).2.2.2.2.1;unfold inR at hv;have hv:0≤(l.getD (q2U l p) default).version∧(l.getD (q2U l p) default).version≤999:=hv;refine⟨⟨by omega,by omega⟩,⟨VLe.refl _,trivial⟩,fun h3=>qFb ?_,fun h3=>⟨⟨by omega,by omega⟩,fun h5=>qFb ?_,fun h5=>?_⟩⟩
   ·show q2P l p d v=_;unfold q2P;rw[if_neg h1,if_neg h4,q1,if_pos];simpa using h3
   ·show q2P l p d v=_;have h6:(l.getD (q2U l p) default).version=999:=eq_of_beq h5;unfold q2P;rw[if_neg h1,if_neg h4,q1,if_neg,if_pos (by show 999≤(l.getD (q2U l p) default).version;omega)];intro g;have h7:v=-1∨v=(l.getD (q2U l p) default).version:=qMt h3;rcases h7 with h7|h7
    ·exact g.1 h7
    ·exact g.2 h7
   ·have h6:¬(l.getD (q2U l p) default).version=999:=by simpa using h5
    have e:q6s l p d v=⟨0,q1f,q5t l (q2U l p) d⟩:=by
     show q2P l p d v=_;unfold q2P;rw[if_neg h1,if_neg h4,q1,if_neg,if_neg (by show¬999≤(l.getD (q2U l p) default).version;omega)];intro g;have h7:v=-1∨v=(l.getD (q2U l p) default).version:=qMt h3;rcases h7 with h7|h7
     ·exact g.1 h7
     ·exact g.2 h7
    rw[e];have en:(q5t l (q2U l p) d).length=l.length:=by
     unfold q5t;rw[List.length_set]
    have e1:Nat.beq (q2U l p) (q2U l p)=true:=Nat.beq_refl _;simp only[e1,cond_true,en];refine⟨⟨VLe.refl _,by show l.length≤1000;omega⟩,⟨by omega,by omega⟩,q2,⟨by omega,by omega⟩,q2,q0X (by omega),⟨by omega,by omega⟩,q2,VLe.refl _,?_,trivial⟩;exact qA6 q2 (ELe.of_eq (by simp[q2F,V.cells,q01])) fun j e=>by simp[q2F,e]
 exact Eq.mp (by kernel_rfl) key
theorem x1q:q0R Tryz.prog 183 qQN:=by
 refine q0S q77 (tpl:=[(2,5)]) Tryz.func183 rfl (by kernel_rfl) fun args bin ob r bout hDe hob=>?_;unfold qQN at hDe;split at hDe
 ·rename_i a0 a1 a2 a3;cases hDe;exact okQ (qZF ((q0K q03) a0) a1 a2 a3 (hob.2)) x2i (args_of_vles ⟨hob.1,VLe.refl _,VLe.refl _,VLe.refl _,trivial⟩) trivial
 ·cases hDe
def qVp (l:List q0A) (p:ByteArray):Prop:=q1A l=0∧q1I p=0
noncomputable def x48 (l:List q0A) (p:ByteArray):V:=q9B 2 (if atN l p<0 then⟨4,[]⟩else⟨0,q1p l p⟩)
noncomputable def qXu:q0P:=fun args bin=>match args,bin with
 |[a0,.str a1],[]=>some (VLe a0 (q0D (q01 1) 1 (((q0K q03) a0)))∧qVp ((q0K q03) a0) a1,x48 ((q0K q03) a0) a1,[])
 |_,_=>none
noncomputable def xDc:=lkR [(237,qJk),(184,qGP),(242,qSU)]
theorem x5U:q0C Tryz.prog xDc:=q02 qP0 (q02 qJp (q02 x0f (q04)))
noncomputable def x8c (l:List q0A) (p:ByteArray):=cxN xDc Tryz.f185 [0,1,4,5,7,12,22]
noncomputable def qKC (l:List q0A) (p:ByteArray):V:=q9B 2 (if atN l p<(0:Int)then q2I.mk (4:Int) []else q2I.mk (0:Int) (q1p l p))
theorem x4m (l:List q0A) (p:ByteArray) (hpre:qVp l p):q0d (x8c l p) Tryz.f185 1 [q0D (q01 1) 1 (l),.str (p)] (fun rr=>VLe rr (x48 l p)):=by
 have key:(q2N l∧qJX (q08 l) p)∧(((if q1A (q08 l)≠(0:Int)then q1A (q08 l)else q1I p)!=0)=true→VLe (V.agg [vi (if q1A (q08 l)≠(0:Int)then q1A (q08 l)else q1I p),V.nil]) (qKC l p))∧(((if q1A (q08 l)≠(0:Int)then q1A (q08 l)else q1I p)!=0)=false→(q2N l∧q9j (q08 l) p)∧((!isZ (q08 l) p)=true→VLe (V.agg [vi 4,V.nil]) (qKC l p))∧((!isZ (q08 l) p)=false→(q2N l∧qU9 (q08 l) p)∧VLe (V.agg [vi 0,q0D q4r 2 (q1p (q08 l) p)]) (qKC l p))):=by
  delta q2N;delta qKC;delta q08;delta vi;obtain⟨ht,hp⟩:=hpre;obtain⟨hl,hr,hn⟩:=q2J ht;have hl2:l.length≤maxLen:=by unfold maxLen;omega
  have kp:=qQU ht;have zc:=zc0 ht hp;have ea:=qBg hr p;have lt0:=q57 hr p;simp only[q0o,zc];refine⟨⟨VLe.refl _,hl2⟩,fun h=>absurd h (by decide),fun _=>⟨⟨VLe.refl _,hr,by omega⟩,fun h2=>?_,fun h2=>?_⟩⟩
  ·rw[if_pos (lt0.2 (by simpa using h2))];exact q21 ⟨VLe.refl _,q8D _ _,trivial⟩
  ·have hz:isZ l p=true:=by simpa using h2
   have h4:¬atN l p<0:=fun g=>by rw[lt0.1 g]at hz;cases hz
   rw[if_neg h4];exact⟨⟨VLe.refl _,kp⟩,VLe.refl _⟩
 exact Eq.mp (by kernel_rfl) key
theorem x8K:q0R Tryz.prog 185 qXu:=by
 refine sob 1 Tryz.func185 fun args bin ob r bout hDe hob=>?_;unfold qXu at hDe;split at hDe
 ·rename_i a0 a1;cases hDe;exact okB (x4m ((q0K q03) a0) a1 (hob.2)) x5U (args_of_vles ⟨hob.1,VLe.refl _,trivial⟩)
 ·cases hDe
def qX9 (l:List q0A) (p:ByteArray):Prop:=q1A l=0∧q1I p=0
noncomputable def x1h (l:List q0A) (p:ByteArray):V:=q0W 2 (if atN l p<0 then⟨4,q1f,[]⟩else⟨0,q1f,[atZ l (atN l p).toNat]⟩)
noncomputable def qXU:q0P:=fun args bin=>match args,bin with
 |[a0,.str a1],[]=>some (VLe a0 (q0D (q01 1) 1 (((q0K q03) a0)))∧qX9 ((q0K q03) a0) a1,x1h ((q0K q03) a0) a1,[])
 |_,_=>none
noncomputable def xEU:=lkR [(237,qJk),(184,qGP)]
theorem x8O:q0C Tryz.prog xEU:=q02 qP0 (q02 qJp (q04))
noncomputable def xC9 (l:List q0A) (p:ByteArray):=cxN xEU Tryz.f186 [0,1,4,5,6,7,12,22]
noncomputable def qLH (l:List q0A) (p:ByteArray):V:=q0W 2 (if atN l p<(0:Int)then q16.mk (4:Int) q1f []else q16.mk (0:Int) q1f [atZ l (atN l p).toNat])
theorem x9V (l:List q0A) (p:ByteArray) (hpre:qX9 l p):q0d (xC9 l p) Tryz.f186 1 [q0D (q01 1) 1 (l),.str (p)] (fun rr=>VLe rr (x1h l p)):=by
 have key:(VLe (q0D (q01 1) 1 l) (q0D (q01 1) 1 (q08 l))∧qJX (q08 l) p)∧(((if q1A (q08 l)≠(0:Int)then q1A (q08 l)else q1I p)!=0)=true→VLe (V.agg [vi (if q1A (q08 l)≠(0:Int)then q1A (q08 l)else q1I p),V.str (ByteArray.mk #[]),V.nil]) (qLH l p))∧(((if q1A (q08 l)≠(0:Int)then q1A (q08 l)else q1I p)!=0)=false→(VLe (q0D (q01 1) 1 l) (q0D (q01 1) 1 (q08 l))∧q9j (q08 l) p)∧((!isZ (q08 l) p)=true→VLe (V.agg [vi 4,V.str (ByteArray.mk #[]),V.nil]) (qLH l p))∧((!isZ (q08 l) p)=false→(0≤(↑ (q2U (q08 l) p):Int)∧(↑ (q2U (q08 l) p):Int)<(↑ l.length:Int))∧VLe (V.agg [vi 0,V.str (ByteArray.mk #[]),V.sl 1 (q3C [q01 1 (l.getD (↑ (q2U (q08 l) p):Int).toNat default)]) 2]) (qLH l p))):=by
  delta qLH;delta q08;delta vi;obtain⟨ht,hp⟩:=hpre;obtain⟨hl,hr,hn⟩:=q2J ht;have hl2:l.length≤maxLen:=by unfold maxLen;omega
  have kp:=qQU ht;have zc:=zc0 ht hp;have ea:=qBg hr p;have lt0:=q57 hr p;simp only[q0o,zc];refine⟨⟨VLe.refl _,hl2⟩,fun h=>absurd h (by decide),fun _=>⟨⟨VLe.refl _,hr,by omega⟩,fun h2=>?_,fun h2=>?_⟩⟩
  ·rw[if_pos (lt0.2 (by simpa using h2))];exact q21 ⟨VLe.refl _,VLe.refl _,q8D _ _,trivial⟩
  ·have hz:isZ l p=true:=by simpa using h2
   obtain⟨q1,q2,q3⟩:=q6J hr hz;have h4:¬atN l p<0:=fun g=>by rw[lt0.1 g]at hz;cases hz
   rw[if_neg h4,q1];refine⟨⟨by omega,by omega⟩,q21 ⟨VLe.refl _,VLe.refl _,q96 (fun i hi=>?_) (.inl rfl),trivial⟩⟩;have:i=0:=by omega
   subst this;exact ELe.refl _
 exact Eq.mp (by kernel_rfl) key
theorem x5X:q0R Tryz.prog 186 qXU:=by
 refine sob 1 Tryz.func186 fun args bin ob r bout hDe hob=>?_;unfold qXU at hDe;split at hDe
 ·rename_i a0 a1;cases hDe;exact okB (x9V ((q0K q03) a0) a1 (hob.2)) x8O (args_of_vles ⟨hob.1,VLe.refl _,trivial⟩)
 ·cases hDe
theorem qCU (l:List q0A) (i:Nat):(q4M l i).length=l.length:=by unfold q4M;rw[List.length_set]
theorem qAF (l:List q0A) (i k:Nat):(atZ (q4M l i) k).path=(atZ l k).path:=by
 unfold q4M;by_cases e:k=i
 ·subst e;by_cases hk:k<l.length
  ·simp[hk]
  ·have:l.set k ⟨(atZ l k).path,(atZ l k).data,(atZ l k).version,(atZ l k).owner,(atZ l k).next+1⟩=l:=List.set_eq_of_length_le (by omega);rw[this]
 ·simp[List.getElem?_set,Ne.symm e]
theorem qST {l:List q0A} (h:rising l) (i:Nat):rising (q4M l i):=fun a b h1 h2=>by
 rw[qAF,qAF];exact h a b h1 (by rw[qCU]at h2;exact h2)
theorem qJs (l:List q0A) (i:Nat) (t:ByteArray):q2U (q4M l i) t=q2U l t:=by
 refine qDO (by rw[qCU];exact q9R) (fun k hk=>?_) fun h=>?_
 ·rw[qAF];exact of_decide_eq_true (q9e (p:=qBh t) (l:=l) hk)
 ·rw[qAF];rw[qCU]at h;exact of_decide_eq_false (qDR (p:=qBh t) (l:=l) h)
theorem x31 (l:List q0A) (i:Nat) (t:ByteArray):isZ (q4M l i) t=isZ l t:=by
 unfold isZ;rw[qJs,qAF,qCU]
theorem x2k {l:List q0A} {k:Nat} {v:V} {z:q0A} (hv:v=q01 1 z) (i:Nat) (hi:i<l.length):q65 (gL (q01 1) l) k v i=q01 1 ((l.set k z).getD i default):=by
 rw[q2F];by_cases e:i=k
 ·subst e;rw[if_pos rfl,hv];simp[hi]
 ·rw[if_neg e];simp[gL,List.getElem?_set,Ne.symm e]
theorem qMw {a b:ByteArray} {i:Nat} (h:i<a.size):q0i (a++b) i=q0i a i:=by
 rw[q4f _ _ (by rw[ByteArray.size_append];omega),q4f _ _ h];congr 2;have e:(a++b).data.toList=a.data.toList++b.data.toList:=by rw[ByteArray.data_append,Array.toList_append]
 rw[List.getElem_of_eq e];exact List.getElem_append_left (by rw[←q2o];exact h)
theorem x49 {m:ByteArray} {n:Int} (h1:1≤m.size) (h:q5j (q5P m n)):q5j m:=by
 have hs:=qAV m n;obtain⟨h2,h3,h4⟩:=h;refine⟨fun i hi=>?_,h1,by omega⟩;have:=h2 i (by omega);have e:q5P m n=m++(qO2 (n.tdiv 10)++qO2 (n.tmod 10)):=by unfold q5P;rw[ByteArray.append_assoc]
 rw[e,qMw hi]at this;exact this
theorem qKk (c:UInt8):∀l:List UInt8,[]∈(qBn c (l++[c])).tail
 |[]=>by simp[qBn]
 |x::r=>by
  have ih:=qKk c r;rw[List.cons_append];unfold qBn;split
  ·exact List.mem_of_mem_tail ih
  ·split
   ·rename_i p q e;rw[e]at ih;exact ih
   ·rename_i e;exact absurd e (qJw _ _)
theorem qHw {s:ByteArray} (h:q0i s 0=47):∀n,0<n→q0i s (q3V s n:Nat)=47
 |0,h0=>absurd h0 (by decide)
 |n+1,_=>by
  unfold q3V;split
  ·assumption
  ·rename_i hb;by_cases h1:n=0
   ·subst h1;exact absurd h hb
   ·exact qHw h n (by omega)
theorem qTE {p:ByteArray} (h:q1I p=0) (h2:p≠top):1≤(q4R p).size:=by
 have hh:=q4n h;obtain⟨h0,hb⟩:=q5N hh;have hl:q2B p<p.size:=q8G _ h0;have ha:=qHw hb p.size h0;unfold q4R;rw[q8P _ _ _ (by omega) (Nat.le_refl _)];by_cases e:p.size-(q2B p+1)=0
 ·exfalso;have e2:q2B p=p.size-1:=by omega
  have ha2:q0i p (p.size-1:Nat)=((47:UInt8).toNat:Int):=by rw[←e2];exact ha
  have hg:=(q9l (i:=p.size-1) (by omega) 47).1 ha2;have hne:p.data.toList≠[]:=fun g=>by rw[q2o,g]at h0;cases h0
  have hlast:p.data.toList.getLast hne=47:=by
   rw[List.getLast_eq_getElem];have:p.data.toList.length-1=p.size-1:=by rw[←q2o]
   simp only[this];exact hg
  have hsplit:=(List.dropLast_concat_getLast hne).symm;rw[hlast]at hsplit;unfold q1I at h;split at h
  ·cases h
  split at h
  ·rename_i h1;rcases h1 with h1|h1
   ·exact h2 h1
   ·have hm:ba []∈(q2O p).tail:=by
     unfold q2O;rw[hsplit,←List.map_tail];exact List.mem_map_of_mem (qKk 47 _)
    have:=(h1.2.2 _ hm).2.1;rw[qGd]at this;cases this
  ·cases h
 ·omega
theorem pz1 {l:List q0A} (hr:rising l) {q:ByteArray} (h:isZ l q=true):decide (atN l q≥0)=true:=decide_eq_true (by rw[qBg hr,if_pos h];omega)
theorem pz0 {l:List q0A} (hr:rising l) {q:ByteArray} (h:isZ l q=false):decide (atN l q≥0)=false:=decide_eq_false (by have:=(q57 hr q).2 h;omega)
theorem t20 {n:Nat} (h:((n:Int)==20)=true):decide ((n:Int)≥20)=true:=decide_eq_true (by have:=eq_of_beq h;omega)
theorem f20 {n:Nat} (hn:n≤20) (h:((n:Int)==20)=false):decide ((n:Int)≥20)=false:=by
 have h2:¬(n:Int)=20:=by simpa using h
 exact decide_eq_false (by omega)
theorem qV8 {out:List q0A} {z:q0A} {i:Nat} (h:i=q2U out z.path):out.take ((i:Nat):Int).toNat++[z]++out.drop ((i:Nat):Int).toNat=qKs out z:=by
 subst h;rw[List.append_assoc];rfl
def qLr (l:List q0A) (p:ByteArray) (d:Int) (o:Int) (s:Bool):Prop:=q1A l=0∧q1I p=0
noncomputable def q5E (l:List q0A) (p:ByteArray) (d:Int) (o:Int) (s:Bool):q16:=q2j l p d o s
noncomputable def qUR (l:List q0A) (p:ByteArray) (d:Int) (o:Int) (s:Bool):List Blk:=[(.arr 5 ((q5E l p d o s).nodes).length (gL (q01 1) ((q5E l p d o s).nodes)) q0l)]
noncomputable def qUt (l:List q0A) (p:ByteArray) (d:Int) (o:Int) (s:Bool):V:=.agg [.int .i64 ((q5E l p d o s).code),.str ((q5E l p d o s).path),.osl 0 ((q5E l p d o s).nodes).length]
noncomputable def qNx:q0P:=fun args bin=>match args,bin with
 |[a0,.str a1,.int .i64 a2,.int .i64 a3,.bool a4],[]=>some (VLe a0 (q0D (q01 1) 1 (((q0K q03) a0)))∧qLr ((q0K q03) a0) a1 a2 a3 a4,qUt ((q0K q03) a0) a1 a2 a3 a4,qUR ((q0K q03) a0) a1 a2 a3 a4)
 |_,_=>none
noncomputable def x26:Nat→Option (Fl×q0P):=lk [(237,(.ro,qJk)),(184,(.ro,qGP)),(176,(.ro,qMH)),(238,(.ro,qSg)),(204,(.ro,qPU)),(175,(.ro,qNN)),(239,(.ro,qWh)),(240,(.ro,qVj)),(162,(.ro,qA0)),(241,(.mv,qXB))]
theorem x1d:q0C Tryz.prog x26:=q02 qP0 (q02 qJp (q02 qSB (q02 x0z (q02 qVc (q02 qTr (q02 xCO (q02 x9E (q02 qCq (q02 x5j (q04))))))))))
noncomputable def x2x (l:List q0A) (p:ByteArray) (d:Int) (o:Int) (s:Bool):=cxN x26 Tryz.f181 [0,1,2,3,4,10,11,12,13,14,15,16,17,18,19,20,25,28,38,53,57,67,73,84,95,112,115]
noncomputable def q2d (l:List q0A) (p:ByteArray):Nat:=(↑ (q2U (q08 l) (upF p)):Int).toNat
noncomputable def qJx (l:List q0A) (p:ByteArray):V:=V.sl (q0z l).length (q65 (gL (q01 1) (q0z l)) (q2d l p) (V.agg [V.str ((q0z l).getD (q2d l p) default).path,vi ((q0z l).getD (q2d l p) default).data,vi ((q0z l).getD (q2d l p) default).version,vi ((q0z l).getD (q2d l p) default).owner,vi (((q0z l).getD (q2d l p) default).next+(1:Int))])) 1
noncomputable def q6U (l:List q0A) (p:ByteArray):Int:=((q0z l).getD (q2d l p) default).next
noncomputable def q56 (l:List q0A) (p:ByteArray):ByteArray:=(if¬q5j (q4R p)then q1S.mk (5:Int) q1f else if¬inR (q6U l p) (0:Int) (99:Int)then q1S.mk (3:Int) q1f else if¬q5j (q5P (q4R p) (q6U l p))then q1S.mk (5:Int) q1f else q1S.mk (0:Int) (q5P (q4R p) (q6U l p))).text
noncomputable def qC3 (l:List q0A) (p:ByteArray) (d:Int) (o:Int) (s:Bool):Blk:=Blk.arr 5 (q5E l p d o s).nodes.length (gL (q01 1) (q5E l p d o s).nodes) 100
def q5L (l:List q0A) (p:ByteArray) (d:Int) (o:Int) (s:Bool):Prop:=BLe (Blk.arr 5 0 (fun(x:Nat) ↦ V.undef) 100) (qC3 l p d o s)∧True
noncomputable def q4k (l:List q0A) (p:ByteArray) (d:Int) (o:Int) (s:Bool):V:=V.agg [vi (q5E l p d o s).code,V.str (q5E l p d o s).path,V.osl 0 (q5E l p d o s).nodes.length]
noncomputable def q4u (l:List q0A):List q0A:=q0K q03 (q0D (q01 1) 1 (q0z l))
def qCP (l:List q0A) (p:ByteArray):Prop:=0≤(↑ (q2U (q08 l) (upF p)):Int)∧(↑ (q2U (q08 l) (upF p)):Int)<(↑ (q0z l).length:Int)
noncomputable def q5Z (l:List q0A) (p:ByteArray):List q0A:=q0K q03 (qJx l p)
noncomputable def qC9 (l:List q0A) (p:ByteArray) (d:Int) (o:Int):List q0A:=q0K q03 (V.sl 1 (q3C [V.agg [V.str (q2L (upF p) (q56 l p)),vi d,vi 0,vi o,vi 0]]) 1)
noncomputable def qC1 (l:List q0A) (p:ByteArray) (d:Int) (o:Int):List q0A:=q8L (q5Z l p) (↑ (q2U (q5Z l p) (q2L (upF p) (q56 l p))):Int) (qC9 l p d o)
noncomputable def qFJ (l:List q0A) (p:ByteArray):Bool:=(if¬q5j (q4R p)then q1S.mk (5:Int) q1f else if¬inR (q6U l p) (0:Int) (99:Int)then q1S.mk (3:Int) q1f else if¬q5j (q5P (q4R p) (q6U l p))then q1S.mk (5:Int) q1f else q1S.mk (0:Int) (q5P (q4R p) (q6U l p))).code !=0
noncomputable def q8y (p:ByteArray) (d:Int) (o:Int):List q0A:=q0K q03 (V.sl 1 (q3C [V.agg [V.str p,vi d,vi 0,vi o,vi 0]]) 1)
def qAK (l:List q0A) (p:ByteArray):Prop:=(↑ (q2U (q08 l) (upF p)):Int).toNat<(q0z l).length
noncomputable def q9q (l:List q0A):Bool:=(↑ (q0z l).length:Int)==(20:Int)
theorem x32 (l:List q0A) (p:ByteArray) (d:Int) (o:Int) (s:Bool) (hpre:qLr l p d o s):q3h (x2x l p d o s) Tryz.f181 [(2,5)] [q0D (q01 1) 1 (l),.str (p),.int .i64 (d),.int .i64 (o),.bool (s)] [] (fun rr bs=>VLe rr (qUt l p d o s)∧q1y bs (qUR l p d o s)):=by
 have key:(q2N l∧qJX (q08 l) p)∧(((if q1A (q08 l)≠(0:Int)then q1A (q08 l)else q1I p)!=0)=true→VLe (V.agg [vi (if q1A (q08 l)≠(0:Int)then q1A (q08 l)else q1I p),V.str (ByteArray.mk #[]),V.osl 0 0]) (q4k l p d o s)∧q5L l p d o s)∧(((if q1A (q08 l)≠(0:Int)then q1A (q08 l)else q1I p)!=0)=false→qJK d∧tq (!!decide (inR d 0 9999))∧((!!decide (inR d 0 9999))=true→qRA o)∧tq (!!decide (inR d 0 9999))∧((true=true→(!decide (inR d 0 9999))=false→(!!decide (inR d 0 9999))=true)∧∀b:Bool,(b=bif !decide (inR d 0 9999)then true else !decide (inR o 0 9))→(b=true→VLe (V.agg [vi 3,V.str (ByteArray.mk #[]),V.osl 0 0]) (q4k l p d o s)∧q5L l p d o s)∧(b=false→(q1t p (ByteArray.mk #[(47:UInt8)])=true→VLe (V.agg [vi 1,V.str (ByteArray.mk #[]),V.osl 0 0]) (q4k l p d o s)∧q5L l p d o s)∧(q1t p (ByteArray.mk #[(47:UInt8)])=false→qJI p∧(q2N l∧q9j (q08 l) (upF p))∧((!isZ (q08 l) (upF p))=true→VLe (V.agg [vi 4,V.str (ByteArray.mk #[]),V.osl 0 0]) (q4k l p d o s)∧q5L l p d o s)∧((!isZ (q08 l) (upF p))=false→(0≤(↑ (q2U (q08 l) (upF p)):Int)∧(↑ (q2U (q08 l) (upF p)):Int)<(↑ l.length:Int))∧(((l.getD (q2d l p) default).owner !=0)=true→VLe (V.agg [vi 8,V.str (ByteArray.mk #[]),V.osl 0 0]) (q4k l p d o s)∧q5L l p d o s)∧(((l.getD (q2d l p) default).owner !=0)=false→(q2N l∧qAD (q08 l))∧(s=true→qCP l p∧qAK l p∧((((q0z l).getD (q2d l p) default).next==100)=true→VLe (V.agg [vi 3,V.str (ByteArray.mk #[]),V.osl 0 0]) (q4k l p d o s)∧q5L l p d o s)∧((((q0z l).getD (q2d l p) default).next==100)=false→qCP l p∧qAK l p∧qWy (q4R p) (q6U l p)∧((qFJ l p)=true→VLe (V.agg [vi (if¬q5j (q4R p)then q1S.mk (5:Int) q1f else if¬inR (q6U l p) (0:Int) (99:Int)then q1S.mk (3:Int) q1f else if¬q5j (q5P (q4R p) (q6U l p))then q1S.mk (5:Int) q1f else q1S.mk (0:Int) (q5P (q4R p) (q6U l p))).code,V.str (ByteArray.mk #[]),V.osl 0 0]) (q4k l p d o s)∧q5L l p d o s)∧((qFJ l p)=false→qY2 (upF p) (q56 l p)∧qJB (q2L (upF p) (q56 l p))∧((q1I (q2L (upF p) (q56 l p))!=0)=true→VLe (V.agg [vi (q1I (q2L (upF p) (q56 l p))),V.str (ByteArray.mk #[]),V.osl 0 0]) (q4k l p d o s)∧q5L l p d o s)∧((q1I (q2L (upF p) (q56 l p))!=0)=false→qCP l p∧qAK l p∧inK IntKind.i64 (((q0z l).getD (q2d l p) default).next+(1:Int))∧qCP l p∧qAK l p∧(VLe (qJx l p) (q0D (q01 1) 1 (q5Z l p))∧q9j (q5Z l p) (q2L (upF p) (q56 l p)))∧(isZ (q5Z l p) (q2L (upF p) (q56 l p))=true→VLe (V.agg [vi 6,V.str (ByteArray.mk #[]),V.osl 0 0]) (q4k l p d o s)∧q5L l p d o s)∧(isZ (q5Z l p) (q2L (upF p) (q56 l p))=false→((q9q l)=true→VLe (V.agg [vi 2,V.str (ByteArray.mk #[]),V.osl 0 0]) (q4k l p d o s)∧q5L l p d o s)∧((q9q l)=false→((0=0∧5=5∧100=100∧((q0z l).length=(q0z l).length∧∀i:Nat,i<(q0z l).length→ELe (V.agg (V.str (bif Nat.beq i (q2d l p)then((q0z l).getD (q2d l p) default).path else((q0z l).getD i default).path)::vi (bif Nat.beq i (q2d l p)then((q0z l).getD (q2d l p) default).data else((q0z l).getD i default).data)::vi (bif Nat.beq i (q2d l p)then((q0z l).getD (q2d l p) default).version else((q0z l).getD i default).version)::vi (bif Nat.beq i (q2d l p)then((q0z l).getD (q2d l p) default).owner else((q0z l).getD i default).owner)::vi (bif Nat.beq i (q2d l p)then((q0z l).getD (q2d l p) default).next+(1:Int)else((q0z l).getD i default).next)::(bif (Nat.beq i (q2d l p))then[]else[]))) (q01 1 ((q5Z l p).getD i default))))∧(1=1∧5=5∧100=100∧(1=1∧∀i:Nat,i<1→ELe (q3C [V.agg [V.str (q2L (upF p) (q56 l p)),vi d,vi 0,vi o,vi 0]] i) (q01 1 ((qC9 l p d o).getD i default))))∧qSl (q5Z l p) (↑ (q2U (q5Z l p) (q2L (upF p) (q56 l p))):Int) (qC9 l p d o))∧VLe (V.agg [vi 0,V.str (q2L (upF p) (q56 l p)),V.osl 0 (qC1 l p d o).length]) (q4k l p d o s)∧BLe (Blk.arr 5 (qC1 l p d o).length (gL (q01 1) (qC1 l p d o)) 100) (qC3 l p d o s)∧True))))))∧(s=false→(VLe (q0D (q01 1) 1 (q0z l)) (q0D (q01 1) 1 (q4u l))∧q9j (q4u l) p)∧(isZ (q4u l) p=true→VLe (V.agg [vi 6,V.str (ByteArray.mk #[]),V.osl 0 0]) (q4k l p d o s)∧q5L l p d o s)∧(isZ (q4u l) p=false→((q9q l)=true→VLe (V.agg [vi 2,V.str (ByteArray.mk #[]),V.osl 0 0]) (q4k l p d o s)∧q5L l p d o s)∧((q9q l)=false→((0=0∧5=5∧100=100∧((q0z l).length=(q0z l).length∧∀i:Nat,i<(q0z l).length→ELe (q01 1 ((q0z l).getD i default)) (q01 1 ((q4u l).getD i default))))∧(1=1∧5=5∧100=100∧(1=1∧∀i:Nat,i<1→ELe (q3C [V.agg [V.str p,vi d,vi 0,vi o,vi 0]] i) (q01 1 ((q8y p d o).getD i default))))∧qSl (q4u l) (↑ (q2U (q4u l) p):Int) (q8y p d o))∧VLe (V.agg [vi 0,V.str p,V.osl 0 (q8L (q4u l) (↑ (q2U (q4u l) p):Int) (q8y p d o)).length]) (q4k l p d o s)∧BLe (Blk.arr 5 (q8L (q4u l) (↑ (q2U (q4u l) p):Int) (q8y p d o)).length (gL (q01 1) (q8L (q4u l) (↑ (q2U (q4u l) p):Int) (q8y p d o))) 100) (qC3 l p d o s)∧True))))))))):=by
  delta q2N;delta q9q;delta qAK;delta q8y;delta qFJ;delta qC1;delta qC9;delta q5Z;delta qCP;delta q4u;delta q4k;delta q5L;delta qC3;delta q56;delta q6U;delta qJx;delta q2d;delta q0z;delta q08;delta vi;obtain⟨ht,hp⟩:=hpre;obtain⟨hl,hr,hn⟩:=q2J ht;have hl2:l.length≤maxLen:=by unfold maxLen;omega
  have kp:=qQU ht;have zc:=zc0 ht hp;have hpp:=q4n hp;have hps:=q8C hp;have ea:=qBg hr (upF p);have lt0:=q57 hr (upF p);simp only[q0o,q1R,zc,q1W,Int.toNat_natCast,q30];generalize hU:upF p=u at*;generalize hM:q4R p=m at*;have hup:=qNh p;have hnp:=qGy (q5N hpp).1;rw[hU]at hup;rw[hM]at hnp;have eN:∀x,x=q2j l p d o s→x=q2j l p d o s:=fun _ h=>h;refine⟨⟨VLe.refl _,hl2⟩,fun h=>absurd h (by decide),fun _=>⟨trivial,tqI _,fun _=>trivial,tqI _,fun _ h=>by simpa using h,fun b hb=>⟨fun h=>qFb ?_,fun h=>⟨fun h2=>qFb ?_,fun h2=>⟨⟨by omega,hpp⟩,⟨VLe.refl _,hr,by omega⟩,fun h3=>qFb ?_,fun h3=>?_⟩⟩⟩⟩⟩
  all_goals rw[h,inB]at hb
  ·show q2j l p d o s=_;unfold q2j;rw[if_pos (of_decide_eq_true hb.symm)]
  all_goals have c1:=of_decide_eq_false hb.symm
  ·show q2j l p d o s=_;unfold q2j;rw[if_neg c1,if_pos (of_decide_eq_true h2)]
  all_goals have c2:=of_decide_eq_false h2
  ·show q2j l p d o s=_;unfold q2j;rw[if_neg c1,if_neg c2,if_pos (by rw[hU];exact lt0.2 (by simpa using h3))]
  have hz:isZ l u=true:=by simpa using h3
  obtain⟨q1,q2,q3⟩:=q6J hr hz;have c3:¬atN l (upF p)<0:=fun g=>by rw[hU]at g;rw[lt0.1 g]at hz;cases hz
  have e4:upN l p=q2U l u:=by unfold upN;rw[hU,q1]
  generalize hK:q2U l u=k at*;refine⟨⟨by omega,by omega⟩,fun h4=>qFb ?_,fun h4=>⟨⟨VLe.refl _,by show l.length≤1000;omega⟩,fun h5=>?_,fun h5=>?_⟩⟩
  ·show q2j l p d o s=_;unfold q2j;rw[if_neg c1,if_neg c2,if_neg c3,e4,if_pos (by simpa using h4)]
  all_goals have c4:¬(l.getD k default).owner≠0:=by simpa using h4
  ·have hz:inR (l.getD k default).next 0 100:=(hn _ (q3w q2)).2.2.2.2.2.2;have hmp:1≤m.size:=hM▸qTE hp c2;refine⟨⟨by omega,by omega⟩,q2,fun h6=>qFb ?_,fun h6=>?_⟩
   ·show q2j l p d o s=_;have:(l.getD k default).next=100:=eq_of_beq h6;unfold q2j;rw[if_neg c1,if_neg c2,if_neg c3,e4,if_neg c4,h5,if_neg (by decide),if_pos (by show 100≤(l.getD k default).next;omega)]
   have c6:¬(l.getD k default).next=100:=by simpa using h6
   have ez:q2j l p d o s=if¬q5j (q5P m (l.getD k default).next)then⟨5,q1f,[]⟩
     else if q1I (q2L u (q5P m (l.getD k default).next))≠0 then⟨q1I (q2L u (q5P m (l.getD k default).next)),q1f,[]⟩
     else q5y l (q4M l k) (q2L u (q5P m (l.getD k default).next)) d o:=by
    unfold q2j;unfold inR at hz;rw[if_neg c1,if_neg c2,if_neg c3,e4,if_neg c4,h5,if_neg (by decide),if_neg (by show¬100≤(l.getD k default).next;omega),hU,hM]
   have hr9:inR (l.getD k default).next 0 99:=by unfold inR at hz⊢;omega
   have es:(if¬q5j m then(⟨5,q1f⟩:q1S)else if¬inR (l.getD k default).next 0 99 then⟨3,q1f⟩else if¬q5j (q5P m (l.getD k default).next)then⟨5,q1f⟩else⟨0,q5P m (l.getD k default).next⟩)=if¬q5j (q5P m (l.getD k default).next)then⟨5,q1f⟩else⟨0,q5P m (l.getD k default).next⟩:=by
    by_cases a:q5j m
    ·rw[if_neg (not_not_intro a),if_neg (not_not_intro hr9)]
    ·rw[if_pos a,if_pos fun g=>a (x49 hmp g)]
   simp only[es];have hs:=qAV m (l.getD k default).next;generalize q5P m (l.getD k default).next=q at*;by_cases a:q5j q
   ·rw[if_neg (not_not_intro a)];rw[if_neg (not_not_intro a)]at ez;have hj:(q2L u q).size≤1000:=by
     unfold q2L;split<;>simp only[ByteArray.size_append]<;>(have t1:(top:ByteArray).size=1:=rfl)<;>omega
    have el:∀t,q0K q03 (.sl l.length (q65 (gL (q01 1) l) k (.agg [.str (l.getD k default).path,.int .i64 (l.getD k default).data,.int .i64 (l.getD k default).version,.int .i64 (l.getD k default).owner,.int .i64 ((l.getD k default).next+1)])) t)=q4M l k:=fun t=>qL2 rfl;have hcr:=qST hr k;have hcl:=qCU l k;simp only[el,x31,qJs];unfold inR at hz;refine⟨⟨by omega,by omega⟩,q2,by show m.size≤900;omega,fun h7=>absurd h7 (by decide),fun h7=>⟨⟨by omega,by omega⟩,trivial,fun h8=>qFb ?_,fun h8=>⟨⟨by omega,by omega⟩,q2,q0X (by omega),⟨by omega,by omega⟩,q2,⟨qOp q2 rfl,hcr,by show(q4M l k).length≤1000;omega⟩,fun h9=>qFb ?_,fun h9=>⟨fun h10=>qFb ?_,fun h10=>?_⟩⟩⟩⟩
    ·exact ez.trans (if_pos (by simpa using h8))
    all_goals
     have c8:¬q1I (q2L u q)≠0:=by simpa using h8
     rw[if_neg c8]at ez
    ·exact qKi (x:=q5E l p d o s) ez (pz1 hr h9)
    ·exact qLP (x:=q5E l p d o s) ez (pz0 hr h9) (t20 h10)
    ·have eq:q5E l p d o s=_:=qKe ez (pz0 hr h9) (f20 hl h10);have ew:q0K q03 (.sl 1 (q3C [.agg [.str (q2L u q),.int .i64 d,.int .i64 0,.int .i64 o,.int .i64 0]]) 1)=[⟨q2L u q,d,0,o,0⟩]:=rfl;have e2:q8L (q4M l k) (q2U l (q2L u q):Int) [⟨q2L u q,d,0,o,0⟩]=qKs (q4M l k) ⟨q2L u q,d,0,o,0⟩:=qV8 (qJs l k _).symm;have hpl:q2U l (q2L u q)≤l.length:=q9R;rw[ew,eq,e2];refine⟨⟨⟨trivial,trivial,trivial,trivial,fun i hi=>ELe.of_eq (x2k (z:=⟨(l.getD k default).path,(l.getD k default).data,(l.getD k default).version,(l.getD k default).owner,(l.getD k default).next+1⟩) rfl i hi)⟩,⟨trivial,trivial,trivial,trivial,fun i hi=>?_⟩,⟨by omega,by rw[hcl];omega,Nat.one_pos,by show(q4M l k).length+1≤1000;omega⟩⟩,VLe.refl _,BLe.refl _,trivial⟩;have:i=0:=by omega
     subst this;exact ELe.refl _
   ·rw[if_pos a];rw[if_pos a]at ez;refine⟨⟨by omega,by omega⟩,q2,by show m.size≤900;omega,fun h7=>qFb ez,fun h7=>absurd h7 (by decide)⟩
  ·have ez:q2j l p d o s=q5y l l p d o:=by
    unfold q2j;rw[if_neg c1,if_neg c2,if_neg c3,e4,if_neg c4,h5,if_pos rfl]
   refine⟨⟨VLe.refl _,hr,by omega⟩,fun h9=>qFb (qKi (x:=q5E l p d o s) ez (pz1 hr h9)),fun h9=>⟨fun h10=>qFb (qLP (x:=q5E l p d o s) ez (pz0 hr h9) (t20 h10)),fun h10=>?_⟩⟩;have eq:q5E l p d o s=_:=qKe ez (pz0 hr h9) (f20 hl h10);have ew:q0K q03 (.sl 1 (q3C [.agg [.str p,.int .i64 d,.int .i64 0,.int .i64 o,.int .i64 0]]) 1)=[⟨p,d,0,o,0⟩]:=rfl;have e2:q8L l (q2U l p:Int) [⟨p,d,0,o,0⟩]=qKs l ⟨p,d,0,o,0⟩:=qV8 rfl;have hpl:q2U l p≤l.length:=q9R;rw[ew,eq,e2];refine⟨⟨⟨trivial,trivial,trivial,trivial,fun i hi=>ELe.refl _⟩,⟨trivial,trivial,trivial,trivial,fun i hi=>?_⟩,⟨by omega,by omega,Nat.one_pos,by show l.length+1≤1000;omega⟩⟩,VLe.refl _,BLe.refl _,trivial⟩;have:i=0:=by omega
   subst this;exact ELe.refl _
 exact Eq.mp (by kernel_rfl) key
theorem x3z:q0R Tryz.prog 181 qNx:=by
 refine q0S q77 (tpl:=[(2,5)]) Tryz.func181 rfl (by kernel_rfl) fun args bin ob r bout hDe hob=>?_;unfold qNx at hDe;split at hDe
 ·rename_i a0 a1 a2 a3 a4;cases hDe;exact okQ (x32 ((q0K q03) a0) a1 a2 a3 a4 (hob.2)) x1d (args_of_vles ⟨hob.1,VLe.refl _,VLe.refl _,VLe.refl _,VLe.refl _,trivial⟩) trivial
 ·cases hDe
def qGB (t:Nat) (s:ByteArray):V:=.ptr [.str s] 0 t
def q1c:V→ByteArray
 | .ptr (c::_) _ _=>qRx c
 |_=>q1f
@[simp] theorem qVO (t:Nat) (s:ByteArray):q1c (qGB t s)=s:=rfl
@[irreducible] def q5p (s sub:ByteArray):Int:=Lib.indexByte s.data.toList (q0i sub 0).toNat.toUInt8
@[irreducible] def qFv (k:Int):ByteArray:=
 if k=3 then⟨#[112,100,115,111]⟩else if k=4 then⟨#[112,118]⟩else if k=5 then⟨#[112,100,118]⟩else if k=6 then⟨#[112]⟩else if k=7 then⟨#[112]⟩else if k=8 then⟨#[112,118]⟩else⟨#[]⟩
@[irreducible] def x77 (k:Int):ByteArray:=
 if k=1 then⟨#[111,112,101,110]⟩else if k=2 then⟨#[99,108,111,115,101]⟩else if k=3 then⟨#[99,114,101,97,116,101]⟩else if k=4 then⟨#[100,101,108,101,116,101]⟩else if k=5 then⟨#[115,101,116]⟩else if k=6 then⟨#[103,101,116]⟩else if k=7 then⟨#[107,105,100,115]⟩else if k=8 then⟨#[99,104,101,99,107]⟩else⟨#[]⟩
theorem qSP {s:ByteArray} (h:s.size=1):∃c,s=⟨#[c]⟩:=by
 rcases s with⟨⟨l⟩⟩
 match l,h with
 |[c],_=>exact⟨c,rfl⟩
theorem qS1 (c:UInt8):q5p ⟨#[c]⟩ ⟨#[c]⟩=0:=by
 unfold q5p q0i;simp[Lib.indexByte]
def qPW (s:ByteArray) (c:Int):Prop:=True
noncomputable def qUl (s:ByteArray) (c:Int):V:=.int .i64 (Lib.indexByte s.data.toList c.toNat.toUInt8)
noncomputable def qQJ:q0P:=fun args bin=>match args,bin with
 |[.str a0,.int .u8 a1],[]=>some (qPW a0 a1,qUl a0 a1,[])
 |_,_=>none
noncomputable def x3I:=lkR [(291,qVX)]
theorem qZB:q0C Tryz.prog x3I:=q02 x1X (q04)
noncomputable def x27 (s:ByteArray) (c:Int):=cxN x3I Tryz.f282 [0,1,4]
theorem x28 (s:ByteArray) (c:Int) (hpre:qPW s c):q0d (x27 s c) Tryz.f282 0 [.str (s),.int .u8 (c)] (fun rr=>VLe rr (qUl s c)):=by
 have key:True∧VLe (vi (Lib.indexByte (Array.toList (ByteArray.data s)) (Nat.toUInt8 c.toNat))) (vi (Lib.indexByte (Array.toList (ByteArray.data s)) (Nat.toUInt8 c.toNat))):=by
  delta vi;exact⟨trivial,VLe.refl _⟩
 exact Eq.mp (by kernel_rfl) key
theorem x0c:q0R Tryz.prog 282 qQJ:=by
 refine sob 0 Tryz.func282 fun args bin ob r bout hDe hob=>?_;unfold qQJ at hDe;split at hDe
 ·rename_i a0 a1;cases hDe;exact okB (x28 a0 a1 (hob)) qZB (args_of_vles ⟨VLe.refl _,VLe.refl _,trivial⟩)
 ·cases hDe
def qPp (s:ByteArray) (sub:ByteArray):Prop:=sub.size=1
noncomputable def qUe (s:ByteArray) (sub:ByteArray):V:=.int .i64 (q5p s sub)
noncomputable def qQG:q0P:=fun args bin=>match args,bin with
 |[.str a0,.str a1],[]=>some (qPp a0 a1,qUe a0 a1,[])
 |_,_=>none
noncomputable def x1F:=lkR [(282,qQJ)]
theorem x0Z:q0C Tryz.prog x1F:=q02 x0c (q04)
noncomputable def x41 (s:ByteArray) (sub:ByteArray):Cx:=⟨tt,x1F,Tryz.f267.ntmps,[0,1,4,5,6,7,8,9,10,11,12,13,16,24,31,36,59,64,73,93,107,114,132,139],[],[6],fun _=>none,[],noM,[]⟩
theorem x0y (s:ByteArray) (sub:ByteArray) (hpre:qPp s sub):q0d (x41 s sub) Tryz.f267 0 [.str (s),.str (sub)] (fun rr=>VLe rr (qUe s sub)):=by
 have key:tq (! (q2z sub)==(0:Int))∧tq (! (q2z sub)==(0:Int))∧((true=true→((q2z sub)==(0:Int))=false→(! (q2z sub)==(0:Int))=true)∧∀b:Bool,(b=bif (q2z sub)==(0:Int)then true else q1t sub s)→(b=true→VLe (vi 0) (vi (q5p s sub)))∧(b=false→(((q2z sub)==(1:Int))=true→((0:Int)≤(0:Int)∧0<(q2z sub))∧qPW s (q0i sub (0:Int))∧VLe (vi (Lib.indexByte (Array.toList (ByteArray.data s)) (Nat.toUInt8 (q0i sub (0:Int)).toNat))) (vi (q5p s sub)))∧(((q2z sub)==(1:Int))=false→False))):=by
  delta q2z;delta vi;have h1:sub.size=1:=hpre;obtain⟨c,rfl⟩:=qSP h1;simp only[h1];refine⟨tqI _,tqI _,fun _ _=>rfl,fun b hb=>⟨fun h=>?_,fun h=>⟨fun _=>⟨by decide,trivial,q0I (by unfold q5p;rfl)⟩,fun h=>by simp at h⟩⟩⟩;rw[h]at hb;have e:(⟨#[c]⟩:ByteArray)=s:=by simpa[q1W]using hb
  subst e;exact q0I (qS1 c).symm
 exact Eq.mp (by kernel_rfl) key
theorem x0T:q0R Tryz.prog 267 qQG:=by
 refine sob 0 Tryz.func267 fun args bin ob r bout hDe hob=>?_;unfold qQG at hDe;split at hDe
 ·rename_i a0 a1;cases hDe;exact okB (x0y a0 a1 (hob)) x0Z (args_of_vles ⟨VLe.refl _,VLe.refl _,trivial⟩)
 ·cases hDe
def qQ3 (s:ByteArray) (sub:ByteArray):Prop:=sub.size=1
noncomputable def qUd (s:ByteArray) (sub:ByteArray):V:=.int .i64 (q5p s sub)
noncomputable def qPF:q0P:=fun args bin=>match args,bin with
 |[.str a0,.str a1],[]=>some (qQ3 a0 a1,qUd a0 a1,[])
 |_,_=>none
noncomputable def x24:=lkR [(267,qQG)]
theorem x2t:q0C Tryz.prog x24:=q02 x0T (q04)
noncomputable def x1E (s:ByteArray) (sub:ByteArray):=cxN x24 Tryz.f231 [0,1,4]
theorem x2E (s:ByteArray) (sub:ByteArray) (hpre:qQ3 s sub):q0d (x1E s sub) Tryz.f231 0 [.str (s),.str (sub)] (fun rr=>VLe rr (qUd s sub)):=by
 have key:qPp s sub∧VLe (vi (q5p s sub)) (vi (q5p s sub)):=by
  delta vi;exact⟨hpre,VLe.refl _⟩
 exact Eq.mp (by kernel_rfl) key
theorem x0x:q0R Tryz.prog 231 qPF:=by
 refine sob 0 Tryz.func231 fun args bin ob r bout hDe hob=>?_;unfold qPF at hDe;split at hDe
 ·rename_i a0 a1;cases hDe;exact okB (x2E a0 a1 (hob)) x2t (args_of_vles ⟨VLe.refl _,VLe.refl _,trivial⟩)
 ·cases hDe
def qVT (s:ByteArray) (sub:ByteArray):Prop:=sub.size=1
noncomputable def x3M (s:ByteArray) (sub:ByteArray):V:=.bool (decide (0≤q5p s sub))
noncomputable def qXv:q0P:=fun args bin=>match args,bin with
 |[.str a0,.str a1],[]=>some (qVT a0 a1,x3M a0 a1,[])
 |_,_=>none
noncomputable def xDa:=lkR [(231,qPF)]
theorem xCY:q0C Tryz.prog xDa:=q02 x0x (q04)
noncomputable def x7N (s:ByteArray) (sub:ByteArray):=cxN xDa Tryz.f174 [0,1,4]
theorem xAt (s:ByteArray) (sub:ByteArray) (hpre:qVT s sub):q0d (x7N s sub) Tryz.f174 0 [.str (s),.str (sub)] (fun rr=>VLe rr (x3M s sub)):=by
 have key:qQ3 s sub∧VLe (V.bool (decide (q5p s sub≥(0:Int)))) (V.bool (decide ((0:Int)≤q5p s sub))):=by
  exact⟨hpre,VLe.refl _⟩
 exact Eq.mp (by kernel_rfl) key
theorem x8d:q0R Tryz.prog 174 qXv:=by
 refine sob 0 Tryz.func174 fun args bin ob r bout hDe hob=>?_;unfold qXv at hDe;split at hDe
 ·rename_i a0 a1;cases hDe;exact okB (xAt a0 a1 (hob)) xCY (args_of_vles ⟨VLe.refl _,VLe.refl _,trivial⟩)
 ·cases hDe
def qYE (k:Int):Prop:=True
noncomputable def x1M (k:Int):V:=.tup [.str (x77 k),.str (qFv k)]
noncomputable def qXl:q0P:=fun args bin=>match args,bin with
 |[.int .i64 a0],[]=>some (qYE a0,x1M a0,[])
 |_,_=>none
noncomputable def xDF:=lkR []
theorem xAC:q0C Tryz.prog xDF:=q04
noncomputable def x9N (k:Int):=cxN xDF Tryz.f172 [0,2,3,4,5,7,9,11,13,15,17,19]
noncomputable def q9E (k:Int):V:=V.tup [V.str (x77 k),V.str (qFv k)]
theorem xA8 (k:Int) (hpre:qYE k):q0d (x9N k) Tryz.f172 0 [.int .i64 (k)] (fun rr=>VLe rr (x1M k)):=by
 have key:((k==1)=true→VLe (V.tup [V.str (ByteArray.mk #[(111:UInt8),(112:UInt8),(101:UInt8),(110:UInt8)]),V.str (ByteArray.mk #[])]) (q9E k))∧((k==1)=false→((k==2)=true→VLe (V.tup [V.str (ByteArray.mk #[(99:UInt8),(108:UInt8),(111:UInt8),(115:UInt8),(101:UInt8)]),V.str (ByteArray.mk #[])]) (q9E k))∧((k==2)=false→((k==3)=true→VLe (V.tup [V.str (ByteArray.mk #[(99:UInt8),(114:UInt8),(101:UInt8),(97:UInt8),(116:UInt8),(101:UInt8)]),V.str (ByteArray.mk #[(112:UInt8),(100:UInt8),(115:UInt8),(111:UInt8)])]) (q9E k))∧((k==3)=false→((k==4)=true→VLe (V.tup [V.str (ByteArray.mk #[(100:UInt8),(101:UInt8),(108:UInt8),(101:UInt8),(116:UInt8),(101:UInt8)]),V.str (ByteArray.mk #[(112:UInt8),(118:UInt8)])]) (q9E k))∧((k==4)=false→((k==5)=true→VLe (V.tup [V.str (ByteArray.mk #[(115:UInt8),(101:UInt8),(116:UInt8)]),V.str (ByteArray.mk #[(112:UInt8),(100:UInt8),(118:UInt8)])]) (q9E k))∧((k==5)=false→((k==6)=true→VLe (V.tup [V.str (ByteArray.mk #[(103:UInt8),(101:UInt8),(116:UInt8)]),V.str (ByteArray.mk #[(112:UInt8)])]) (q9E k))∧((k==6)=false→((k==7)=true→VLe (V.tup [V.str (ByteArray.mk #[(107:UInt8),(105:UInt8),(100:UInt8),(115:UInt8)]),V.str (ByteArray.mk #[(112:UInt8)])]) (q9E k))∧((k==7)=false→((k==8)=true→VLe (V.tup [V.str (ByteArray.mk #[(99:UInt8),(104:UInt8),(101:UInt8),(99:UInt8),(107:UInt8)]),V.str (ByteArray.mk #[(112:UInt8),(118:UInt8)])]) (q9E k))∧((k==8)=false→VLe (V.tup [V.str (ByteArray.mk #[]),V.str (ByteArray.mk #[])]) (q9E k))))))))):=by
  delta q9E;refine⟨fun h=>?_,fun h1=>⟨fun h=>?_,fun h2=>⟨fun h=>?_,fun h3=>⟨fun h=>?_,fun h4=>⟨fun h=>?_,fun h5=>⟨fun h=>?_,fun h6=>⟨fun h=>?_,fun h7=>⟨fun h=>?_,fun h9=>?_⟩⟩⟩⟩⟩⟩⟩⟩
  all_goals (unfold x77 qFv;simp_all)
 exact Eq.mp (by kernel_rfl) key
theorem x8H:q0R Tryz.prog 172 qXl:=by
 refine sob 0 Tryz.func172 fun args bin ob r bout hDe hob=>?_;unfold qXl at hDe;split at hDe
 ·rename_i a0;cases hDe;exact okB (xA8 a0 (hob)) xAC (args_of_vles ⟨VLe.refl _,trivial⟩)
 ·cases hDe
def qIw (f:ByteArray) (own:ByteArray):Prop:=f.size=1
noncomputable def x36 (f:ByteArray) (own:ByteArray):V:=.bool (!decide (0≤q5p own f))
noncomputable def qWG:q0P:=fun args bin=>match args,bin with
 |[.str a0,a1],[]=>some (VLe a1 (qGB 1 ((q1c a1)))∧qIw a0 (q1c a1),x36 a0 (q1c a1),[])
 |_,_=>none
noncomputable def xDT:=lkR [(174,qXv)]
theorem xBK:q0C Tryz.prog xDT:=q02 x8d (q04)
noncomputable def xAV (f:ByteArray) (own:ByteArray):=cxN xDT Tryz.f173 [0,1,3]
theorem x9X (f:ByteArray) (own:ByteArray) (hpre:qIw f own):q0d (xAV f own) Tryz.f173 0 [.str (f),qGB 1 (own)] (fun rr=>VLe rr (x36 f own)):=by
 have key:qVT own f∧VLe (V.bool !decide ((0:Int)≤q5p own f)) (V.bool !decide ((0:Int)≤q5p own f)):=by
  exact⟨hpre,VLe.refl _⟩
 exact Eq.mp (by kernel_rfl) key
theorem x9J:q0R Tryz.prog 173 qWG:=by
 refine sob 0 Tryz.func173 fun args bin ob r bout hDe hob=>?_;unfold qWG at hDe;split at hDe
 ·rename_i a0 a1;cases hDe;exact okB (x9X a0 (q1c a1) (hob.2)) xBK (args_of_vles ⟨VLe.refl _,hob.1,trivial⟩)
 ·cases hDe
theorem orB (x y:Bool):(bif x then true else y)=(x||y):=by cases x<;>rfl
theorem xDE (x y:Bool):(bif x then y else false)=(x&&y):=by cases x<;>rfl
theorem xCN (k:Int):(!decide (0≤q5p (qFv k) ⟨#[112]⟩))=decide (¬q8j k)∧(!decide (0≤q5p (qFv k) ⟨#[100]⟩))=decide (¬qAf k)∧(!decide (0≤q5p (qFv k) ⟨#[118]⟩))=decide (¬qAy k)
  ∧(!decide (0≤q5p (qFv k) ⟨#[115]⟩))=decide (k≠3)∧(!decide (0≤q5p (qFv k) ⟨#[111]⟩))=decide (k≠3):=by
 by_cases h3:k=3
 ·subst h3;unfold qFv q5p q8j qAf qAy inR;refine⟨?_,?_,?_,?_,?_⟩<;>simp<;>decide
 by_cases h4:k=4
 ·subst h4;unfold qFv q5p q8j qAf qAy inR;refine⟨?_,?_,?_,?_,?_⟩<;>simp<;>decide
 by_cases h5:k=5
 ·subst h5;unfold qFv q5p q8j qAf qAy inR;refine⟨?_,?_,?_,?_,?_⟩<;>simp<;>decide
 by_cases h6:k=6
 ·subst h6;unfold qFv q5p q8j qAf qAy inR;refine⟨?_,?_,?_,?_,?_⟩<;>simp<;>decide
 by_cases h7:k=7
 ·subst h7;unfold qFv q5p q8j qAf qAy inR;refine⟨?_,?_,?_,?_,?_⟩<;>simp<;>decide
 by_cases h8:k=8
 ·subst h8;unfold qFv q5p q8j qAf qAy inR;refine⟨?_,?_,?_,?_,?_⟩<;>simp<;>decide
 have e:qFv k=⟨#[]⟩:=by unfold qFv;simp[h3,h4,h5,h6,h7,h8]
 have nP:¬q8j k:=fun h=>by unfold q8j inR at h;omega
 have nD:¬qAf k:=fun h=>by unfold qAf at h;omega
 have nV:¬qAy k:=fun h=>by unfold qAy at h;omega
 have z:∀f,(!decide (0≤q5p ⟨#[]⟩ f))=true:=fun f=>by unfold q5p;rfl
 rw[e];simp[z,nP,nD,nV,h3]
def qYq (o:TOp):Prop:=True
noncomputable def x1v (o:TOp):V:=.int .i64 (opF o)
noncomputable def qXc:q0P:=fun args bin=>match args,bin with
 |[a0],[]=>some (VLe a0 (q0Q 1 ((q0a a0)))∧qYq (q0a a0),x1v (q0a a0),[])
 |_,_=>none
noncomputable def xEI:=lkR [(172,qXl),(173,qWG),(120,q9i),(175,qNN),(176,qMH)]
theorem xAG:q0C Tryz.prog xEI:=q02 x8H (q02 x9J (q02 qBu (q02 qTr (q02 qSB (q04)))))
noncomputable def xAQ (o:TOp):=cxN xEI Tryz.f108 [0,1,2,4,5,6,14,62,69,80]
noncomputable def q2g (o:TOp):V:=V.ptr [V.str (qFv o.kind)] 0 1
def qEx (o:TOp):Prop:=VLe (q2g o) (qGB 1 (q1c (q2g o)))
def qIN (o:TOp):Prop:=(!!decide (inR o.kind 1 8))=true
def qQ6 (o:TOp):Prop:=(!decide ((0:Int)≤q5p (q1c (q2g o)) (ByteArray.mk #[(112:UInt8)])))=true
def qOO (o:TOp):Prop:=qEx o∧qIw (ByteArray.mk #[(112:UInt8)]) (q1c (q2g o))
theorem x4o (o:TOp) (hpre:qYq o):q0d (xAQ o) Tryz.f108 0 [q0Q 1 (o)] (fun rr=>VLe rr (x1v o)):=by
 have key:qYE o.kind∧q64 o.kind (1:Int) (8:Int)∧tq (!!decide (inR o.kind 1 8))∧(qIN o→qOO o)∧tq (!!decide (inR o.kind 1 8))∧tq (!!decide (inR o.kind 1 8)&& !decide ((0:Int)≤q5p (q1c (q2g o)) (ByteArray.mk #[(112:UInt8)])))∧tq (!!decide (inR o.kind 1 8)&& !decide ((0:Int)≤q5p (q1c (q2g o)) (ByteArray.mk #[(112:UInt8)])))∧tq (!!decide (inR o.kind 1 8))∧((qIN o→qIN o→qQ6 o→(!!decide (inR o.kind 1 8)&& !decide ((0:Int)≤q5p (q1c (q2g o)) (ByteArray.mk #[(112:UInt8)])))=true)∧∀b:Bool,(b=bif !decide ((0:Int)≤q5p (q1c (q2g o)) (ByteArray.mk #[(112:UInt8)]))then !q1t o.path (ByteArray.mk #[])else false)→((true=true→(!decide (inR o.kind 1 8))=false→qIN o)∧∀b_1:Bool,(b_1=bif !decide (inR o.kind 1 8)then true else b)→tq (!b_1)∧((!b_1)=true→qEx o∧qIw (ByteArray.mk #[(100:UInt8)]) (q1c (q2g o)))∧tq (!b_1)∧tq (!b_1&& !decide ((0:Int)≤q5p (q1c (q2g o)) (ByteArray.mk #[(100:UInt8)])))∧tq (!b_1&& !decide ((0:Int)≤q5p (q1c (q2g o)) (ByteArray.mk #[(100:UInt8)])))∧tq (!b_1)∧(((!b_1)=true→(!b_1)=true→(!decide ((0:Int)≤q5p (q1c (q2g o)) (ByteArray.mk #[(100:UInt8)])))=true→(!b_1&& !decide ((0:Int)≤q5p (q1c (q2g o)) (ByteArray.mk #[(100:UInt8)])))=true)∧∀b_2:Bool,(b_2=bif !decide ((0:Int)≤q5p (q1c (q2g o)) (ByteArray.mk #[(100:UInt8)]))then o.data !=0 else false)→((true=true→b_1=false→(!b_1)=true)∧∀b_3:Bool,(b_3=bif b_1 then true else b_2)→tq (!b_3)∧((!b_3)=true→qEx o∧qIw (ByteArray.mk #[(118:UInt8)]) (q1c (q2g o)))∧tq (!b_3)∧tq (!b_3&& !decide ((0:Int)≤q5p (q1c (q2g o)) (ByteArray.mk #[(118:UInt8)])))∧tq (!b_3&& !decide ((0:Int)≤q5p (q1c (q2g o)) (ByteArray.mk #[(118:UInt8)])))∧tq (!b_3)∧(((!b_3)=true→(!b_3)=true→(!decide ((0:Int)≤q5p (q1c (q2g o)) (ByteArray.mk #[(118:UInt8)])))=true→(!b_3&& !decide ((0:Int)≤q5p (q1c (q2g o)) (ByteArray.mk #[(118:UInt8)])))=true)∧∀b_4:Bool,(b_4=bif !decide ((0:Int)≤q5p (q1c (q2g o)) (ByteArray.mk #[(118:UInt8)]))then o.version !=0 else false)→((true=true→b_3=false→(!b_3)=true)∧∀b_5:Bool,(b_5=bif b_3 then true else b_4)→tq (!b_5)∧((!b_5)=true→qEx o∧qIw (ByteArray.mk #[(115:UInt8)]) (q1c (q2g o)))∧tq (!b_5)∧tq (!b_5&& !decide ((0:Int)≤q5p (q1c (q2g o)) (ByteArray.mk #[(115:UInt8)])))∧tq (!b_5)∧(((!b_5)=true→(!b_5)=true→(!decide ((0:Int)≤q5p (q1c (q2g o)) (ByteArray.mk #[(115:UInt8)])))=true→(!b_5&& !decide ((0:Int)≤q5p (q1c (q2g o)) (ByteArray.mk #[(115:UInt8)])))=true)∧∀b_6:Bool,(b_6=bif !decide ((0:Int)≤q5p (q1c (q2g o)) (ByteArray.mk #[(115:UInt8)]))then o.seq else false)→((true=true→b_5=false→(!b_5)=true)∧∀b_7:Bool,(b_7=bif b_5 then true else b_6)→tq (!b_7)∧((!b_7)=true→qEx o∧qIw (ByteArray.mk #[(111:UInt8)]) (q1c (q2g o)))∧tq (!b_7)∧tq (!b_7&& !decide ((0:Int)≤q5p (q1c (q2g o)) (ByteArray.mk #[(111:UInt8)])))∧tq (!b_7)∧(((!b_7)=true→(!b_7)=true→(!decide ((0:Int)≤q5p (q1c (q2g o)) (ByteArray.mk #[(111:UInt8)])))=true→(!b_7&& !decide ((0:Int)≤q5p (q1c (q2g o)) (ByteArray.mk #[(111:UInt8)])))=true)∧∀b_8:Bool,(b_8=bif !decide ((0:Int)≤q5p (q1c (q2g o)) (ByteArray.mk #[(111:UInt8)]))then o.own else false)→((true=true→b_7=false→(!b_7)=true)∧∀b_9:Bool,(b_9=bif b_7 then true else b_8)→(b_9=true→VLe (vi 1) (vi (opF o)))∧(b_9=false→qOO o∧(qQ6 o→VLe (vi 0) (vi (opF o)))∧((!decide ((0:Int)≤q5p (q1c (q2g o)) (ByteArray.mk #[(112:UInt8)])))=false→qJB o.path∧((q1I o.path !=0)=true→VLe (vi (q1I o.path)) (vi (opF o)))∧((q1I o.path !=0)=false→qJK o.data∧tq (!!decide (inR o.data 0 9999))∧tq (!!decide (inR o.data 0 9999))∧((!!decide (inR o.data 0 9999))=true→q64 o.version (-1:Int) (999:Int))∧tq (!!decide (inR o.data 0 9999))∧((true=true→(!decide (inR o.data 0 9999))=false→(!!decide (inR o.data 0 9999))=true)∧∀b_10:Bool,(b_10=bif !decide (inR o.data 0 9999)then true else !decide (inR o.version (-1) 999))→(b_10=true→VLe (vi 3) (vi (opF o)))∧(b_10=false→VLe (vi 0) (vi (opF o))))))))))))))))):=by
  delta qOO;delta qQ6;delta qIN;delta qEx;delta q2g;delta vi;have e0:q1c (.ptr [.str (qFv o.kind)] 0 1)=qFv o.kind:=rfl;obtain⟨eP,eD,eV,eS,eO⟩:=xCN o.kind;simp only[e0,eP,eD,eV,eS,eO,q1W];refine⟨trivial,trivial,?_⟩
  repeat (first|refine And.intro (tqI _) ?_|refine And.intro (fun _=>⟨VLe.refl _,rfl⟩) ?_|refine And.intro (fun h _ g=>by rw[h,g];rfl) ?_|refine And.intro (fun _ h=>by rw[h];rfl) ?_|intro b hb)
  subst_vars
  simp only[orB,xDE];have hW:(!decide (inR o.kind 1 8)||decide ¬q8j o.kind&& !decide (o.path=⟨#[]⟩)||decide ¬qAf o.kind&&o.data !=0||decide ¬qAy o.kind&&o.version !=0||decide (o.kind≠3)&&o.seq||decide (o.kind≠3)&&o.own)=true↔
    (¬okK o.kind∨(¬q8j o.kind∧o.path≠q1f)∨(¬qAf o.kind∧o.data≠0)∨(¬qAy o.kind∧o.version≠0)∨(o.kind≠3∧(o.seq=true∨o.own=true))):=by
   simp only[Bool.or_eq_true,Bool.and_eq_true,Bool.not_eq_true',decide_eq_true_eq,decide_eq_false_iff_not,bne_iff_ne,or_assoc,and_or_left];rfl
  refine⟨fun h=>q0I ?_,fun h=>?_⟩
  ·unfold opF;rw[if_pos (hW.1 h)]
  have hN:=fun g=>(show False from by rw[hW.2 g]at h;cases h);refine⟨⟨VLe.refl _,rfl⟩,fun h2=>q0I ?_,fun h2=>⟨trivial,fun h3=>q0I ?_,fun h3=>⟨trivial,tqI _,tqI _,fun _=>trivial,tqI _,fun _ h=>by rw[h];rfl,fun b hb=>⟨fun h4=>q0I ?_,fun h4=>q0I ?_⟩⟩⟩⟩
  ·unfold opF;rw[if_neg hN,if_pos (of_decide_eq_true h2)]
  ·unfold opF;rw[if_neg hN,if_neg (of_decide_eq_false h2),if_pos (by simpa using h3)]
  ·rw[h4]at hb;unfold opF;rw[if_neg hN,if_neg (of_decide_eq_false h2),if_neg (by simpa using h3),if_pos];rintro⟨a1,a2⟩;rw[decide_eq_true a1,decide_eq_true a2]at hb;cases hb
  ·rw[h4]at hb;unfold opF;rw[if_neg hN,if_neg (of_decide_eq_false h2),if_neg (by simpa using h3),if_neg];intro g;apply g;by_cases a1:inR o.data 0 9999
   ·by_cases a2:inR o.version (-1) 999
    ·exact⟨a1,a2⟩
    ·rw[decide_eq_true a1,decide_eq_false a2]at hb;cases hb
   ·rw[decide_eq_false a1]at hb;cases hb
 exact Eq.mp (by kernel_rfl) key
theorem x6H:q0R Tryz.prog 108 qXc:=by
 refine sob 0 Tryz.func108 fun args bin ob r bout hDe hob=>?_;unfold qXc at hDe;split at hDe
 ·rename_i a0;cases hDe;exact okB (x4o (q0a a0) (hob.2)) xAG (args_of_vles ⟨hob.1,trivial⟩)
 ·cases hDe
def qU3 (k:Int):Prop:=True
noncomputable def x09 (k:Int):V:=.bool (decide (q8j k))
noncomputable def qWY:q0P:=fun args bin=>match args,bin with
 |[.int .i64 a0],[]=>some (qU3 a0,x09 a0,[])
 |_,_=>none
noncomputable def xEB:=lkR [(151,qA8)]
theorem xCq:q0C Tryz.prog xEB:=q02 qBp (q04)
noncomputable def x8j (k:Int):=cxN xEB Tryz.f188 [0,2]
theorem xBd (k:Int) (hpre:qU3 k):q0d (x8j k) Tryz.f188 0 [.int .i64 (k)] (fun rr=>VLe rr (x09 k)):=by
 have key:q62 k (3:Int) (8:Int)∧VLe (V.bool (decide (inR k 3 8))) (V.bool (decide (q8j k))):=by
  refine⟨trivial,q0Z ?_⟩;rw[Bool.eq_iff_iff,decide_eq_true_eq,decide_eq_true_eq];rfl
 exact Eq.mp (by kernel_rfl) key
theorem xBe:q0R Tryz.prog 188 qWY:=by
 refine sob 0 Tryz.func188 fun args bin ob r bout hDe hob=>?_;unfold qWY at hDe;split at hDe
 ·rename_i a0;cases hDe;exact okB (xBd a0 (hob)) xCq (args_of_vles ⟨VLe.refl _,trivial⟩)
 ·cases hDe
def qX1 (k:Int):Prop:=True
noncomputable def x0B (k:Int):V:=.bool (decide (qAf k))
noncomputable def qW4:q0P:=fun args bin=>match args,bin with
 |[.int .i64 a0],[]=>some (qX1 a0,x0B a0,[])
 |_,_=>none
noncomputable def xDW:=lkR []
theorem x6S:q0C Tryz.prog xDW:=q04
noncomputable def x6T (k:Int):=cxN xDW Tryz.f189 [0,2]
theorem xCP (k:Int) (hpre:qX1 k):q0d (x6T k) Tryz.f189 0 [.int .i64 (k)] (fun rr=>VLe rr (x0B k)):=by
 have key:tq (!k==3)∧((true=true→(k==3)=false→(!k==3)=true)∧∀b:Bool,(b=bif k==3 then true else k==5)→VLe (V.bool b) (V.bool (decide (qAf k)))):=by
  refine⟨tqI _,fun _ h=>by rw[h];rfl,fun b hb=>q0Z ?_⟩;rw[hb,orB,Bool.eq_iff_iff,decide_eq_true_eq];simp[qAf]
 exact Eq.mp (by kernel_rfl) key
theorem x5q:q0R Tryz.prog 189 qW4:=by
 refine sob 0 Tryz.func189 fun args bin ob r bout hDe hob=>?_;unfold qW4 at hDe;split at hDe
 ·rename_i a0;cases hDe;exact okB (xCP a0 (hob)) x6S (args_of_vles ⟨VLe.refl _,trivial⟩)
 ·cases hDe
def qWK (k:Int):Prop:=True
noncomputable def x2z (k:Int):V:=.bool (decide (qAy k))
noncomputable def qWB:q0P:=fun args bin=>match args,bin with
 |[.int .i64 a0],[]=>some (qWK a0,x2z a0,[])
 |_,_=>none
noncomputable def xEk:=lkR []
theorem x9L:q0C Tryz.prog xEk:=q04
noncomputable def xCL (k:Int):=cxN xEk Tryz.f190 [0,2]
theorem xBS (k:Int) (hpre:qWK k):q0d (xCL k) Tryz.f190 0 [.int .i64 (k)] (fun rr=>VLe rr (x2z k)):=by
 have key:tq (!k==4)∧((true=true→(k==4)=false→(!k==4)=true)∧∀b:Bool,(b=bif k==4 then true else k==5)→tq (!b)∧((true=true→b=false→(!b)=true)∧∀b_1:Bool,(b_1=bif b then true else k==8)→VLe (V.bool b_1) (V.bool (decide (qAy k))))):=by
  refine⟨tqI _,fun _ h=>by rw[h];rfl,fun b hb=>⟨tqI _,fun _ h=>by rw[h];rfl,fun c hc=>q0Z ?_⟩⟩;rw[hc,hb,orB,orB,Bool.eq_iff_iff,decide_eq_true_eq];simp[qAy,or_assoc]
 exact Eq.mp (by kernel_rfl) key
theorem x95:q0R Tryz.prog 190 qWB:=by
 refine sob 0 Tryz.func190 fun args bin ob r bout hDe hob=>?_;unfold qWB at hDe;split at hDe
 ·rename_i a0;cases hDe;exact okB (xBS a0 (hob)) x9L (args_of_vles ⟨VLe.refl _,trivial⟩)
 ·cases hDe
def qWO (o:TOp):Prop:=True
noncomputable def x2a (o:TOp):V:=.int .i64 (opF o)
noncomputable def qW6:q0P:=fun args bin=>match args,bin with
 |[a0],[]=>some (VLe a0 (q3f 1 ((q0x a0)))∧qWO (q0x a0),x2a (q0x a0),[])
 |_,_=>none
noncomputable def xEm:=lkR [(151,qA8),(188,qWY),(189,qW4),(190,qWB),(191,qRR),(192,qMv)]
theorem x9h:q0C Tryz.prog xEm:=q02 qBp (q02 xBe (q02 x5q (q02 x95 (q02 qYW (q02 qTv (q04))))))
noncomputable def xAg (o:TOp):=cxN xEm Tryz.f111 [0,2,3,9,71,76,83,98]
def qOG (o:TOp):Prop:=qI7 o.data∧tq (!!decide (inR o.data 0 9999))∧tq (!!decide (inR o.data 0 9999))∧tq (!!decide (inR o.data 0 9999))∧tq (!!decide (inR o.data 0 9999))∧((!!decide (inR o.data 0 9999))=true→q62 o.version (-1:Int) (999:Int))∧tq (!!decide (inR o.data 0 9999))∧((true=true→(!decide (inR o.data 0 9999))=false→(!!decide (inR o.data 0 9999))=true)∧∀b_8:Bool,(b_8=bif !decide (inR o.data 0 9999)then true else !decide (inR o.version (-1) 999))→(b_8=true→VLe (vi 3) (vi (opF o)))∧(b_8=false→VLe (vi 0) (vi (opF o))))
noncomputable def q2m (o:TOp):Int:=o.kind
theorem x5e (o:TOp) (hpre:qWO o):q0d (xAg o) Tryz.f111 0 [q3f 1 (o)] (fun rr=>VLe rr (x2a o)):=by
 have key:q62 (q2m o) (1:Int) (8:Int)∧((!decide (inR (q2m o) 1 8))=true→VLe (vi 1) (vi (opF o)))∧((!decide (inR (q2m o) 1 8))=false→qU3 (q2m o)∧tq (!decide (q8j (q2m o)))∧tq (!decide (q8j (q2m o)))∧tq (!decide (q8j (q2m o)))∧tq (!decide (q8j (q2m o)))∧((true=true→(!decide (q8j (q2m o)))=true→(!decide (q8j (q2m o)))=true)∧∀b:Bool,(b=bif !decide (q8j (q2m o))then !q1t o.path (ByteArray.mk #[])else false)→tq (!b)∧tq (!b)∧tq (!b)∧tq (!b)∧((!b)=true→qX1 (q2m o))∧tq (!b)∧tq (!b)∧tq (!b&& !decide (qAf (q2m o)))∧tq (!b&& !decide (qAf (q2m o)))∧tq (!b&& !decide (qAf (q2m o)))∧tq (!b&& !decide (qAf (q2m o)))∧tq (!b)∧(((!b)=true→(!b)=true→(!decide (qAf (q2m o)))=true→(!b&& !decide (qAf (q2m o)))=true)∧∀b_1:Bool,(b_1=bif !decide (qAf (q2m o))then o.data !=0 else false)→((true=true→b=false→(!b)=true)∧∀b_2:Bool,(b_2=bif b then true else b_1)→tq (!b_2)∧tq (!b_2)∧tq (!b_2)∧tq (!b_2)∧((!b_2)=true→qWK (q2m o))∧tq (!b_2)∧tq (!b_2)∧tq (!b_2&& !decide (qAy (q2m o)))∧tq (!b_2&& !decide (qAy (q2m o)))∧tq (!b_2&& !decide (qAy (q2m o)))∧tq (!b_2&& !decide (qAy (q2m o)))∧tq (!b_2)∧(((!b_2)=true→(!b_2)=true→(!decide (qAy (q2m o)))=true→(!b_2&& !decide (qAy (q2m o)))=true)∧∀b_3:Bool,(b_3=bif !decide (qAy (q2m o))then o.version !=0 else false)→((true=true→b_2=false→(!b_2)=true)∧∀b_4:Bool,(b_4=bif b_2 then true else b_3)→tq (!b_4)∧tq (!b_4)∧tq (!b_4)∧tq (!b_4)∧tq (!b_4)∧tq (!b_4&&o.kind !=3)∧tq (!b_4&&o.kind !=3)∧tq (!b_4&&o.kind !=3)∧tq (!b_4&&o.kind !=3)∧tq (!b_4&&o.kind !=3&& !TOp.seq o)∧tq (!b_4&&o.kind !=3&& !TOp.seq o)∧tq (!b_4&&o.kind !=3&& !TOp.seq o)∧tq (!b_4&&o.kind !=3)∧(((!b_4&&o.kind !=3)=true→(!b_4&&o.kind !=3)=true→o.seq=false→(!b_4&&o.kind !=3&& !TOp.seq o)=true)∧∀b_5:Bool,(b_5=bif TOp.seq o then true else o.own)→tq (!b_4)∧(((!b_4)=true→(!b_4)=true→(o.kind !=3)=true→(!b_4&&o.kind !=3)=true)∧∀b_6:Bool,(b_6=bif TOp.kind o !=3 then b_5 else false)→((true=true→b_4=false→(!b_4)=true)∧∀b_7:Bool,(b_7=bif b_4 then true else b_6)→(b_7=true→VLe (vi 1) (vi (opF o)))∧(b_7=false→qU3 (q2m o)∧(decide (q8j (q2m o))=true→qJC o.path∧((q1I o.path !=0)=true→VLe (vi (q1I o.path)) (vi (opF o)))∧((q1I o.path !=0)=false→qOG o))∧(decide (q8j (q2m o))=false→qOG o))))))))))):=by
  delta q2m;delta qOG;delta vi;simp only[q1W];refine⟨trivial,fun h=>q0I ?_,fun h=>⟨trivial,?_⟩⟩
  ·unfold opF;rw[if_pos (.inl (by simpa[okK]using h))]
  have hk:okK o.kind:=by simpa[okK]using h
  repeat (first|refine And.intro (tqI _) ?_|refine And.intro (fun _=>trivial) ?_|refine And.intro (fun _ h=>h) ?_|refine And.intro (fun h _ g=>by rw[h,g];rfl) ?_|refine And.intro (fun _ h=>by rw[h];rfl) ?_|intro b hb)
  subst_vars
  simp only[orB,xDE];have hW:(!decide (q8j o.kind)&& !decide (o.path=⟨#[]⟩)|| !decide (qAf o.kind)&&o.data !=0|| !decide (qAy o.kind)&&o.version !=0||o.kind !=3&&(o.seq||o.own))=true↔
    (¬okK o.kind∨(¬q8j o.kind∧o.path≠q1f)∨(¬qAf o.kind∧o.data≠0)∨(¬qAy o.kind∧o.version≠0)∨(o.kind≠3∧(o.seq=true∨o.own=true))):=by
   simp only[Bool.or_eq_true,Bool.and_eq_true,Bool.not_eq_true',decide_eq_true_eq,decide_eq_false_iff_not,bne_iff_ne,or_assoc,not_not_intro hk,false_or]
  refine⟨fun h=>q0I ?_,fun h=>?_⟩
  ·unfold opF;rw[if_pos (hW.1 h)]
  have hN:=fun g=>(show False from by rw[hW.2 g]at h;cases h);have rng:∀b:Bool,b=(!decide (inR o.data 0 9999)|| !decide (inR o.version (-1) 999))→(b=true→¬(inR o.data 0 9999∧inR o.version (-1) 999))∧(b=false→(inR o.data 0 9999∧inR o.version (-1) 999)):=fun b hb=>by
   rw[hb];by_cases a1:inR o.data 0 9999<;>by_cases a2:inR o.version (-1) 999<;>simp[a1,a2]
  refine⟨trivial,fun h2=>⟨trivial,fun h3=>q0I ?_,fun h3=>⟨trivial,tqI _,tqI _,tqI _,tqI _,fun _=>trivial,tqI _,fun _ h=>by rw[h];rfl,fun b hb=>⟨fun h4=>q0I ?_,fun h4=>q0I ?_⟩⟩⟩,fun h2=>⟨trivial,tqI _,tqI _,tqI _,tqI _,fun _=>trivial,tqI _,fun _ h=>by rw[h];rfl,fun b hb=>⟨fun h4=>q0I ?_,fun h4=>q0I ?_⟩⟩⟩
  ·unfold opF;rw[if_neg hN,if_neg (not_not_intro (of_decide_eq_true h2)),if_pos (by simpa using h3)]
  ·unfold opF;rw[if_neg hN,if_neg (not_not_intro (of_decide_eq_true h2)),if_neg (by simpa using h3),if_pos ((rng b hb).1 h4)]
  ·unfold opF;rw[if_neg hN,if_neg (not_not_intro (of_decide_eq_true h2)),if_neg (by simpa using h3),if_neg (not_not_intro ((rng b hb).2 h4))]
  ·exfalso;have np:=of_decide_eq_false h2;have nd:¬qAf o.kind:=fun g=>np (by unfold qAf at g;unfold q8j inR;omega);have nv:¬qAy o.kind:=fun g=>np (by unfold qAy at g;unfold q8j inR;omega);have d0:o.data=0:=Classical.byContradiction fun g=>hN (.inr (.inr (.inl ⟨nd,g⟩)));have v0:o.version=0:=Classical.byContradiction fun g=>hN (.inr (.inr (.inr (.inl ⟨nv,g⟩))));exact(rng b hb).1 h4 ⟨by rw[d0];decide,by rw[v0];decide⟩
  ·unfold opF;rw[if_neg hN,if_pos (of_decide_eq_false h2)]
 exact Eq.mp (by kernel_rfl) key
theorem x8I:q0R Tryz.prog 111 qW6:=by
 refine sob 0 Tryz.func111 fun args bin ob r bout hDe hob=>?_;unfold qW6 at hDe;split at hDe
 ·rename_i a0;cases hDe;exact okB (x5e (q0x a0) (hob.2)) x9h (args_of_vles ⟨hob.1,trivial⟩)
 ·cases hDe
@[irreducible] noncomputable def doR (s:q06) (c:Int) (o:TOp):q2E:=(doF s c o).2
@[irreducible] noncomputable def doS (s:q06) (c:Int) (o:TOp):q06:=(doF s c o).1
theorem qUn {s:q06} {c:Int} {o:TOp} {s':q06} {r:q2E} (h:doF s c o=(s',r)):doR s c o=r∧doS s c o=s':=by
 unfold doR doS;rw[h];exact⟨rfl,rfl⟩
set_option maxHeartbeats 16000000
theorem q4l {s:q06} {c:Int} {o:TOp} {s':q06} {r:q2E} (h:doF s c o=(s',r)):VLe (.tup [q0V 0 r,q0J 0 s']) (.tup [q0V 0 (doR s c o),q0J 0 (doS s c o)]):=by
 obtain⟨h1,h2⟩:=qUn h;rw[h1,h2];exact VLe.refl _
theorem do1 {s:q06} {c:Int} {o:TOp} (h:(o.kind==1)=true):doF s c o=if(q4S s.sessions c s.now).code≠0 then(s,⟨(q4S s.sessions c s.now).code,0,q1f⟩)else(⟨s.nodes,(q4S s.sessions c s.now).sessions,s.now,s.marks⟩,⟨0,0,q1f⟩):=by
 unfold doF;rw[if_pos (eq_of_beq h)]
theorem doL {s:q06} {c:Int} {o:TOp} (h:(o.kind==1)=false):doF s c o=if¬q6c s.sessions c s.now=true then(s,⟨9,0,q1f⟩)
 else if o.kind=2 then(⟨q2A s.nodes [c],q2u s.sessions c,s.now,s.marks⟩,⟨0,0,q1f⟩)
 else if o.kind=3 then q6X s (q2j s.nodes o.path o.data (if o.own=true then c else 0) o.seq) 0
 else if o.kind=4 then q6X s (q3X s.nodes o.path o.version) 0
 else if o.kind=5 then q6X s (q2P s.nodes o.path o.data o.version) (qTW s.nodes o.path)
 else(s,q4j s.nodes o):=by
 unfold doF;rw[if_neg (by simpa using h)]
theorem qQj {o:TOp} (h:opF o=0) (h2:q8j o.kind):q1I o.path=0:=Classical.byContradiction fun g=>by
 unfold opF at h;split at h
 ·cases h
 ·simp[h2,g]at h
theorem qQS {l:List q0A} (h:rising l) (i:Nat) (d:Int):rising (q5t l i d):=fun a b h1 h2=>by
 have hp:∀k,(atZ (q5t l i d) k).path=(atZ l k).path:=fun k=>by
  unfold q5t;by_cases e:k=i
  ·subst e;by_cases hk:k<l.length
   ·simp[hk]
   ·rw[List.set_eq_of_length_le (by omega)]
  ·simp[List.getElem?_set,Ne.symm e]
 rw[hp,hp];exact h a b h1 (by unfold q5t at h2;rw[List.length_set]at h2;exact h2)
theorem qHa {l:List q0A} (h:rising l) (p:ByteArray) (d v:Int):rising (q2P l p d v).nodes∧(q2P l p d v).nodes.length≤l.length:=by
 unfold q2P;have h0:rising ([]:List q0A):=fun i j _ h2=>absurd h2 (Nat.not_lt_zero j);split
 ·exact⟨h0,Nat.zero_le _⟩
 split
 ·exact⟨h0,Nat.zero_le _⟩
 split
 ·exact⟨h0,Nat.zero_le _⟩
 split
 ·exact⟨h0,Nat.zero_le _⟩
 ·refine⟨qQS h _ _,?_⟩;show(q5t _ _ _).length≤_;unfold q5t;rw[List.length_set];exact Nat.le_refl _
theorem qDF (l:List q0A) (i:Nat) (d:Int) (k:Nat):(atZ (q5t l i d) k).path=(atZ l k).path:=by
 unfold q5t;by_cases e:k=i
 ·subst e;by_cases hk:k<l.length
  ·simp[hk]
  ·rw[List.set_eq_of_length_le (by omega)]
 ·simp[List.getElem?_set,Ne.symm e]
theorem qFs (l:List q0A) (i:Nat) (d:Int):(q5t l i d).length=l.length:=by unfold q5t;rw[List.length_set]
theorem qLC (l:List q0A) (i:Nat) (d:Int) (t:ByteArray):q2U (q5t l i d) t=q2U l t:=by
 refine qDO (by rw[qFs];exact q9R) (fun k hk=>?_) fun h=>?_
 ·rw[qDF];exact of_decide_eq_true (q9e (p:=qBh t) (l:=l) hk)
 ·rw[qDF];rw[qFs]at h;exact of_decide_eq_false (qDR (p:=qBh t) (l:=l) h)
theorem qQQ (l:List q0A) (i:Nat) (d:Int) (t:ByteArray):isZ (q5t l i d) t=isZ l t:=by
 unfold isZ;rw[qLC,qDF,qFs]
theorem qHO (l:List q0A) (p:ByteArray) (v:Int):(q3X l p v).path=q1f:=by
 unfold q3X
 repeat' split
 all_goals rfl
theorem q8w (l:List q0A) (p:ByteArray) (d v:Int):((q2P l p d v).code≠0∧(q2P l p d v).nodes=[])∨(¬atN l p<0∧q2P l p d v=⟨0,q1f,q5t l (atN l p).toNat d⟩):=by
 unfold q2P;split
 ·exact .inl ⟨by decide,rfl⟩
 split
 ·exact .inl ⟨by decide,rfl⟩
 split
 ·exact .inl ⟨by decide,rfl⟩
 split
 ·exact .inl ⟨by decide,rfl⟩
 ·exact .inr ⟨by assumption,rfl⟩
theorem q7A {s:q06} {r:q16} {v:Int} (h:r.code≠0):q6X s r v=(s,⟨r.code,0,q1f⟩):=if_pos h
theorem qC0 {s:q06} {r:q16} {v:Int} (h:¬r.code≠0):q6X s r v=(⟨r.nodes,s.sessions,s.now,s.marks⟩,⟨0,v,r.path⟩):=if_neg h
theorem qM9 (l:List q07) (c:Int):(l.filter fun s=> !isS c s)=q2u l c:=by
 unfold q2u isS;congr 1;funext s;by_cases e:s.id=c<;>simp[e]
theorem bnT {x:Int} (h:(x !=0)=true):x≠0:=by simpa using h
theorem bnF {x:Int} (h:(x !=0)=false):¬x≠0:=by simpa using h
theorem x0R {s:q06} {c:Int} {o:TOp} (hr:rising s.nodes) (en:doF s c o=q6X s (q2P s.nodes o.path o.data o.version) (qTW s.nodes o.path)) (g1:¬atN s.nodes o.path<0) (g2:q2P s.nodes o.path o.data o.version=⟨0,q1f,q5t s.nodes (atN s.nodes o.path).toNat o.data⟩):
  doF s c o=(⟨(q2P s.nodes o.path o.data o.version).nodes,s.sessions,s.now,s.marks⟩,⟨0,((q2P s.nodes o.path o.data o.version).nodes.getD (q2U (q2P s.nodes o.path o.data o.version).nodes o.path) default).version,q1f⟩):=by
 have hz:isZ s.nodes o.path=true:=by
  cases hb:isZ s.nodes o.path
  ·exact absurd ((q57 hr o.path).2 hb) g1
  ·rfl
 obtain⟨q1,q2,q3⟩:=q6J hr hz;rw[en,g2];have ev:qTW s.nodes o.path=(atZ s.nodes (atN s.nodes o.path).toNat).version+1:=if_pos (by omega);show(_,(⟨0,qTW s.nodes o.path,q1f⟩:q2E))=(_,(⟨0,((q5t s.nodes (atN s.nodes o.path).toNat o.data).getD (q2U (q5t s.nodes (atN s.nodes o.path).toNat o.data) o.path) default).version,q1f⟩:q2E));rw[qLC,ev,q1];have hv:((q5t s.nodes (q2U s.nodes o.path) o.data).getD (q2U s.nodes o.path) default).version=(atZ s.nodes (q2U s.nodes o.path)).version+1:=by
  unfold q5t;simp[q2]
 rw[hv]
def xBN (s:q06):Prop:=s.nodes.length≤1000∧s.sessions.length≤1000∧s.marks.length≤1000
noncomputable def xDM (s:q06):V:=q0J 2 (s)
noncomputable def xB5:q0P:=fun args bin=>match args,bin with
 |[a0],[]=>some (VLe a0 (q0J 1 ((q0B a0)))∧xBN (q0B a0),xDM (q0B a0),[])
 |_,_=>none
noncomputable def D95:=lkR [(162,qA0),(163,qCL),(161,qIR)]
theorem xGS:q0C Tryz.prog D95:=q02 qCq (q02 qHj (q02 qQB (q04)))
noncomputable def xH6 (s:q06):=cxN D95 Tryz.f95 [0,1,2]
theorem xGZ (s:q06) (hpre:xBN s):q0d (xH6 s) Tryz.f95 1 [q0J 1 (s)] (fun rr=>VLe rr (xDM s)):=by
 have key:(VLe (q9Z s) (q0D (q01 1) 1 (q0K q03 (q9Z s)))∧qAD (q0K q03 (q9Z s)))∧(VLe (qRM s) (q0D (q00 1) 1 (q0K q05 (qRM s)))∧qCY (q0K q05 (qRM s)))∧(VLe (qP2 s) (q0D (q09 1) 1 (q0K q0H (qP2 s)))∧qF1 (q0K q0H (qP2 s)))∧VLe (V.agg [q0D (q01 1) 2 (q30 (q0K q03 (q9Z s))),q0D (q00 1) 2 (q2f (q0K q05 (qRM s))),vi s.now,q0D (q09 1) 2 (q3M (q0K q0H (qP2 s)))]) (q0J 2 s):=by
  delta qP2;delta q9Z;delta qRM;delta vi;obtain⟨h1,h2,h3⟩:=hpre;simp only[q0o,q0p,q2i];exact⟨⟨VLe.refl _,h1⟩,⟨VLe.refl _,h2⟩,⟨VLe.refl _,h3⟩,VLe.refl _⟩
 exact Eq.mp (by kernel_rfl) key
theorem xHG:q0R Tryz.prog 95 xB5:=by
 refine sob 1 Tryz.func95 fun args bin ob r bout hDe hob=>?_;unfold xB5 at hDe;split at hDe
 ·rename_i a0;cases hDe;exact okB (xGZ (q0B a0) (hob.2)) xGS (args_of_vles ⟨hob.1,trivial⟩)
 ·cases hDe
def qXa (s:q06) (c:Int) (o:TOp):Prop:=q1A s.nodes=0∧q1q s.sessions=0∧inR s.now 0 9000∧inR c 1 9∧opF o=0
noncomputable def x3x (s:q06) (c:Int) (o:TOp):V:=.tup [q0V 0 (doR s c o),q0J 0 (doS s c o)]
noncomputable def qYK:q0P:=fun args bin=>match args,bin with
 |[a0,.int .i64 a1,a2],[]=>some (VLe a0 (q0J 1 ((q0B a0)))∧VLe a2 (q0Q 1 ((q0a a2)))∧qXa (q0B a0) a1 (q0a a2),x3x (q0B a0) a1 (q0a a2),[])
 |_,_=>none
noncomputable def xDi:Nat→Option (Fl×q0P):=lk [(177,(.ro,qR8)),(178,(.ro,qSC)),(163,(.ro,qCL)),(179,(.mv,qCp)),(180,(.ro,qPg)),(159,(.ro,qOo)),(181,(.ro,qNx)),(182,(.ro,qPw)),(183,(.ro,qQN)),(184,(.ro,qGP)),(185,(.ro,qXu)),(186,(.ro,qXU)),(187,(.ro,qRH))]
theorem xAi:q0C Tryz.prog xDi:=q02 x0X (q02 x3s (q02 qHj (q02 qRD (q02 qX3 (q02 x3r (q02 x3z (q02 x35 (q02 x1q (q02 qJp (q02 x8K (q02 x5X (q02 qXo (q04)))))))))))))
noncomputable def x6D (s:q06) (c:Int) (o:TOp):=cxN xDi Tryz.f109 [0,1,2,3,4,5,6,7,8,9,10,11,12,13,14,15,18,27,41,45,50,67,71,81,91,105,120,129,148,156,174]
def qBT (s:q06):Prop:=VLe (q0D (q01 1) 1 s.nodes) (q0D (q01 1) 1 (q1F s))
noncomputable def q1z (o:TOp):ByteArray:=o.path
noncomputable def qCz (s:q06) (o:TOp):q16:=q6h (q1F s) (q1z o) o.version
noncomputable def q49 (s:q06) (c:Int) (o:TOp):V:=V.tup [q0V 0 (doR s c o),q0J 0 (doS s c o)]
noncomputable def q11 (s:q06):Int:=s.now
noncomputable def qEG (s:q06) (o:TOp):q16:=q6s (q1F s) (q1z o) o.data o.version
noncomputable def q9K (s:q06) (o:TOp):List q0A:=(qEG s o).nodes
noncomputable def q7Q (s:q06) (o:TOp):List q0A:=q0K q03 (q0D (q01 1) 1 (q9K s o))
def qK0 (s:q06) (c:Int) (o:TOp):Prop:=((qEG s o).code !=0)=true→VLe (V.tup [V.agg [vi (qEG s o).code,vi 0,V.str (ByteArray.mk #[])],q0J 0 s]) (q49 s c o)
noncomputable def qIq (s:q06) (o:TOp):List V:=[q0D (q01 1) 0 (q9K s o),q0D (q00 1) 0 s.sessions,vi (q11 s),q0D (q09 1) 0 s.marks]
noncomputable def qJ6 (s:q06) (o:TOp):Bool:=(if atN (q1F s) (q1z o)<(0:Int)then q2I.mk (4:Int) []else q2I.mk (0:Int) (q1p (q1F s) (q1z o))).code !=0
noncomputable def qCX (s:q06) (o:TOp):Bool:=(if atN (q1F s) (q1z o)<(0:Int)then q16.mk (4:Int) q1f []else q16.mk (0:Int) q1f [atZ (q1F s) (atN (q1F s) (q1z o)).toNat]).code !=0
def qLq (s:q06) (c:Int) (o:TOp):Prop:=(qCX s o)=true→VLe (V.tup [V.agg [vi (if atN (q1F s) (q1z o)<(0:Int)then q16.mk (4:Int) q1f []else q16.mk (0:Int) q1f [atZ (q1F s) (atN (q1F s) (q1z o)).toNat]).code,vi 0,V.str (ByteArray.mk #[])],q0J 0 s]) (q49 s c o)
noncomputable def qIA (s:q06) (o:TOp):List q0A:=(if atN (q1F s) (q1z o)<(0:Int)then q16.mk (4:Int) q1f []else q16.mk (0:Int) q1f [atZ (q1F s) (atN (q1F s) (q1z o)).toNat]).nodes
def qGF (s:q06) (o:TOp):Prop:=(0:Int)≤(0:Int)∧0<(↑ (qIA s o).length:Int)
noncomputable def qB7 (s:q06) (o:TOp):V:=q01 1 ((qIA s o).getD 0 default)
def qQ5 (s:q06) (c:Int) (o:TOp):Prop:=(o.kind==3)=false→((o.kind==4)=true→(qBT s∧qOj (q1F s) (q1z o) o.version)∧(((qCz s o).code !=0)=true→VLe (V.tup [V.agg [vi (qCz s o).code,vi 0,V.str (ByteArray.mk #[])],q0J 0 s]) (q49 s c o))∧(((qCz s o).code !=0)=false→VLe (V.tup [V.agg [vi 0,vi 0,V.str (ByteArray.mk #[])],V.agg [q0D (q01 1) 0 (qCz s o).nodes,q0D (q00 1) 0 s.sessions,vi (q11 s),q0D (q09 1) 0 s.marks]]) (q49 s c o)))∧((o.kind==4)=false→((o.kind==5)=true→(qBT s∧qQa (q1F s) (q1z o) o.data o.version)∧(VLe (q0D (q01 1) 1 (q9K s o)) (q0D (q01 1) 1 (q7Q s o))∧q9j (q7Q s o) (q1z o))∧(isZ (q7Q s o) (q1z o)=true→(0≤(↑ (q2U (q7Q s o) (q1z o)):Int)∧(↑ (q2U (q7Q s o) (q1z o)):Int)<(↑ (q9K s o).length:Int))∧(↑ (q2U (q7Q s o) (q1z o)):Int).toNat<(q9K s o).length∧qK0 s c o∧(((qEG s o).code !=0)=false→VLe (V.tup [V.agg [vi 0,vi ((q9K s o).getD (↑ (q2U (q7Q s o) (q1z o)):Int).toNat default).version,V.str (ByteArray.mk #[])],V.agg (qIq s o)]) (q49 s c o)))∧(isZ (q7Q s o) (q1z o)=false→qK0 s c o∧(((qEG s o).code !=0)=false→VLe (V.tup [V.agg [vi 0,vi 0,V.str (ByteArray.mk #[])],V.agg (qIq s o)]) (q49 s c o))))∧((o.kind==5)=false→((o.kind==7)=true→(qBT s∧qVp (q1F s) (q1z o))∧((qJ6 s o)=true→VLe (V.tup [V.agg [vi (if atN (q1F s) (q1z o)<(0:Int)then q2I.mk (4:Int) []else q2I.mk (0:Int) (q1p (q1F s) (q1z o))).code,vi 0,V.str (ByteArray.mk #[])],q0J 0 s]) (q49 s c o))∧((qJ6 s o)=false→VLe (V.tup [V.agg [vi 0,vi (↑ (if atN (q1F s) (q1z o)<(0:Int)then q2I.mk (4:Int) []else q2I.mk (0:Int) (q1p (q1F s) (q1z o))).texts.length:Int),V.str (ByteArray.mk #[])],q0J 0 s]) (q49 s c o)))∧((o.kind==7)=false→(qBT s∧qX9 (q1F s) (q1z o))∧((qCX s o)=true→qLq s c o∧((qCX s o)=false→VLe (V.tup [V.agg [vi 0,vi 0,V.str (ByteArray.mk #[])],q0J 0 s]) (q49 s c o)))∧((qCX s o)=false→((o.kind==6)=true→qGF s o∧qLq s c o∧((qCX s o)=false→VLe (V.tup [V.agg [vi 0,vi ((qIA s o).getD 0 default).data,V.str (ByteArray.mk #[])],q0J 0 s]) (q49 s c o)))∧((o.kind==6)=false→qGF s o∧(VLe (qB7 s o) (q01 1 (q03 (qB7 s o)))∧qOZ o.version (q03 (qB7 s o)))∧((!decide (o.version=(-1:Int)∨o.version=(q03 (qB7 s o)).version))=true→(((7:Int)!=(0:Int))=true→VLe (V.tup [V.agg [vi 7,vi 0,V.str (ByteArray.mk #[])],q0J 0 s]) (q49 s c o))∧(((7:Int)!=(0:Int))=false→VLe (V.tup [V.agg [vi 0,vi 0,V.str (ByteArray.mk #[])],q0J 0 s]) (q49 s c o)))∧((!decide (o.version=(-1:Int)∨o.version=(q03 (qB7 s o)).version))=false→qGF s o∧qLq s c o∧((qCX s o)=false→VLe (V.tup [V.agg [vi 0,vi ((qIA s o).getD 0 default).version,V.str (ByteArray.mk #[])],q0J 0 s]) (q49 s c o))))))))
def q5U (s:q06):Prop:=VLe (q0D (q00 1) 1 s.sessions) (q0D (q00 1) 1 (q1G s))
noncomputable def qCl (s:q06):List q07:=q0K q05 (q0D (q00 1) 1 (q2f (q1G s)))
def qRZ (s:q06) (c:Int) (o:TOp):Prop:=(o.kind==2)=true→(q5U s∧qCY (q1G s))∧((0=0∧2=2∧100=100∧((q2f (q1G s)).length=(q2f (q1G s)).length∧∀i:Nat,i<(q2f (q1G s)).length→ELe (q00 1 ((q2f (q1G s)).getD i default)) (q00 1 ((qCl s).getD i default))))∧VLe (V.ptr [vi c] 0 1) (q1n 1 (q0h (V.ptr [vi c] 0 1)))∧qDW (qCl s) (q0h (V.ptr [vi c] 0 1)))∧(qBT s∧VLe (V.sl 1 (q3C [vi c]) 1) (q0D q42 1 (q0K q2G (V.sl 1 (q3C [vi c]) 1)))∧qOQ (q1F s) (q0K q2G (V.sl 1 (q3C [vi c]) 1)))∧(((0:Int)!=(0:Int))=true→VLe (V.tup [V.agg [vi 0,vi 0,V.str (ByteArray.mk #[])],V.agg [q0D (q01 1) 0 s.nodes,q0D (q00 1) 0 (q39 (qCl s) (q0h (V.ptr [vi c] 0 1))),vi (q11 s),q0D (q09 1) 0 s.marks]]) (q49 s c o))∧(((0:Int)!=(0:Int))=false→VLe (V.tup [V.agg [vi 0,vi 0,V.str (ByteArray.mk #[])],V.agg [q0D (q01 1) 0 (qCy (q1F s) (q0K q2G (V.sl 1 (q3C [vi c]) 1))),q0D (q00 1) 0 (q39 (qCl s) (q0h (V.ptr [vi c] 0 1))),vi (q11 s),q0D (q09 1) 0 s.marks]]) (q49 s c o))
noncomputable def qAg (s:q06) (o:TOp):q16:=q5E (q1F s) (q1z o) o.data (0:Int) o.seq
noncomputable def qAa (s:q06) (c:Int) (o:TOp):q16:=q5E (q1F s) (q1z o) o.data c o.seq
noncomputable def qAp (s:q06) (c:Int):q12:=q82 (q1G s) c (q11 s)
theorem x8h (s:q06) (c:Int) (o:TOp) (hpre:qXa s c o):q0d (x6D s c o) Tryz.f109 0 [q0J 1 (s),.int .i64 (c),q0Q 1 (o)] (fun rr=>VLe rr (x3x s c o)):=by
 have key:((o.kind==1)=true→(q5U s∧qRc (q1G s) c (q11 s))∧(((qAp s c).code==0)=true→VLe (V.tup [V.agg [vi (qAp s c).code,vi 0,V.str (ByteArray.mk #[])],V.agg [q0D (q01 1) 0 s.nodes,q0D (q00 1) 0 (qAp s c).sessions,vi (q11 s),q0D (q09 1) 0 s.marks]]) (q49 s c o))∧(((qAp s c).code==0)=false→VLe (V.tup [V.agg [vi (qAp s c).code,vi 0,V.str (ByteArray.mk #[])],q0J 0 s]) (q49 s c o)))∧((o.kind==1)=false→(q5U s∧qSy (q1G s) c (q11 s))∧((!q6c (q1G s) c (q11 s))=true→VLe (V.tup [V.agg [vi 9,vi 0,V.str (ByteArray.mk #[])],q0J 0 s]) (q49 s c o))∧((!q6c (q1G s) c (q11 s))=false→(o.own=true→qRZ s c o∧((o.kind==2)=false→((o.kind==3)=true→(qBT s∧qLr (q1F s) (q1z o) o.data c o.seq)∧(((qAa s c o).code !=0)=true→VLe (V.tup [V.agg [vi (qAa s c o).code,vi 0,V.str (ByteArray.mk #[])],q0J 0 s]) (q49 s c o))∧(((qAa s c o).code !=0)=false→VLe (V.tup [V.agg [vi 0,vi 0,V.str (qAa s c o).path],V.agg [q0D (q01 1) 0 (qAa s c o).nodes,q0D (q00 1) 0 s.sessions,vi (q11 s),q0D (q09 1) 0 s.marks]]) (q49 s c o)))∧qQ5 s c o))∧(o.own=false→qRZ s c o∧((o.kind==2)=false→((o.kind==3)=true→(qBT s∧qLr (q1F s) (q1z o) o.data (0:Int) o.seq)∧(((qAg s o).code !=0)=true→VLe (V.tup [V.agg [vi (qAg s o).code,vi 0,V.str (ByteArray.mk #[])],q0J 0 s]) (q49 s c o))∧(((qAg s o).code !=0)=false→VLe (V.tup [V.agg [vi 0,vi 0,V.str (qAg s o).path],V.agg [q0D (q01 1) 0 (qAg s o).nodes,q0D (q00 1) 0 s.sessions,vi (q11 s),q0D (q09 1) 0 s.marks]]) (q49 s c o)))∧qQ5 s c o)))):=by
  delta qAp;delta qAa;delta qAg;delta qRZ;delta qCl;delta q5U;delta q1G;delta qQ5;delta qB7;delta qGF;delta qIA;delta qLq;delta qCX;delta qJ6;delta qIq;delta qK0;delta q7Q;delta q9K;delta qEG;delta q11;delta q49;delta qCz;delta q1z;delta qBT;delta q1F;delta vi;obtain⟨ht,hs,hnow,hc,ho⟩:=hpre;obtain⟨hl,hr,hn⟩:=q2J ht;have hk:=q4T hs;have hsl:=hk.1;have ew:q0K q2G (.sl 1 (q3C [.int .i64 c]) 1)=[c]:=rfl;simp only[q0p,q0o,q1R,ew,Int.toNat_natCast,qRq];have hnl:s.nodes.length≤1000:=by omega
  have hsl2:s.sessions.length≤1000:=by omega
  refine⟨fun k1=>⟨⟨VLe.refl _,hs,hc,hnow⟩,fun h=>?_,fun h=>?_⟩,fun k1=>⟨⟨VLe.refl _,hk,hc⟩,fun h=>?_,fun hlv=>?_⟩⟩
  ·have e:doF s c o=(⟨s.nodes,(q4S s.sessions c s.now).sessions,s.now,s.marks⟩,⟨(q4S s.sessions c s.now).code,0,q1f⟩):=by
    have e0:(q4S s.sessions c s.now).code=0:=eq_of_beq h;rw[do1 k1,if_neg (not_not_intro e0),e0]
   exact q4l e
  ·have e:doF s c o=(s,⟨(q4S s.sessions c s.now).code,0,q1f⟩):=by
    have e0:(q4S s.sessions c s.now).code≠0:=fun g=>by
     have h2:((q4S s.sessions c s.now).code==0)=false:=h;rw[g]at h2;cases h2
    rw[do1 k1,if_pos e0]
   exact q4l e
  ·have e:doF s c o=(s,⟨9,0,q1f⟩):=by rw[doL k1,if_pos (by simpa using h)]
   exact q4l e
  have lv:¬¬q6c s.sessions c s.now=true:=by simpa using hlv
  have dL:=doL (s:=s) (c:=c) k1;rw[if_neg lv]at dL;have okk:okK o.kind:=by
   unfold opF at ho;split at ho
   ·cases ho
   ·rename_i g;exact Classical.byContradiction fun g2=>g (.inl g2)
  unfold okK inR at okk;have hp:3≤o.kind→q1I o.path=0:=fun g=>qQj ho (by unfold q8j inR;omega);have main:∀w,(if o.own=true then c else 0)=w→(VLe (q0D (q00 1) 1 s.sessions) (q0D (q00 1) 1 s.sessions)):=fun _ _=>VLe.refl _;refine⟨fun ow=>?_,fun ow=>?_⟩
  all_goals rw[ow]at dL
  all_goals simp only[if_true,Bool.false_eq_true,if_false]at dL
  all_goals
   refine⟨fun k2=>⟨⟨VLe.refl _,hsl2⟩,⟨⟨trivial,trivial,trivial,trivial,fun i hi=>ELe.refl _⟩,VLe.refl _,hsl2⟩,⟨VLe.refl _,q96 (fun i hi=>by have:i=0:=(by omega);subst this;exact ELe.refl _) (.inl rfl),hnl,by show 1≤1000;omega⟩,fun h=>absurd h (by decide),fun _=>?_⟩,fun k2=>⟨fun k3=>?_,fun k3=>⟨fun k4=>?_,fun k4=>⟨fun k5=>?_,fun k5=>⟨fun k7=>?_,fun k7=>?_⟩⟩⟩⟩⟩
  all_goals first|have n2:¬o.kind=2:=(by simpa using k2)|skip
  all_goals first|have n3:¬o.kind=3:=(by simpa using k3)|skip
  all_goals first|have n4:¬o.kind=4:=(by simpa using k4)|skip
  all_goals first|have n5:¬o.kind=5:=(by simpa using k5)|skip
  all_goals first|have n7:¬o.kind=7:=(by simpa using k7)|skip
  ·have e:doF s c o=(⟨q2A s.nodes [c],q2u s.sessions c,s.now,s.marks⟩,⟨0,0,q1f⟩):=by rw[dL,if_pos (eq_of_beq k2)]
   rw[←qM9]at e;exact q4l e
  ·refine⟨⟨VLe.refl _,ht,hp (by have:=eq_of_beq k3;omega)⟩,fun h=>?_,fun h=>?_⟩
   ·have e:doF s c o=(s,⟨(q2j s.nodes o.path o.data c o.seq).code,0,q1f⟩):=by rw[dL,if_neg n2,if_pos (eq_of_beq k3),q7A (r:=(q2j s.nodes o.path o.data c o.seq)) (bnT h)]
    exact q4l e
   ·have e:doF s c o=(⟨(q2j s.nodes o.path o.data c o.seq).nodes,s.sessions,s.now,s.marks⟩,⟨0,0,(q2j s.nodes o.path o.data c o.seq).path⟩):=by rw[dL,if_neg n2,if_pos (eq_of_beq k3),qC0 (r:=(q2j s.nodes o.path o.data c o.seq)) (bnF h)]
    exact q4l e
  ·refine⟨⟨VLe.refl _,ht,hp (by have:=eq_of_beq k4;omega)⟩,fun h=>?_,fun h=>?_⟩
   ·have e:doF s c o=(s,⟨(q3X s.nodes o.path o.version).code,0,q1f⟩):=by rw[dL,if_neg n2,if_neg n3,if_pos (eq_of_beq k4),q7A (r:=(q3X s.nodes o.path o.version)) (bnT h)]
    exact q4l e
   ·have e:doF s c o=(⟨(q3X s.nodes o.path o.version).nodes,s.sessions,s.now,s.marks⟩,⟨0,0,(q3X s.nodes o.path o.version).path⟩):=by rw[dL,if_neg n2,if_neg n3,if_pos (eq_of_beq k4),qC0 (r:=(q3X s.nodes o.path o.version)) (bnF h)]
    rw[qHO]at e;exact q4l e
  ·have hset:=qHa hr o.path o.data o.version;have en:doF s c o=q6X s (q2P s.nodes o.path o.data o.version) (qTW s.nodes o.path):=by rw[dL,if_neg n2,if_neg n3,if_neg n4,if_pos (eq_of_beq k5)]
   have bad:(q2P s.nodes o.path o.data o.version).code≠0→doF s c o=(s,⟨(q2P s.nodes o.path o.data o.version).code,0,q1f⟩):=fun h=>by rw[en,q7A h]
   refine⟨⟨VLe.refl _,ht,hp (by have:=eq_of_beq k5;omega)⟩,⟨VLe.refl _,hset.1,by show(q2P s.nodes o.path o.data o.version).nodes.length≤1000;have:=hset.2;omega⟩,fun hz=>⟨⟨by omega,?_⟩,(of_decide_eq_true hz).1,fun h=>q4l (bad (bnT h)),fun h=>?_⟩,fun hz=>⟨fun h=>q4l (bad (bnT h)),fun h=>?_⟩⟩
   ·have:=(of_decide_eq_true hz).1;exact Int.ofNat_lt.2 this
   ·rcases q8w s.nodes o.path o.data o.version with⟨g,_⟩|⟨g1,g2⟩
    ·exact absurd g (bnF h)
    ·exact q4l (x0R hr en g1 g2)
   ·rcases q8w s.nodes o.path o.data o.version with⟨g,_⟩|⟨g1,g2⟩
    ·exact absurd g (bnF h)
    ·have hz2:isZ (q2P s.nodes o.path o.data o.version).nodes o.path=false:=hz;rw[g2]at hz2;rw[qQQ]at hz2;exact absurd ((q57 hr o.path).2 hz2) g1
  ·have er:doF s c o=(s,q4j s.nodes o):=by rw[dL,if_neg n2,if_neg n3,if_neg n4,if_neg n5]
   have pp:=hp (by have:=eq_of_beq k7;omega);by_cases ax:atN s.nodes o.path<0
   ·simp only[if_pos ax];have e:doF s c o=(s,⟨4,0,q1f⟩):=by rw[er];unfold q4j;rw[if_pos ax]
    exact⟨⟨VLe.refl _,ht,pp⟩,fun _=>q4l e,fun h=>absurd h (by decide)⟩
   ·simp only[if_neg ax];have e:doF s c o=(s,⟨0,(q1p s.nodes o.path).length,q1f⟩):=by rw[er];unfold q4j;rw[if_neg ax,if_neg (by have:=eq_of_beq k7;omega),if_pos (eq_of_beq k7)]
    exact⟨⟨VLe.refl _,ht,pp⟩,fun h=>absurd h (by decide),fun _=>q4l e⟩
  ·have er:doF s c o=(s,q4j s.nodes o):=by rw[dL,if_neg n2,if_neg n3,if_neg n4,if_neg n5]
   have n1:¬o.kind=1:=by simpa using k1
   have pp:=hp (by omega);by_cases ax:atN s.nodes o.path<0
   ·simp only[if_pos ax];have e:doF s c o=(s,⟨4,0,q1f⟩):=by rw[er];unfold q4j;rw[if_pos ax]
    exact⟨⟨VLe.refl _,ht,pp⟩,fun _=>⟨fun _=>q4l e,fun h=>absurd h (by decide)⟩,fun h=>absurd h (by decide)⟩
   ·simp only[if_neg ax,List.getD_cons_zero];refine⟨⟨VLe.refl _,ht,pp⟩,fun h=>absurd h (by decide),fun _=>⟨fun k6=>⟨⟨by decide,by show(0:Int)<1;decide⟩,fun h=>absurd h (by decide),fun _=>?_⟩,fun k6=>⟨⟨by decide,by show(0:Int)<1;decide⟩,⟨VLe.refl _,trivial⟩,fun h=>⟨fun _=>?_,fun h=>absurd h (by decide)⟩,fun h=>⟨⟨by decide,by show(0:Int)<1;decide⟩,fun h=>absurd h (by decide),fun _=>?_⟩⟩⟩⟩
    ·have e:doF s c o=(s,⟨0,(atZ s.nodes (atN s.nodes o.path).toNat).data,q1f⟩):=by rw[er];unfold q4j;rw[if_neg ax,if_pos (eq_of_beq k6)]
     exact q4l e
    ·have e:doF s c o=(s,⟨7,0,q1f⟩):=by
      rw[er];unfold q4j;rw[if_neg ax,if_neg (by simpa using k6),if_neg n7,if_pos (by simpa using h)]
     exact q4l e
    ·have e:doF s c o=(s,⟨0,(atZ s.nodes (atN s.nodes o.path).toNat).version,q1f⟩):=by
      have h2:=qMt h;rw[er];unfold q4j;rw[if_neg ax,if_neg (by simpa using k6),if_neg n7,if_neg (fun g=>h2.elim g.1 g.2)]
     exact q4l e
  ·have e:doF s c o=(⟨q2A s.nodes [c],q2u s.sessions c,s.now,s.marks⟩,⟨0,0,q1f⟩):=by rw[dL,if_pos (eq_of_beq k2)]
   rw[←qM9]at e;exact q4l e
  ·refine⟨⟨VLe.refl _,ht,hp (by have:=eq_of_beq k3;omega)⟩,fun h=>?_,fun h=>?_⟩
   ·have e:doF s c o=(s,⟨(q2j s.nodes o.path o.data 0 o.seq).code,0,q1f⟩):=by rw[dL,if_neg n2,if_pos (eq_of_beq k3),q7A (r:=(q2j s.nodes o.path o.data 0 o.seq)) (bnT h)]
    exact q4l e
   ·have e:doF s c o=(⟨(q2j s.nodes o.path o.data 0 o.seq).nodes,s.sessions,s.now,s.marks⟩,⟨0,0,(q2j s.nodes o.path o.data 0 o.seq).path⟩):=by rw[dL,if_neg n2,if_pos (eq_of_beq k3),qC0 (r:=(q2j s.nodes o.path o.data 0 o.seq)) (bnF h)]
    exact q4l e
  ·refine⟨⟨VLe.refl _,ht,hp (by have:=eq_of_beq k4;omega)⟩,fun h=>?_,fun h=>?_⟩
   ·have e:doF s c o=(s,⟨(q3X s.nodes o.path o.version).code,0,q1f⟩):=by rw[dL,if_neg n2,if_neg n3,if_pos (eq_of_beq k4),q7A (r:=(q3X s.nodes o.path o.version)) (bnT h)]
    exact q4l e
   ·have e:doF s c o=(⟨(q3X s.nodes o.path o.version).nodes,s.sessions,s.now,s.marks⟩,⟨0,0,(q3X s.nodes o.path o.version).path⟩):=by rw[dL,if_neg n2,if_neg n3,if_pos (eq_of_beq k4),qC0 (r:=(q3X s.nodes o.path o.version)) (bnF h)]
    rw[qHO]at e;exact q4l e
  ·have hset:=qHa hr o.path o.data o.version;have en:doF s c o=q6X s (q2P s.nodes o.path o.data o.version) (qTW s.nodes o.path):=by rw[dL,if_neg n2,if_neg n3,if_neg n4,if_pos (eq_of_beq k5)]
   have bad:(q2P s.nodes o.path o.data o.version).code≠0→doF s c o=(s,⟨(q2P s.nodes o.path o.data o.version).code,0,q1f⟩):=fun h=>by rw[en,q7A h]
   refine⟨⟨VLe.refl _,ht,hp (by have:=eq_of_beq k5;omega)⟩,⟨VLe.refl _,hset.1,by show(q2P s.nodes o.path o.data o.version).nodes.length≤1000;have:=hset.2;omega⟩,fun hz=>⟨⟨by omega,?_⟩,(of_decide_eq_true hz).1,fun h=>q4l (bad (bnT h)),fun h=>?_⟩,fun hz=>⟨fun h=>q4l (bad (bnT h)),fun h=>?_⟩⟩
   ·have:=(of_decide_eq_true hz).1;exact Int.ofNat_lt.2 this
   ·rcases q8w s.nodes o.path o.data o.version with⟨g,_⟩|⟨g1,g2⟩
    ·exact absurd g (bnF h)
    ·exact q4l (x0R hr en g1 g2)
   ·rcases q8w s.nodes o.path o.data o.version with⟨g,_⟩|⟨g1,g2⟩
    ·exact absurd g (bnF h)
    ·have hz2:isZ (q2P s.nodes o.path o.data o.version).nodes o.path=false:=hz;rw[g2]at hz2;rw[qQQ]at hz2;exact absurd ((q57 hr o.path).2 hz2) g1
  ·have er:doF s c o=(s,q4j s.nodes o):=by rw[dL,if_neg n2,if_neg n3,if_neg n4,if_neg n5]
   have pp:=hp (by have:=eq_of_beq k7;omega);by_cases ax:atN s.nodes o.path<0
   ·simp only[if_pos ax];have e:doF s c o=(s,⟨4,0,q1f⟩):=by rw[er];unfold q4j;rw[if_pos ax]
    exact⟨⟨VLe.refl _,ht,pp⟩,fun _=>q4l e,fun h=>absurd h (by decide)⟩
   ·simp only[if_neg ax];have e:doF s c o=(s,⟨0,(q1p s.nodes o.path).length,q1f⟩):=by rw[er];unfold q4j;rw[if_neg ax,if_neg (by have:=eq_of_beq k7;omega),if_pos (eq_of_beq k7)]
    exact⟨⟨VLe.refl _,ht,pp⟩,fun h=>absurd h (by decide),fun _=>q4l e⟩
  ·have er:doF s c o=(s,q4j s.nodes o):=by rw[dL,if_neg n2,if_neg n3,if_neg n4,if_neg n5]
   have n1:¬o.kind=1:=by simpa using k1
   have pp:=hp (by omega);by_cases ax:atN s.nodes o.path<0
   ·simp only[if_pos ax];have e:doF s c o=(s,⟨4,0,q1f⟩):=by rw[er];unfold q4j;rw[if_pos ax]
    exact⟨⟨VLe.refl _,ht,pp⟩,fun _=>⟨fun _=>q4l e,fun h=>absurd h (by decide)⟩,fun h=>absurd h (by decide)⟩
   ·simp only[if_neg ax,List.getD_cons_zero];refine⟨⟨VLe.refl _,ht,pp⟩,fun h=>absurd h (by decide),fun _=>⟨fun k6=>⟨⟨by decide,by show(0:Int)<1;decide⟩,fun h=>absurd h (by decide),fun _=>?_⟩,fun k6=>⟨⟨by decide,by show(0:Int)<1;decide⟩,⟨VLe.refl _,trivial⟩,fun h=>⟨fun _=>?_,fun h=>absurd h (by decide)⟩,fun h=>⟨⟨by decide,by show(0:Int)<1;decide⟩,fun h=>absurd h (by decide),fun _=>?_⟩⟩⟩⟩
    ·have e:doF s c o=(s,⟨0,(atZ s.nodes (atN s.nodes o.path).toNat).data,q1f⟩):=by rw[er];unfold q4j;rw[if_neg ax,if_pos (eq_of_beq k6)]
     exact q4l e
    ·have e:doF s c o=(s,⟨7,0,q1f⟩):=by
      rw[er];unfold q4j;rw[if_neg ax,if_neg (by simpa using k6),if_neg n7,if_pos (by simpa using h)]
     exact q4l e
    ·have e:doF s c o=(s,⟨0,(atZ s.nodes (atN s.nodes o.path).toNat).version,q1f⟩):=by
      have h2:=qMt h;rw[er];unfold q4j;rw[if_neg ax,if_neg (by simpa using k6),if_neg n7,if_neg (fun g=>h2.elim g.1 g.2)]
     exact q4l e
 exact Eq.mp (by kernel_rfl) key
theorem x8S:q0R Tryz.prog 109 qYK:=by
 refine sob 0 Tryz.func109 fun args bin ob r bout hDe hob=>?_;unfold qYK at hDe;split at hDe
 ·rename_i a0 a1 a2;cases hDe;exact okB (x8h (q0B a0) a1 (q0a a2) (hob.2.2)) xAi (args_of_vles ⟨hob.1,VLe.refl _,hob.2.1,trivial⟩)
 ·cases hDe
def qQy (l:List q07) (id:Int):Prop:=l.length≤maxLen
noncomputable def x1D (l:List q07) (id:Int):V:=.int .i64 (sAt l id)
noncomputable def qOS:q0P:=fun args bin=>match args,bin with
 |[a0,.int .i64 a1],[]=>some (VLe a0 (q0D (q00 1) 1 (((q0K q05) a0)))∧qQy ((q0K q05) a0) a1,x1D ((q0K q05) a0) a1,[])
 |_,_=>none
noncomputable def qXG (l:List q07) (id:Int):q0M:=
 ⟨Nat,fun i=>⟨[(0,q0D (q00 1) 1 l),(1,.int .i64 id),(5,.int .i64 i)],[]⟩,
  fun i=>i≤l.length∧∀j,j<i→isS id (l.getD j default)=false,fun i=>l.length-i⟩
noncomputable def x7L (l:List q07) (id:Int):Nat→Option q0M:=fun rg_=>match rg_ with
 |2=>some (qXG l id)
 |_=>none
noncomputable def xF4:=lkR []
theorem x8W:q0C Tryz.prog xF4:=q04
noncomputable def xBq (l:List q07) (id:Int):=cxL xF4 Tryz.f248 [0,1,4,5,9,18] [(2,⟨[(0,none),(1,none),(5,none)],[]⟩)] (x7L l id) []
theorem x8q (l:List q07) (id:Int) (hpre:qQy l id):q0d (xBq l id) Tryz.f248 0 [q0D (q00 1) 1 (l),.int .i64 (id)] (fun rr=>VLe rr (x1D l id)):=by
 have key:((∃x:Nat,SLe (AS.mk [(0,q0D (q00 1) 1 l),(1,vi id),(5,vi 0)] []) (AS.mk [(0,q0D (q00 1) 1 l),(1,vi id),(5,vi (↑x:Int))] [])∧(x≤l.length∧∀j:Nat,j<x→isS id (l.getD j default)=false))∧∀x:Nat,(x≤l.length∧∀j:Nat,j<x→isS id (l.getD j default)=false)→(decide ((↑x:Int)<(↑ l.length:Int))=true→(0≤(↑x:Int)∧(↑x:Int)<(↑ l.length:Int))∧(((l.getD (↑x:Int).toNat default).id==id)=true→VLe (vi (↑x:Int)) (vi (sAt l id)))∧(((l.getD (↑x:Int).toNat default).id==id)=false→(inK IntKind.i64 ((↑x:Int)+1)∧∃y:Nat,SLe (AS.mk [(0,q0D (q00 1) 1 l),(1,vi id),(5,vi ((↑x:Int)+1))] []) (AS.mk [(0,q0D (q00 1) 1 l),(1,vi id),(5,vi (↑y:Int))] [])∧(y≤l.length∧∀j:Nat,j<y→isS id (l.getD j default)=false)∧l.length-y<l.length-x)))∧(decide ((↑x:Int)<(↑ l.length:Int))=false→VLe (vi (-1)) (vi (sAt l id)))):=by
  delta vi;have hl:l.length≤maxLen:=hpre;unfold maxLen at hl;refine⟨⟨0,SLe.refl _,by omega,fun j hj=>absurd hj (Nat.not_lt_zero j)⟩,?_⟩;rintro i ⟨hi,hj⟩;refine⟨fun h=>?_,fun h=>?_⟩
  ·have hlt:i<l.length:=by have:=of_decide_eq_true h;omega
   simp only[Int.toNat_natCast];refine⟨⟨by omega,by omega⟩,fun h2=>q0I ?_,fun h2=>⟨q0X (by omega),i+1,SLe.refl _,⟨by omega,fun j h4=>?_⟩,by omega⟩⟩
   ·exact(q3i hlt hj (decide_eq_true (eq_of_beq h2))).symm
   ·by_cases e:j=i
    ·subst e;exact decide_eq_false (by simpa using h2)
    ·exact hj j (by omega)
  ·have hge:i=l.length:=by have:=of_decide_eq_false h;omega
   subst hge;exact q0I (q4b hj).symm
 exact Eq.mp (by kernel_rfl) key
theorem qYU:q0R Tryz.prog 248 qOS:=by
 refine sob 0 Tryz.func248 fun args bin ob r bout hDe hob=>?_;unfold qOS at hDe;split at hDe
 ·rename_i a0 a1;cases hDe;exact okB (x8q ((q0K q05) a0) a1 (hob.2)) x8W (args_of_vles ⟨hob.1,VLe.refl _,trivial⟩)
 ·cases hDe
def qSM (l:List q07) (id:Int) (now:Int):Prop:=l.length≤maxLen
noncomputable def x1o (l:List q07) (id:Int) (now:Int):V:=.bool (q6c l id now)
noncomputable def qTs:q0P:=fun args bin=>match args,bin with
 |[a0,.int .i64 a1,.int .i64 a2],[]=>some (VLe a0 (q0D (q00 1) 1 (((q0K q05) a0)))∧qSM ((q0K q05) a0) a1 a2,x1o ((q0K q05) a0) a1 a2,[])
 |_,_=>none
noncomputable def xEP:=lkR [(248,qOS)]
theorem x4l:q0C Tryz.prog xEP:=q02 qYU (q04)
noncomputable def xCl (l:List q07) (id:Int) (now:Int):=cxN xEP Tryz.f194 [0,1,2,6,7]
noncomputable def qCo (l:List q07) (id:Int):Bool:=decide (sAt (q0F l) id≥(0:Int))
theorem x6k (l:List q07) (id:Int) (now:Int) (hpre:qSM l id now):q0d (xCl l id now) Tryz.f194 0 [q0D (q00 1) 1 (l),.int .i64 (id),.int .i64 (now)] (fun rr=>VLe rr (x1o l id now)):=by
 have key:(VLe (q0D (q00 1) 1 l) (q0D (q00 1) 1 (q0F l))∧qQy (q0F l) id)∧tq (qCo l id)∧tq (qCo l id)∧(decide (sAt (q0F l) id≥(0:Int))=true→(0:Int)≤sAt (q0F l) id∧sAt (q0F l) id<(↑ l.length:Int))∧tq (qCo l id)∧tq (qCo l id)∧tq (qCo l id)∧tq (qCo l id)∧((true=true→decide (sAt (q0F l) id≥(0:Int))=true→decide (sAt (q0F l) id≥(0:Int))=true)∧∀b:Bool,(b=bif decide (sAt (q0F l) id≥(0:Int))then decide ((l.getD (sAt (q0F l) id).toNat default).upto≥now)else false)→VLe (V.bool b) (V.bool (q6c l id now))):=by
  delta qCo;delta q0F;have hl:l.length≤maxLen:=hpre;have hb:sAt l id<l.length∨sAt l id=-1:=qAq _ _;simp only[q0p];refine⟨⟨VLe.refl _,hl⟩,tqI _,tqI _,fun h=>?_,tqI _,tqI _,tqI _,tqI _,fun _ h=>h,fun b hb2=>q0Z ?_⟩
  ·have:=of_decide_eq_true h;exact⟨this,by omega⟩
  ·rw[hb2];unfold q6c;by_cases a:sAt l id≥0
   ·have a2:0≤sAt l id:=a;simp[a2]
   ·have a2:¬0≤sAt l id:=a;simp[a2]
 exact Eq.mp (by kernel_rfl) key
theorem x2L:q0R Tryz.prog 194 qTs:=by
 refine sob 0 Tryz.func194 fun args bin ob r bout hDe hob=>?_;unfold qTs at hDe;split at hDe
 ·rename_i a0 a1 a2;cases hDe;exact okB (x6k ((q0K q05) a0) a1 a2 (hob.2)) x4l (args_of_vles ⟨hob.1,VLe.refl _,VLe.refl _,trivial⟩)
 ·cases hDe
@[irreducible] noncomputable def q3I (s:q06) (r:q16) (v:Int):q06:=(q6X s r v).1
@[irreducible] noncomputable def q81 (s:q06) (r:q16) (v:Int):q2E:=(q6X s r v).2
theorem qSs {l:List q07} {z:q07} {x:Nat} (hx:x≤l.length):
  BLe (.arr 2 (x+1+(l.length-x)) (q3K (x+1) (q3K x (q3K 0 (q3C []) (gL (q00 1) l)) (q3C [q00 1 z])) (q32 (gL (q00 1) l) x)) q0l)
   (.arr 2 (x+1+(l.length-x)) (gL (q00 1) (l.take x++z::l.drop x)) q0l):=by
 refine q1P (fun i hi=>?_) (Or.inl rfl);have e:q3K (x+1) (q3K x (q3K 0 (q3C []) (gL (q00 1) l)) (q3C [q00 1 z])) (q32 (gL (q00 1) l) x) i=gL (q00 1) (l.take x++z::l.drop x) i:=by
  unfold q3K gL q32;rw[qKm hx];by_cases h1:i<x
  ·rw[if_pos (by omega),if_pos h1,if_pos h1,if_neg (Nat.not_lt_zero i),Nat.sub_zero]
  ·by_cases h2:i=x
   ·subst h2;rw[if_pos (by omega),if_neg h1,if_neg h1,if_pos rfl,Nat.sub_self];rfl
   ·rw[if_neg (by omega),if_neg h1,if_neg h2];have:x+(i-(x+1))=i-1:=by omega
    rw[this]
 rw[e];exact ELe.refl _
def qYk (l:List q07) (id:Int) (now:Int):Prop:=l.length≤1000∧qMn l∧inR now 0 9000
noncomputable def q9a (l:List q07) (id:Int) (now:Int):q12:=q4S l id now
noncomputable def x0u (l:List q07) (id:Int) (now:Int):List Blk:=[(.arr 2 ((q9a l id now).sessions).length (gL (q00 1) ((q9a l id now).sessions)) q0l)]
noncomputable def x3Q (l:List q07) (id:Int) (now:Int):V:=.agg [.int .i64 ((q9a l id now).code),.osl 0 ((q9a l id now).sessions).length]
noncomputable def qX8:q0P:=fun args bin=>match args,bin with
 |[a0,.int .i64 a1,.int .i64 a2],[]=>some (VLe a0 (q0D (q00 1) 1 (((q0K q05) a0)))∧qYk ((q0K q05) a0) a1 a2,x3Q ((q0K q05) a0) a1 a2,x0u ((q0K q05) a0) a1 a2)
 |_,_=>none
noncomputable def qW5 (l:List q07) (id:Int) (now:Int):q0M:=
 ⟨Nat,fun i=>⟨[(0,q0D (q00 1) 1 l),(1,.int .i64 id),(2,.int .i64 now),(6,.oref 448 0 0),(7,.int .i64 i)],[(448,.box [.int .i64 0,.nil])]⟩,
  fun i=>i≤l.length∧∀k,k<i→(l.getD k default).id<id,fun i=>l.length-i⟩
noncomputable def x7P (l:List q07) (id:Int) (now:Int):Nat→Option q0M:=fun rg_=>match rg_ with
 |6=>some (qW5 l id now)
 |_=>none
noncomputable def xDR:=lkR [(248,qOS)]
theorem xC8:q0C Tryz.prog xDR:=q02 qYU (q04)
noncomputable def x8p (l:List q07) (id:Int) (now:Int):=cxL xDR Tryz.f193 [0,1,2,6,7,8,12,16,30] [(6,⟨[(0,none),(1,none),(2,none),(6,none),(7,none)],[(448,[])]⟩)] (x7P l id now) []
noncomputable def qLI (l:List q07) (id:Int) (now:Int):Blk:=Blk.arr 2 (q9a l id now).sessions.length (gL (q00 1) (q9a l id now).sessions) 100
noncomputable def qKI (l:List q07) (id:Int) (now:Int):V:=V.agg [vi (q9a l id now).code,V.osl 0 (q9a l id now).sessions.length]
noncomputable def qDa (l:List q07) (x:Nat):Bool:=decide ((↑x:Int)<(q0O l))
noncomputable def qIL:Nat×Blk:=(448,Blk.box [vi 0,V.nil])
theorem x6Y (l:List q07) (id:Int) (now:Int) (hpre:qYk l id now):q3h (x8p l id now) Tryz.f193 [(1,2)] [q0D (q00 1) 1 (l),.int .i64 (id),.int .i64 (now)] [] (fun rr bs=>VLe rr (x3Q l id now)∧q1y bs (x0u l id now)):=by
 have key:(VLe (q0D (q00 1) 1 l) (q0D (q00 1) 1 (q0F l))∧qQy (q0F l) id)∧(decide (sAt (q0F l) id≥(0:Int))=true→VLe (V.agg [vi 6,V.osl 0 0]) (qKI l id now)∧BLe (Blk.arr 2 0 (fun(x:Nat) ↦ V.undef) 100) (qLI l id now)∧True)∧(decide (sAt (q0F l) id≥(0:Int))=false→(decide ((q0O l)≥6)=true→VLe (V.agg [vi 2,V.osl 0 0]) (qKI l id now)∧BLe (Blk.arr 2 0 (fun(x:Nat) ↦ V.undef) 100) (qLI l id now)∧True)∧(decide ((q0O l)≥6)=false→((∃x:Nat,SLe (AS.mk [(0,q0D (q00 1) 1 l),(1,vi id),(2,vi now),(6,V.oref 448 0 0),(7,vi 0)] [qIL]) (AS.mk [(0,q0D (q00 1) 1 l),(1,vi id),(2,vi now),(6,V.oref 448 0 0),(7,vi (↑x:Int))] [qIL])∧(x≤l.length∧∀k:Nat,k<x→(l.getD k default).id<id))∧∀x:Nat,(x≤l.length∧∀k:Nat,k<x→(l.getD k default).id<id)→tq (qDa l x)∧tq (qDa l x)∧(decide ((↑x:Int)<(q0O l))=true→0≤(↑x:Int)∧(↑x:Int)<(q0O l))∧tq (qDa l x)∧tq (qDa l x)∧tq (qDa l x)∧tq (qDa l x)∧((true=true→decide ((↑x:Int)<(q0O l))=true→decide ((↑x:Int)<(q0O l))=true)∧∀b:Bool,(b=bif decide ((↑x:Int)<(q0O l))then decide ((l.getD (↑x:Int).toNat default).id<id)else false)→(b=true→(inK IntKind.i64 ((↑x:Int)+1)∧∃y:Nat,SLe (AS.mk [(0,q0D (q00 1) 1 l),(1,vi id),(2,vi now),(6,V.oref 448 0 0),(7,vi ((↑x:Int)+1))] [qIL]) (AS.mk [(0,q0D (q00 1) 1 l),(1,vi id),(2,vi now),(6,V.oref 448 0 0),(7,vi (↑y:Int))] [qIL])∧(y≤l.length∧∀k:Nat,k<y→(l.getD k default).id<id)∧l.length-y<l.length-x))∧(b=false→((0:Int)≤Option.getD none (0:Int)∧Option.getD none (0:Int)≤Option.getD (some (↑x:Int)) (q0O l)∧Option.getD (some (↑x:Int)) (q0O l)≤(q0O l))∧q13 2 l.length (gL (q00 1) l)∧0=0∧0+((Option.getD (some (↑x:Int)) (q0O l)).toNat-0)≤1073741824∧q13 2 ((Option.getD (some (↑x:Int)) (q0O l)).toNat-0) (match(motive:=Option Int→Nat→V) none with|none=>gL (q00 1) l|some val=>q32 (gL (q00 1) l) 0)∧(∀i:Nat,i<(Option.getD (some (↑x:Int)) (q0O l)).toNat-0→q86 (q00 1 (l.getD i default))=true)∧inK IntKind.i64 (now+10)∧0+((Option.getD (some (↑x:Int)) (q0O l)).toNat-0)=0+((Option.getD (some (↑x:Int)) (q0O l)).toNat-0)∧0+((Option.getD (some (↑x:Int)) (q0O l)).toNat-0)+1≤1073741824∧q13 2 1 (q3C [V.agg [vi id,vi (now+10)]])∧((0:Int)≤Option.getD (some (↑x:Int)) (0:Int)∧Option.getD (some (↑x:Int)) (0:Int)≤Option.getD none (q0O l)∧Option.getD none (q0O l)≤(q0O l))∧q13 2 l.length (gL (q00 1) l)∧0+((Option.getD (some (↑x:Int)) (q0O l)).toNat-0)+1=0+((Option.getD (some (↑x:Int)) (q0O l)).toNat-0)+1∧0+((Option.getD (some (↑x:Int)) (q0O l)).toNat-0)+1+((Option.getD none (q0O l)).toNat-(Option.getD (some (↑x:Int)) (0:Int)).toNat)≤1073741824∧q13 2 ((Option.getD none (q0O l)).toNat-(Option.getD (some (↑x:Int)) (0:Int)).toNat) (match(motive:=Option Int→Nat→V) some (↑x:Int)with|none=>gL (q00 1) l|some val=>q32 (gL (q00 1) l) (Option.getD (some (↑x:Int)) (0:Int)).toNat)∧(∀i:Nat,i<(Option.getD none (q0O l)).toNat-(Option.getD (some (↑x:Int)) (0:Int)).toNat→q86 (q00 1 (l.getD ((Option.getD (some (↑x:Int)) (0:Int)).toNat+i) default))=true)∧VLe (V.agg [vi 0,V.osl 0 (0+((Option.getD (some (↑x:Int)) (q0O l)).toNat-0)+1+((Option.getD none (q0O l)).toNat-(Option.getD (some (↑x:Int)) (0:Int)).toNat))]) (qKI l id now)∧BLe (Blk.arr 2 (0+((Option.getD (some (↑x:Int)) (q0O l)).toNat-0)+1+((Option.getD none (q0O l)).toNat-(Option.getD (some (↑x:Int)) (0:Int)).toNat)) (q3K (0+((Option.getD (some (↑x:Int)) (q0O l)).toNat-0)+1) (q3K (0+((Option.getD (some (↑x:Int)) (q0O l)).toNat-0)) (q3K 0 (q3C []) (match(motive:=Option Int→Nat→V) none with|none=>gL (q00 1) l|some val=>q32 (gL (q00 1) l) 0)) (q3C [V.agg [vi id,vi (now+10)]])) (match(motive:=Option Int→Nat→V) some (↑x:Int)with|none=>gL (q00 1) l|some val=>q32 (gL (q00 1) l) (Option.getD (some (↑x:Int)) (0:Int)).toNat)) 100) (qLI l id now)∧True))))):=by
  delta qIL;delta q0F;delta qDa;delta qKI;delta qLI;delta q0O;delta vi;obtain⟨hl,hr,hnow⟩:=hpre;unfold inR at hnow;simp only[q0p];refine⟨⟨VLe.refl _,by show l.length≤maxLen;unfold maxLen;omega⟩,fun h=>?_,fun h=>⟨fun h2=>?_,fun h2=>?_⟩⟩
  ·have e:q9a l id now=(⟨6,[]⟩:q12):=by
    show q4S l id now=_;unfold q4S;rw[if_pos (of_decide_eq_true h)]
   rw[e];exact⟨VLe.refl _,q3G _,trivial⟩
  ·have e:q9a l id now=(⟨2,[]⟩:q12):=by
    show q4S l id now=_;unfold q4S;rw[if_neg (of_decide_eq_false h),if_pos (by have:=of_decide_eq_true h2;omega)]
   rw[e];exact⟨VLe.refl _,q3G _,trivial⟩
  refine⟨⟨0,SLe.refl _,by omega,fun k hk=>absurd hk (Nat.not_lt_zero k)⟩,?_⟩;rintro i ⟨hi,hk⟩;refine⟨tqI _,tqI _,fun h=>⟨by omega,by simpa using h⟩,tqI _,tqI _,tqI _,tqI _,fun _ h=>h,fun b hb=>⟨fun h3=>?_,fun h3=>?_⟩⟩
  ·rw[h3]at hb;have hlt:i<l.length:=by
    by_cases a1:(i:Int)<l.length
    ·omega
    ·rw[decide_eq_false a1]at hb;cases hb
   have a1:decide ((i:Int)<l.length)=true:=decide_eq_true (by omega);rw[a1]at hb;have h4:(l.getD i default).id<id:=of_decide_eq_true hb.symm;refine⟨q0X (by omega),i+1,SLe.refl _,⟨by omega,fun k h5=>?_⟩,by omega⟩;by_cases e:k=i
   ·subst e;exact h4
   ·exact hk k (by omega)
  ·rw[h3]at hb;have hp:q6y l id=i:=qJD hi hk fun hlt g=>by
    have a1:decide ((i:Int)<l.length)=true:=decide_eq_true (by omega);rw[a1]at hb;exact of_decide_eq_false (p:=(l.getD i default).id<id) hb.symm g
   have e:q9a l id now=(⟨0,l.take i++⟨id,now+10⟩::l.drop i⟩:q12):=by
    show q4S l id now=_;unfold q4S;rw[if_neg (of_decide_eq_false h),if_neg (by have:=of_decide_eq_false h2;omega),hp]
   have en:(l.take i++⟨id,now+10⟩::l.drop i:List q07).length=i+1+(l.length-i):=by
    rw[List.length_append,List.length_cons,List.length_take,List.length_drop];omega
   rw[e];simp only[en,Option.getD_some,Option.getD_none,Int.toNat_natCast,Nat.sub_zero,Nat.zero_add];exact⟨⟨by omega,by omega,by omega⟩,fun k hk=>⟨rfl,rfl⟩,trivial,by omega,fun k hk=>⟨rfl,rfl⟩,fun k hk=>rfl,q0X (by omega),trivial,by omega,q5e rfl rfl,⟨by omega,by omega,by omega⟩,fun k hk=>⟨rfl,rfl⟩,trivial,by omega,fun k hk=>⟨rfl,rfl⟩,fun k hk=>rfl,VLe.refl _,qSs (z:=⟨id,now+10⟩) hi,trivial⟩
 exact Eq.mp (by kernel_rfl) key
theorem x9f:q0R Tryz.prog 193 qX8:=by
 refine q0S q77 (tpl:=[(1,2)]) Tryz.func193 rfl (by kernel_rfl) fun args bin ob r bout hDe hob=>?_;unfold qX8 at hDe;split at hDe
 ·rename_i a0 a1 a2;cases hDe;exact okQ (x6Y ((q0K q05) a0) a1 a2 (hob.2)) xC8 (args_of_vles ⟨hob.1,VLe.refl _,VLe.refl _,trivial⟩) trivial
 ·cases hDe
def qXP (s:q06) (o:TOp):Prop:=s.nodes.length≤1000∧qMN s.nodes∧6≤o.kind
noncomputable def x2u (s:q06) (o:TOp):V:=q0V 2 (q4j s.nodes o)
noncomputable def qWL:q0P:=fun args bin=>match args,bin with
 |[a0,a1],[]=>some (VLe a0 (q0b 1 ((q14 a0)))∧VLe a1 (q3f 1 ((q0x a1)))∧qXP (q14 a0) (q0x a1),x2u (q14 a0) (q0x a1),[])
 |_,_=>none
noncomputable def xFB:=lkR [(199,qH4),(255,qSG)]
theorem xAA:q0C Tryz.prog xFB:=q02 qNT (q02 x0b (q04))
noncomputable def xBX (s:q06) (o:TOp):=cxN xFB Tryz.f201 [0,1,4,5,6,17,28,29,36,64]
noncomputable def q8b (o:TOp):Bool:=o.version !=(-1)
noncomputable def qEl (s:q06) (o:TOp):V:=q0V 1 (q4j s.nodes o)
theorem xA4 (s:q06) (o:TOp) (hpre:qXP s o):q0d (xBX s o) Tryz.f201 1 [q0b 1 (s),q3f 1 (o)] (fun rr=>VLe rr (x2u s o)):=by
 have key:(VLe (q0D (q01 1) 1 s.nodes) (q0D (q01 1) 1 (q1F s))∧q9o (q1F s) o.path)∧(decide (atN (q1F s) o.path<(0:Int))=true→VLe (V.agg [vi 4,vi 0,V.str (ByteArray.mk #[])]) (qEl s o))∧(decide (atN (q1F s) o.path<(0:Int))=false→((0:Int)≤atN (q1F s) o.path∧atN (q1F s) o.path<(↑ s.nodes.length:Int))∧((o.kind==6)=true→VLe (V.agg [vi 0,vi (s.nodes.getD (atN (q1F s) o.path).toNat default).data,V.str (ByteArray.mk #[])]) (qEl s o))∧((o.kind==6)=false→((o.kind==7)=true→(VLe (q0D (q01 1) 1 s.nodes) (q0D (q01 1) 1 (q1F s))∧qSn (q1F s) o.path)∧VLe (V.agg [vi 0,vi (↑ (q1p (q1F s) o.path).length:Int),V.str (ByteArray.mk #[])]) (qEl s o))∧((o.kind==7)=false→tq (q8b o)∧tq (q8b o)∧tq (q8b o)∧tq (q8b o)∧tq (q8b o)∧tq (q8b o)∧tq (q8b o)∧tq (q8b o)∧((true=true→(q8b o)=true→(q8b o)=true)∧∀b:Bool,(b=bif TOp.version o !=(-1)then o.version !=(s.nodes.getD (atN (q1F s) o.path).toNat default).version else false)→(b=true→VLe (V.agg [vi 7,vi 0,V.str (ByteArray.mk #[])]) (qEl s o))∧(b=false→VLe (V.agg [vi 0,vi (s.nodes.getD (atN (q1F s) o.path).toNat default).version,V.str (ByteArray.mk #[])]) (qEl s o)))))):=by
  delta qEl;delta q8b;delta q1F;delta vi;obtain⟨hl,hb,hk⟩:=hpre;simp only[q0o];have hat:=qBS (l:=s.nodes) (p:=o.path);refine⟨⟨VLe.refl _,by show s.nodes.length≤maxLen;unfold maxLen;omega⟩,fun h=>?_,fun h=>⟨hat h,fun h2=>?_,fun h2=>⟨fun h3=>⟨⟨VLe.refl _,hl,hb⟩,?_⟩,fun h3=>?_⟩⟩⟩
  ·have e:q4j s.nodes o=⟨4,0,q1f⟩:=if_pos (of_decide_eq_true h);rw[e];exact VLe.refl _
  all_goals have c1:=of_decide_eq_false h
  ·have e:q4j s.nodes o=⟨0,(atZ s.nodes (atN s.nodes o.path).toNat).data,q1f⟩:=by
    unfold q4j;rw[if_neg c1,if_pos (eq_of_beq h2)]
   rw[e];exact VLe.refl _
  all_goals have c2:¬o.kind=6:=by simpa using h2
  ·have e:q4j s.nodes o=⟨0,(q1p s.nodes o.path).length,q1f⟩:=by
    unfold q4j;rw[if_neg c1,if_neg c2,if_pos (eq_of_beq h3)]
   rw[e];exact VLe.refl _
  have c3:¬o.kind=7:=by simpa using h3
  repeat (first|refine And.intro (tqI _) ?_|refine And.intro (fun _ h=>h) ?_)
  rw[x7w];intro b hb2;refine⟨fun h4=>?_,fun h4=>?_⟩
  ·rw[h4]at hb2;have e:q4j s.nodes o=⟨7,0,q1f⟩:=by
    unfold q4j;rw[if_neg c1,if_neg c2,if_neg c3,if_pos (of_decide_eq_true hb2.symm)]
   rw[e];exact VLe.refl _
  ·rw[h4]at hb2;have e:q4j s.nodes o=⟨0,(atZ s.nodes (atN s.nodes o.path).toNat).version,q1f⟩:=by
    unfold q4j;rw[if_neg c1,if_neg c2,if_neg c3,if_neg (of_decide_eq_false hb2.symm)]
   rw[e];exact VLe.refl _
 exact Eq.mp (by kernel_rfl) key
theorem xCs:q0R Tryz.prog 201 qWL:=by
 refine sob 1 Tryz.func201 fun args bin ob r bout hDe hob=>?_;unfold qWL at hDe;split at hDe
 ·rename_i a0 a1;cases hDe;exact okB (xA4 (q14 a0) (q0x a1) (hob.2.2)) xAA (args_of_vles ⟨hob.1,hob.2.1,trivial⟩)
 ·cases hDe
theorem qTz {l:List q0A} {ids:List Int} {i:Nat} (h:i<l.length) (h2:q1D ids (l.getD i default)=false):q2A (l.take (i+1)) ids=q2A (l.take i) ids++[l.getD i default]:=by
 unfold q2A;rw[q48 h,List.filter_append,qPb.2 h2]
theorem qVm {l:List q0A} {ids:List Int} {i:Nat} (h:i<l.length) (h2:q1D ids (l.getD i default)=true):q2A (l.take (i+1)) ids=q2A (l.take i) ids:=by
 unfold q2A;rw[q48 h,List.filter_append,qPb.1 h2,List.append_nil]
theorem qO0 {l:List q07} {c:Int} {i:Nat} (h:i<l.length) (h2:(l.getD i default).id≠c):q2u (l.take (i+1)) c=q2u (l.take i) c++[l.getD i default]:=by
 unfold q2u;rw[q48 h,List.filter_append];congr 1;rw[List.filter_cons_of_pos (p:=fun s:q07=>decide (s.id≠c)) (decide_eq_true h2)];rfl
theorem qTu {l:List q07} {c:Int} {i:Nat} (h:i<l.length) (h2:¬(l.getD i default).id≠c):q2u (l.take (i+1)) c=q2u (l.take i) c:=by
 unfold q2u;rw[q48 h,List.filter_append,List.filter_cons_of_neg (p:=fun s:q07=>decide (s.id≠c)) (fun g=>h2 (of_decide_eq_true g))];exact List.append_nil _
theorem qOd (l:List q07) (c:Int) (i:Nat):(q2u (l.take i) c).length≤i:=by
 have h:(q2u (l.take i) c).length≤(l.take i).length:=List.length_filter_le _ _;rw[List.length_take]at h;omega
theorem qSa (l:List q0A) (ids:List Int) (i:Nat):(q2A (l.take i) ids).length≤i:=by
 have h:(q2A (l.take i) ids).length≤(l.take i).length:=List.length_filter_le _ _;rw[List.length_take]at h;omega
theorem qSY {ids:List Int} {k:Nat} (z:q0A) (h:k<ids.length):(bif q1D (ids.take k) z then true else bif z.owner !=0 then z.owner==ids.getD k default else false)=q1D (ids.take (k+1)) z:=by
 unfold q1D;rw[q48 h];by_cases a:z.owner=0
 ·simp[a]
 have a2:(z.owner !=0)=true:=by simpa using a
 by_cases b:z.owner∈ids.take k
 ·rw[decide_eq_true (⟨a,b⟩:z.owner≠0∧z.owner∈ids.take k),decide_eq_true (⟨a,List.mem_append_left _ b⟩:z.owner≠0∧z.owner∈ids.take k++[ids.getD k default])];rfl
 have b2:decide (z.owner≠0∧z.owner∈ids.take k)=false:=decide_eq_false fun g=>b g.2;rw[b2,a2];by_cases c:z.owner=ids.getD k default
 ·rw[decide_eq_true (⟨a,List.mem_append_right _ (List.mem_singleton.2 c)⟩:z.owner≠0∧z.owner∈ids.take k++[ids.getD k default]),beq_iff_eq.2 c];rfl
 ·rw[decide_eq_false (p:=z.owner≠0∧z.owner∈ids.take k++[ids.getD k default]) fun g=>(List.mem_append.1 g.2).elim b fun g=>c (List.mem_singleton.1 g),beq_eq_false_iff_ne.2 c];rfl
noncomputable def q5x (x_1:Nat×Nat):Nat:=(↑x_1.1:Int).toNat
noncomputable def q93 (ids:List Int):Nat×V:=(1,q0D q42 1 ids)
noncomputable def qOi (l:List q0A) (ids:List Int) (y:Nat):AS:=AS.mk [(q2e l),(q93 ids),(5,V.osl 32000384 (q2A (List.take y l) ids).length),(6,vi (↑y:Int))] [(32000384,Blk.arr 5 (q2A (List.take y l) ids).length (gL (q01 1) (q2A (List.take y l) ids)) 100)]
def qLv (l:List q0A) (ids:List Int) (x_1:Nat×Nat):Prop:=(!q1D (List.take x_1.2 ids) (l.getD x_1.1 default)&&(l.getD (q5x x_1) default).owner !=0)=true
def qEY (l:List q0A) (ids:List Int) (x_1:Nat×Nat):Prop:=(!q1D (List.take x_1.2 ids) (l.getD x_1.1 default))=true
noncomputable def qEa (l:List q0A) (ids:List Int) (x_1:Nat×Nat):Nat:=(q2A (List.take x_1.1 l) ids).length
noncomputable def qLl (l:List q0A) (ids:List Int) (x_1:Nat×Nat):Nat×Blk:=(32000384,Blk.arr 5 (qEa l ids x_1) (gL (q01 1) (q2A (List.take x_1.1 l) ids)) 100)
def qKp (l:List q0A) (x_1:Nat×Nat):Prop:=0≤(↑x_1.1:Int)∧(↑x_1.1:Int)<(↑ l.length:Int)
@[irreducible] noncomputable def q83 (s:q06) (c:Int):q06:=⟨q2A s.nodes [c],q2u s.sessions c,s.now,s.marks⟩
noncomputable def q2s (s:q06):List q07:=s.sessions
noncomputable def q7x:Nat×Blk:=(320,Blk.box [V.nil,V.nil,vi 0,V.nil])
noncomputable def qGt (s:q06) (c:Int) (x:Nat):Nat:=(q2u (List.take x (q2s s)) c).length
noncomputable def q10 (s:q06):V:=q0J 1 s
theorem q7k {c:Int} {x:q16} (h:x=⟨c,q1f,[]⟩):True∧VLe (.agg [.int .i64 c,.str q1f,q0D (q01 1) 2 []]) (q0W 2 x):=by
 subst h;exact⟨trivial,VLe.refl _⟩
theorem qUf {p:ByteArray} {l:List q0A} {x:q16} (h:x=⟨0,p,l⟩):VLe (.agg [.int .i64 0,.str p,q0D (q01 1) 2 l]) (q0W 2 x):=by
 subst h;exact VLe.refl _
theorem qYb {l:List q0A} {x:Nat} (hx:x<l.length):
  VLe (.sl (x+(l.length-(x+1))) (q3K x (q3K 0 (q3C []) (gL (q01 1) l)) (q32 (gL (q01 1) l) (x+1))) 2) (q0D (q01 1) 2 (l.take x++l.drop (x+1))):=by
 have en:(l.take x++l.drop (x+1)).length=x+(l.length-(x+1)):=by
  rw[List.length_append,List.length_take,List.length_drop];omega
 unfold q0D;rw[en];refine q96 (fun i hi=>?_) (.inl rfl);have e:q3K x (q3K 0 (q3C []) (gL (q01 1) l)) (q32 (gL (q01 1) l) (x+1)) i=gL (q01 1) (l.take x++l.drop (x+1)) i:=by
  unfold q3K gL q32;rw[qTF hx];by_cases h1:i<x
  ·rw[if_pos h1,if_pos h1,if_neg (Nat.not_lt_zero i),Nat.sub_zero]
  ·rw[if_neg h1,if_neg h1];have:x+1+(i-x)=i+1:=by omega
   rw[this]
 rw[e];exact ELe.refl _
theorem qTh {l:List q0A} {i:Nat} {g:Nat→V} {z:q0A} (h:g i=q01 1 z) (ho:∀j,j≠i→g j=gL (q01 1) l j):VLe (.sl l.length g 2) (q0D (q01 1) 2 (l.set i z)):=by
 have en:(l.set i z).length=l.length:=List.length_set;unfold q0D;rw[en];refine q96 (fun j hj=>ELe.of_eq ?_) (.inl rfl);by_cases e:j=i
 ·subst e;rw[h];simp[gL,hj]
 ·rw[ho j e];simp[gL,List.getElem?_set,Ne.symm e]
def qRF (l:List q0A) (p:ByteArray) (v:Int):Prop:=l.length≤1000∧qMN l
noncomputable def qUs (l:List q0A) (p:ByteArray) (v:Int):V:=q0W 2 (q3X l p v)
noncomputable def qOE:q0P:=fun args bin=>match args,bin with
 |[a0,.str a1,.int .i64 a2],[]=>some (VLe a0 (q0D (q01 1) 1 (((q0K q03) a0)))∧qRF ((q0K q03) a0) a1 a2,qUs ((q0K q03) a0) a1 a2,[])
 |_,_=>none
noncomputable def x01:=lkR [(249,qOq),(199,qH4),(255,qSG)]
theorem x3T:q0C Tryz.prog x01:=q02 qW1 (q02 qNT (q02 x0b (q04)))
noncomputable def qZG (l:List q0A) (p:ByteArray) (v:Int):=cxN x01 Tryz.f198 [0,1,2,6,7,8,10,16,28,34]
theorem qZO (l:List q0A) (p:ByteArray) (v:Int) (hpre:qRF l p v):q0d (qZG l p v) Tryz.f198 1 [q0D (q01 1) 1 (l),.str (p),.int .i64 (v)] (fun rr=>VLe rr (qUs l p v)):=by
 have key:(q1t p (ByteArray.mk #[(47:UInt8)])=true→q6w (1:Int)∧VLe (q0W 2 (q4t (1:Int))) (q0W 2 (q3X l p v)))∧(q1t p (ByteArray.mk #[(47:UInt8)])=false→(VLe (q0D (q01 1) 1 l) (q0D (q01 1) 1 (q08 l))∧q9o (q08 l) p)∧(decide (atN (q08 l) p<(0:Int))=true→q6w (4:Int)∧VLe (q0W 2 (q4t (4:Int))) (q0W 2 (q3X l p v)))∧(decide (atN (q08 l) p<(0:Int))=false→tq (v !=(-1))∧tq (v !=(-1))∧((v !=(-1))=true→(0:Int)≤atN (q08 l) p∧atN (q08 l) p<(q0G l))∧tq (v !=(-1))∧tq (v !=(-1))∧tq (v !=(-1))∧tq (v !=(-1))∧((true=true→(v !=(-1))=true→(v !=(-1))=true)∧∀b:Bool,(b=bif v !=(-1)then v !=(l.getD (q80 l p).toNat default).version else false)→(b=true→q6w (7:Int)∧VLe (q0W 2 (q4t (7:Int))) (q0W 2 (q3X l p v)))∧(b=false→(VLe (q0D (q01 1) 1 l) (q0D (q01 1) 1 (q08 l))∧qSn (q08 l) p)∧(decide ((↑ (q1p (q08 l) p).length:Int)>0)=true→q6w (8:Int)∧VLe (q0W 2 (q4t (8:Int))) (q0W 2 (q3X l p v)))∧(decide ((↑ (q1p (q08 l) p).length:Int)>0)=false→((0:Int)≤Option.getD none (0:Int)∧Option.getD none (0:Int)≤Option.getD (some (q80 l p)) (q0G l)∧Option.getD (some (q80 l p)) (q0G l)≤(q0G l))∧q13 5 l.length (gL (q01 1) l)∧0=0∧0+((Option.getD (some (q80 l p)) (q0G l)).toNat-0)≤1073741824∧q13 5 ((Option.getD (some (q80 l p)) (q0G l)).toNat-0) (match(motive:=Option Int→Nat→V) none with|none=>gL (q01 1) l|some val=>q32 (gL (q01 1) l) 0)∧(∀i:Nat,i<(Option.getD (some (q80 l p)) (q0G l)).toNat-0→q86 (q01 1 (l.getD i default))=true)∧inK IntKind.i64 (atN (q08 l) p+(1:Int))∧((0:Int)≤Option.getD (some (atN (q08 l) p+(1:Int))) (0:Int)∧Option.getD (some (atN (q08 l) p+(1:Int))) (0:Int)≤Option.getD none (q0G l)∧Option.getD none (q0G l)≤(q0G l))∧q13 5 l.length (gL (q01 1) l)∧0+((Option.getD (some (q80 l p)) (q0G l)).toNat-0)=0+((Option.getD (some (q80 l p)) (q0G l)).toNat-0)∧0+((Option.getD (some (q80 l p)) (q0G l)).toNat-0)+((Option.getD none (q0G l)).toNat-(Option.getD (some (atN (q08 l) p+(1:Int))) (0:Int)).toNat)≤1073741824∧q13 5 ((Option.getD none (q0G l)).toNat-(Option.getD (some (atN (q08 l) p+(1:Int))) (0:Int)).toNat) (match(motive:=Option Int→Nat→V) some (atN (q08 l) p+(1:Int))with|none=>gL (q01 1) l|some val=>q32 (gL (q01 1) l) (Option.getD (some (atN (q08 l) p+(1:Int))) (0:Int)).toNat)∧(∀i:Nat,i<(Option.getD none (q0G l)).toNat-(Option.getD (some (atN (q08 l) p+(1:Int))) (0:Int)).toNat→q86 (q01 1 (l.getD ((Option.getD (some (atN (q08 l) p+(1:Int))) (0:Int)).toNat+i) default))=true)∧VLe (V.agg [vi 0,V.str (ByteArray.mk #[]),V.sl (0+((Option.getD (some (q80 l p)) (q0G l)).toNat-0)+((Option.getD none (q0G l)).toNat-(Option.getD (some (atN (q08 l) p+(1:Int))) (0:Int)).toNat)) (q3K (0+((Option.getD (some (q80 l p)) (q0G l)).toNat-0)) (q3K 0 (q3C []) (match(motive:=Option Int→Nat→V) none with|none=>gL (q01 1) l|some val=>q32 (gL (q01 1) l) 0)) (match(motive:=Option Int→Nat→V) some (atN (q08 l) p+(1:Int))with|none=>gL (q01 1) l|some val=>q32 (gL (q01 1) l) (Option.getD (some (atN (q08 l) p+(1:Int))) (0:Int)).toNat)) 2]) (q0W 2 (q3X l p v))))))):=by
  delta q80;delta q0G;delta q08;delta vi;obtain⟨hl,hb⟩:=hpre;have hm:l.length≤maxLen:=by unfold maxLen;omega
  simp only[q0o,q1W,x7w,q4t,x57];refine⟨fun h=>q7k ?_,fun h=>⟨⟨VLe.refl _,hm⟩,fun h2=>q7k ?_,fun h2=>⟨tqI _,tqI _,fun _=>qBS h2,tqI _,tqI _,tqI _,tqI _,fun _ h=>h,fun b hb2=>⟨fun h3=>q7k ?_,fun h3=>⟨⟨VLe.refl _,hl,hb⟩,fun h4=>q7k ?_,fun h4=>?_⟩⟩⟩⟩⟩
  ·unfold q3X;rw[if_pos (of_decide_eq_true h)]
  ·unfold q3X;rw[if_neg (of_decide_eq_false h),if_pos (of_decide_eq_true h2)]
  ·rw[h3]at hb2;unfold q3X;rw[if_neg (of_decide_eq_false h),if_neg (of_decide_eq_false h2),if_pos (of_decide_eq_true hb2.symm)]
  ·rw[h3]at hb2;have h5:q1p l p≠[]:=fun g=>by rw[g]at h4;cases h4
   unfold q3X;rw[if_neg (of_decide_eq_false h),if_neg (of_decide_eq_false h2),if_neg (of_decide_eq_false hb2.symm),if_pos h5]
  ·rw[h3]at hb2;have h5:¬q1p l p≠[]:=fun g=>of_decide_eq_false h4 (by have:=List.length_pos_iff.2 g;omega);have h6:=qBS h2;have e:q3X l p v=⟨0,q1f,l.take (atN l p).toNat++l.drop ((atN l p).toNat+1)⟩:=by
    unfold q3X;rw[if_neg (of_decide_eq_false h),if_neg (of_decide_eq_false h2),if_neg (of_decide_eq_false hb2.symm),if_neg h5]
   obtain⟨i,hi⟩:=Int.eq_ofNat_of_zero_le h6.1;rw[e];rw[hi]at h6⊢;have h7:i<l.length:=by omega
   have en:(l.take i++l.drop (i+1)).length=i+(l.length-(i+1)):=by
    rw[List.length_append,List.length_take,List.length_drop];omega
   have ei:((i:Int)+1).toNat=i+1:=by omega
   simp only[Option.getD_some,Option.getD_none,Int.toNat_natCast,Nat.sub_zero,Nat.zero_add,ei,en];exact⟨⟨by omega,by omega,by omega⟩,fun k hk=>⟨rfl,rfl⟩,trivial,by omega,fun k hk=>⟨rfl,rfl⟩,fun k hk=>rfl,q0X (by omega),⟨by omega,by omega,by omega⟩,fun k hk=>⟨rfl,rfl⟩,trivial,by omega,fun k hk=>⟨rfl,rfl⟩,fun k hk=>rfl,q21 ⟨VLe.refl _,VLe.refl _,qYb h7,trivial⟩⟩
 exact Eq.mp (by kernel_rfl) key
theorem x3V:q0R Tryz.prog 198 qOE:=by
 refine sob 1 Tryz.func198 fun args bin ob r bout hDe hob=>?_;unfold qOE at hDe;split at hDe
 ·rename_i a0 a1 a2;cases hDe;exact okB (qZO ((q0K q03) a0) a1 a2 (hob.2)) x3T (args_of_vles ⟨hob.1,VLe.refl _,VLe.refl _,trivial⟩)
 ·cases hDe
def qM7 (l:List q0A) (p:ByteArray) (d:Int) (v:Int):Prop:=l.length≤1000∧qMN l
noncomputable def qUT (l:List q0A) (p:ByteArray) (d:Int) (v:Int):V:=q0W 2 (q2P l p d v)
noncomputable def qNl:q0P:=fun args bin=>match args,bin with
 |[a0,.str a1,.int .i64 a2,.int .i64 a3],[]=>some (VLe a0 (q0D (q01 1) 1 (((q0K q03) a0)))∧qM7 ((q0K q03) a0) a1 a2 a3,qUT ((q0K q03) a0) a1 a2 a3,[])
 |_,_=>none
noncomputable def x0t:=lkR [(249,qOq),(199,qH4),(192,qMv),(202,qP6)]
theorem qZJ:q0C Tryz.prog x0t:=q02 qW1 (q02 qNT (q02 qTv (q02 qVK (q04))))
noncomputable def x3L (l:List q0A) (p:ByteArray) (d:Int) (v:Int):=cxN x0t Tryz.f200 [0,1,2,3,8,9,10,13,19,31,38]
def qFu (l:List q0A) (p:ByteArray):Prop:=(atN (q08 l) p).toNat<(q2y l).length
theorem x1i (l:List q0A) (p:ByteArray) (d:Int) (v:Int) (hpre:qM7 l p d v):q0d (x3L l p d v) Tryz.f200 1 [q0D (q01 1) 1 (l),.str (p),.int .i64 (d),.int .i64 (v)] (fun rr=>VLe rr (qUT l p d v)):=by
 have key:qI7 d∧((!decide (inR d 0 9999))=true→q6w (3:Int)∧VLe (q0W 2 (q4t (3:Int))) (q0W 2 (q2P l p d v)))∧((!decide (inR d 0 9999))=false→(VLe (q0D (q01 1) 1 l) (q0D (q01 1) 1 (q08 l))∧q9o (q08 l) p)∧(decide (atN (q08 l) p<(0:Int))=true→q6w (4:Int)∧VLe (q0W 2 (q4t (4:Int))) (q0W 2 (q2P l p d v)))∧(decide (atN (q08 l) p<(0:Int))=false→tq (v !=(-1))∧tq (v !=(-1))∧((v !=(-1))=true→(0:Int)≤atN (q08 l) p∧atN (q08 l) p<(↑ l.length:Int))∧tq (v !=(-1))∧tq (v !=(-1))∧tq (v !=(-1))∧tq (v !=(-1))∧((true=true→(v !=(-1))=true→(v !=(-1))=true)∧∀b:Bool,(b=bif v !=(-1)then v !=(l.getD (q2V l p) default).version else false)→(b=true→q6w (7:Int)∧VLe (q0W 2 (q4t (7:Int))) (q0W 2 (q2P l p d v)))∧(b=false→((0:Int)≤atN (q08 l) p∧atN (q08 l) p<(↑ l.length:Int))∧(decide ((l.getD (q2V l p) default).version≥(999:Int))=true→q6w (2:Int)∧VLe (q0W 2 (q4t (2:Int))) (q0W 2 (q2P l p d v)))∧(decide ((l.getD (q2V l p) default).version≥(999:Int))=false→(VLe (q0D (q01 1) 1 l) (q0D (q01 1) 1 (q08 l))∧qNg (q08 l))∧qKF l p∧qFu l p∧qKF l p∧qFu l p∧inK IntKind.i64 ((bif Nat.beq (q2V l p) (q2V l p)then((q2y l).getD (q2V l p) default).version else((q2y l).getD (q2V l p) default).version)+(1:Int))∧qKF l p∧qFu l p∧VLe (V.agg [vi 0,V.str (ByteArray.mk #[]),V.sl (q2y l).length (q65 (q65 (gL (q01 1) (q2y l)) (q2V l p) (V.agg [V.str ((q2y l).getD (q2V l p) default).path,vi d,vi ((q2y l).getD (q2V l p) default).version,vi ((q2y l).getD (q2V l p) default).owner,vi ((q2y l).getD (q2V l p) default).next])) (q2V l p) (V.agg [V.str (bif Nat.beq (q2V l p) (q2V l p)then((q2y l).getD (q2V l p) default).path else((q2y l).getD (q2V l p) default).path),vi (bif Nat.beq (q2V l p) (q2V l p)then d else((q2y l).getD (q2V l p) default).data),vi ((bif Nat.beq (q2V l p) (q2V l p)then((q2y l).getD (q2V l p) default).version else((q2y l).getD (q2V l p) default).version)+(1:Int)),vi (bif Nat.beq (q2V l p) (q2V l p)then((q2y l).getD (q2V l p) default).owner else((q2y l).getD (q2V l p) default).owner),vi (bif Nat.beq (q2V l p) (q2V l p)then((q2y l).getD (q2V l p) default).next else((q2y l).getD (q2V l p) default).next)])) 2]) (q0W 2 (q2P l p d v))))))):=by
  delta qFu;delta qKF;delta q2y;delta q2V;delta q08;delta vi;obtain⟨hl,hb⟩:=hpre;have hm:l.length≤maxLen:=by unfold maxLen;omega
  simp only[q0o,q1W,x7w,q4t,x4p,qDw];refine⟨trivial,fun h=>q7k ?_,fun h=>⟨⟨VLe.refl _,hm⟩,fun h2=>q7k ?_,fun h2=>⟨tqI _,tqI _,fun _=>qBS h2,tqI _,tqI _,tqI _,tqI _,fun _ h=>h,fun b hb2=>⟨fun h3=>q7k ?_,fun h3=>⟨qBS h2,fun h4=>q7k ?_,fun h4=>?_⟩⟩⟩⟩⟩
  ·unfold q2P;rw[if_pos (by simpa using h)]
  ·unfold q2P;rw[if_neg (by simpa using h),if_pos (of_decide_eq_true h2)]
  ·rw[h3]at hb2;unfold q2P;rw[if_neg (by simpa using h),if_neg (of_decide_eq_false h2),if_pos (of_decide_eq_true hb2.symm)]
  ·rw[h3]at hb2;unfold q2P;rw[if_neg (by simpa using h),if_neg (of_decide_eq_false h2),if_neg (of_decide_eq_false hb2.symm),if_pos (of_decide_eq_true h4)]
  ·rw[h3]at hb2;have h5:=of_decide_eq_false h4;have h6:=qBS h2;have h9:=h6;have e:q2P l p d v=⟨0,q1f,q5t l (atN l p).toNat d⟩:=by
    unfold q2P;rw[if_neg (by simpa using h),if_neg (of_decide_eq_false h2),if_neg (of_decide_eq_false hb2.symm),if_neg h5]
   rw[e];obtain⟨i,hi⟩:=Int.eq_ofNat_of_zero_le h6.1;rw[hi]at h5 h6 h9⊢;have h7:i<l.length:=by omega
   have h8:0≤(l.getD i default).version:=(hb _ (q3w h7)).2.2.1;have en:(q5t l i d).length=l.length:=by
    unfold q5t;rw[List.length_set]
   simp only[Int.toNat_natCast,Nat.beq_refl,cond_true,en]at h5⊢;refine⟨⟨VLe.refl _,hl⟩,h9,h7,h9,h7,q0X (by omega),h9,h7,q21 ⟨VLe.refl _,VLe.refl _,?_,trivial⟩⟩;exact qTh (by simp[q2F,q01]) fun j e=>by simp[q2F,e]
 exact Eq.mp (by kernel_rfl) key
theorem x1n:q0R Tryz.prog 200 qNl:=by
 refine sob 1 Tryz.func200 fun args bin ob r bout hDe hob=>?_;unfold qNl at hDe;split at hDe
 ·rename_i a0 a1 a2 a3;cases hDe;exact okB (x1i ((q0K q03) a0) a1 a2 a3 (hob.2)) qZJ (args_of_vles ⟨hob.1,VLe.refl _,VLe.refl _,VLe.refl _,trivial⟩)
 ·cases hDe
def qM4 (l:List q0A) (p:ByteArray) (d:Int) (o:Int) (s:Bool):Prop:=l.length≤1000∧qMN l∧0<p.size∧p.size≤900
noncomputable def qUh (l:List q0A) (p:ByteArray) (d:Int) (o:Int) (s:Bool):V:=q0W 2 (q2j l p d o s)
noncomputable def qPi:q0P:=fun args bin=>match args,bin with
 |[a0,.str a1,.int .i64 a2,.int .i64 a3,.bool a4],[]=>some (VLe a0 (q0D (q01 1) 1 (((q0K q03) a0)))∧qM4 ((q0K q03) a0) a1 a2 a3 a4,qUh ((q0K q03) a0) a1 a2 a3 a4,[])
 |_,_=>none
noncomputable def x1s:=lkR [(249,qOq),(199,qH4),(192,qMv),(220,qTZ),(221,qPZ),(202,qP6),(250,qPI),(252,qXi),(251,qTq),(253,qVx),(191,qRR),(254,qVv)]
theorem x0L:q0C Tryz.prog x1s:=q02 qW1 (q02 qNT (q02 qTv (q02 qZh (q02 qYH (q02 qVK (q02 qY5 (q02 x9Q (q02 qZ3 (q02 x9G (q02 qYW (q02 x8n (q04))))))))))))
noncomputable def x0r (l:List q0A) (p:ByteArray) (d:Int) (o:Int) (s:Bool):=cxN x1s Tryz.f197 [0,1,2,3,4,10,11,12,13,14,15,23,26,33,40,44,51,62,73,85,89]
noncomputable def q53 (l:List q0A) (p:ByteArray) (d:Int) (o:Int) (s:Bool):V:=q0W 2 (q2j l p d o s)
noncomputable def qAS (l:List q0A):V:=q0D (q01 1) 1 (q2y l)
theorem x0w (l:List q0A) (p:ByteArray) (d:Int) (o:Int) (s:Bool) (hpre:qM4 l p d o s):q0d (x0r l p d o s) Tryz.f197 1 [q0D (q01 1) 1 (l),.str (p),.int .i64 (d),.int .i64 (o),.bool (s)] (fun rr=>VLe rr (qUh l p d o s)):=by
 have key:qI7 d∧tq (!!decide (inR d 0 9999))∧((!!decide (inR d 0 9999))=true→qMP o)∧tq (!!decide (inR d 0 9999))∧((true=true→(!decide (inR d 0 9999))=false→(!!decide (inR d 0 9999))=true)∧∀b:Bool,(b=bif !decide (inR d 0 9999)then true else !decide (inR o 0 9))→(b=true→q6w (3:Int)∧VLe (q0W 2 (q4t (3:Int))) (q53 l p d o s))∧(b=false→(q1t p (ByteArray.mk #[(47:UInt8)])=true→q6w (1:Int)∧VLe (q0W 2 (q4t (1:Int))) (q53 l p d o s))∧(q1t p (ByteArray.mk #[(47:UInt8)])=false→qG6 p∧(q2N l∧q9o (q08 l) (upF p))∧(decide (atN (q08 l) (upF p)<(0:Int))=true→q6w (4:Int)∧VLe (q0W 2 (q4t (4:Int))) (q53 l p d o s))∧(decide (atN (q08 l) (upF p)<(0:Int))=false→((0:Int)≤atN (q08 l) (upF p)∧atN (q08 l) (upF p)<(q0G l))∧(((l.getD (q7G l p) default).owner !=0)=true→q6w (8:Int)∧VLe (q0W 2 (q4t (8:Int))) (q53 l p d o s))∧(((l.getD (q7G l p) default).owner !=0)=false→(q2N l∧qNg (q08 l))∧(s=true→((0:Int)≤atN (q08 l) (upF p)∧atN (q08 l) (upF p)<(q0G l))∧(decide ((l.getD (q7G l p) default).next≥(100:Int))=true→q6w (3:Int)∧VLe (q0W 2 (q4t (3:Int))) (q53 l p d o s))∧(decide ((l.getD (q7G l p) default).next≥(100:Int))=false→qQZ p∧inK IntKind.i64 ((↑ (q2B p):Int)+1)∧((0:Int)≤Option.getD (some ((↑ (q2B p):Int)+1)) (0:Int)∧Option.getD (some ((↑ (q2B p):Int)+1)) (0:Int)≤Option.getD none (↑ p.size:Int)∧Option.getD none (↑ p.size:Int)≤(↑ p.size:Int))∧qTa (ByteArray.extract p (q5k p) (q5m p)) (q5n l p)∧qMl (q5P (ByteArray.extract p (q5k p) (q5m p)) (q5n l p))∧((!decide (q5j (q5P (ByteArray.extract p (q5k p) (q5m p)) (q5n l p))))=true→q6w (5:Int)∧VLe (q0W 2 (q4t (5:Int))) (q53 l p d o s))∧((!decide (q5j (q5P (ByteArray.extract p (q5k p) (q5m p)) (q5n l p))))=false→qG6 p∧qTa (ByteArray.extract p (q5k p) (q5m p)) (q5n l p)∧qVR (upF p) (q5P (ByteArray.extract p (q5k p) (q5m p)) (q5n l p))∧qJC (q2L (upF p) (q5P (ByteArray.extract p (q5k p) (q5m p)) (q5n l p)))∧((q1I (q2L (upF p) (q5P (ByteArray.extract p (q5k p) (q5m p)) (q5n l p)))!=0)=true→q6w (q1I (q2L (upF p) (q5P (ByteArray.extract p (q5k p) (q5m p)) (q5n l p))))∧VLe (q0W 2 (q4t (q1I (q2L (upF p) (q5P (ByteArray.extract p (q5k p) (q5m p)) (q5n l p)))))) (q53 l p d o s))∧((q1I (q2L (upF p) (q5P (ByteArray.extract p (q5k p) (q5m p)) (q5n l p)))!=0)=false→inK IntKind.i64 ((l.getD (q7G l p) default).next+(1:Int))∧((0:Int)≤atN (q08 l) (upF p)∧atN (q08 l) (upF p)<(↑ (q2y l).length:Int))∧(atN (q08 l) (upF p)).toNat<(q2y l).length∧(q2N l∧q9o (q08 l) (q2L (upF p) (q5P (ByteArray.extract p (q5k p) (q5m p)) (q5n l p))))∧(decide (atN (q08 l) (q2L (upF p) (q5P (ByteArray.extract p (q5k p) (q5m p)) (q5n l p)))≥(0:Int))=true→q6w (6:Int)∧VLe (q0W 2 (q4t (6:Int))) (q53 l p d o s))∧(decide (atN (q08 l) (q2L (upF p) (q5P (ByteArray.extract p (q5k p) (q5m p)) (q5n l p)))≥(0:Int))=false→(decide ((q0G l)≥20)=true→q6w (2:Int)∧VLe (q0W 2 (q4t (2:Int))) (q53 l p d o s))∧(decide ((q0G l)≥20)=false→(VLe (qGx l p) (q0D (q01 1) 1 (q0K q03 (qGx l p)))∧VLe (qIf l p d o) (q01 1 (q03 (qIf l p d o)))∧qSL (q0K q03 (qGx l p)) (q03 (qIf l p d o)))∧VLe (V.agg [vi 0,V.str (q2L (upF p) (q5P (ByteArray.extract p (q5k p) (q5m p)) (q5n l p))),q0D (q01 1) 2 (qDm (q0K q03 (qGx l p)) (q03 (qIf l p d o)))]) (q53 l p d o s)))))))∧(s=false→(q2N l∧q9o (q08 l) p)∧(decide (atN (q08 l) p≥(0:Int))=true→q6w (6:Int)∧VLe (q0W 2 (q4t (6:Int))) (q53 l p d o s))∧(decide (atN (q08 l) p≥(0:Int))=false→(decide ((q0G l)≥20)=true→q6w (2:Int)∧VLe (q0W 2 (q4t (2:Int))) (q53 l p d o s))∧(decide ((q0G l)≥20)=false→(VLe (qAS l) (q0D (q01 1) 1 (q0K q03 (qAS l)))∧VLe (V.agg [V.str p,vi d,vi 0,vi o,vi 0]) (q01 1 (q03 (V.agg [V.str p,vi d,vi 0,vi o,vi 0])))∧qSL (q0K q03 (qAS l)) (q03 (V.agg [V.str p,vi d,vi 0,vi o,vi 0])))∧VLe (V.agg [vi 0,V.str p,q0D (q01 1) 2 (qDm (q0K q03 (qAS l)) (q03 (V.agg [V.str p,vi d,vi 0,vi o,vi 0])))]) (q53 l p d o s))))))))):=by
  delta qAS;delta q0G;delta q53;delta q2N;delta qIf;delta q5m;delta q5n;delta q5k;delta qGx;delta q7G;delta q2y;delta q08;delta vi;obtain⟨hl,hb,hp1,hp2⟩:=hpre;have hm:l.length≤maxLen:=by unfold maxLen;omega
  have u1:=qNh p;have u2:=qGy hp1;have u3:q2B p<p.size:=q8G _ hp1;have e1:((q2B p:Int)+1).toNat=q2B p+1:=by omega
  have e2:((p.size:Int)).toNat=p.size:=by omega
  have e3:p.extract (q2B p+1) p.size=q4R p:=rfl;have e4:(atN l (upF p)).toNat=upN l p:=rfl;simp only[q0o,q1W,inB,q4t,x5O,qDw,qDm,Option.getD_some,Option.getD_none,e1,e2,e3,e4];refine⟨trivial,tqI _,fun _=>trivial,tqI _,fun _ h=>by simpa using h,fun b hb2=>⟨fun h=>q7k ?_,fun h=>⟨fun h2=>q7k ?_,fun h2=>⟨by show p.size≤1000;omega,⟨VLe.refl _,hm⟩,fun h3=>q7k ?_,fun h3=>⟨qBS h3,fun h4=>q7k ?_,fun h4=>⟨⟨VLe.refl _,hl⟩,fun h5=>?_,fun h5=>?_⟩⟩⟩⟩⟩⟩
  ·rw[h]at hb2;unfold q2j;rw[if_pos (of_decide_eq_true hb2.symm)]
  all_goals rw[h]at hb2
  ·unfold q2j;rw[if_neg (of_decide_eq_false hb2.symm),if_pos (of_decide_eq_true h2)]
  ·unfold q2j;rw[if_neg (of_decide_eq_false hb2.symm),if_neg (of_decide_eq_false h2),if_pos (of_decide_eq_true h3)]
  ·unfold q2j;rw[if_neg (of_decide_eq_false hb2.symm),if_neg (of_decide_eq_false h2),if_neg (of_decide_eq_false h3),if_pos (by simpa using h4)]
  ·have h6:=qBS h3;have hu:upN l p<l.length:=by unfold upN;omega
   have hz:0≤(l.getD (upN l p) default).next:=(hb _ (q3w hu)).2.2.2;refine⟨h6,fun h7=>q7k ?_,fun h7=>?_⟩
   ·unfold q2j;rw[if_neg (of_decide_eq_false hb2.symm),if_neg (of_decide_eq_false h2),if_neg (of_decide_eq_false h3),if_neg (by simpa using h4),h5,if_neg (by decide),if_pos (of_decide_eq_true h7)]
   have h8:=of_decide_eq_false h7;have hr:inR (l.getD (upN l p) default).next 0 99:=⟨hz,by omega⟩;have hs:=qAV (q4R p) (l.getD (upN l p) default).next;have ez:q2j l p d o s=if¬q5j (q5P (q4R p) (l.getD (upN l p) default).next)then⟨5,q1f,[]⟩
     else if q1I (q2L (upF p) (q5P (q4R p) (l.getD (upN l p) default).next))≠0 then⟨q1I (q2L (upF p) (q5P (q4R p) (l.getD (upN l p) default).next)),q1f,[]⟩
     else q5y l (q4M l (upN l p)) (q2L (upF p) (q5P (q4R p) (l.getD (upN l p) default).next)) d o:=by
    unfold q2j;rw[if_neg (of_decide_eq_false hb2.symm),if_neg (of_decide_eq_false h2),if_neg (of_decide_eq_false h3),if_neg (by simpa using h4),h5,if_neg (by decide),if_neg h8]
   generalize q5P (q4R p) (l.getD (upN l p) default).next=q at*;have ef:(!decide (q5j q))=false→(q1I (q2L (upF p) q)!=0)=false→q2j l p d o s=q5y l (q4M l (upN l p)) (q2L (upF p) q) d o:=fun k1 k2=>by
    rw[ez,if_neg (by simpa using k1),if_neg (by simpa using k2)]
   refine⟨by show p.size≤1000;omega,q0X (by omega),⟨by omega,by omega,by omega⟩,⟨by omega,hr⟩,by show q.size≤1000;omega,fun h9=>q7k ?_,fun h9=>⟨by show p.size≤1000;omega,⟨by omega,hr⟩,⟨by omega,by omega⟩,trivial,fun h10=>q7k ?_,fun h10=>⟨q0X (by omega),h6,hu,⟨VLe.refl _,hm⟩,fun h11=>q7k ?_,fun h11=>⟨fun h12=>q7k ?_,fun h12=>?_⟩⟩⟩⟩
   ·rw[ez,if_pos (by simpa using h9)]
   ·rw[ez,if_neg (by simpa using h9),if_pos (by simpa using h10)]
   ·exact qKi (ef h9 h10) h11
   ·exact qLP (ef h9 h10) h11 h12
   ·have eq:=qKe (ef h9 h10) h11 h12;have el:∀t,q0K q03 (.sl l.length (q65 (gL (q01 1) l) (upN l p) (.agg [.str (l.getD (upN l p) default).path,.int .i64 (l.getD (upN l p) default).data,.int .i64 (l.getD (upN l p) default).version,.int .i64 (l.getD (upN l p) default).owner,.int .i64 ((l.getD (upN l p) default).next+1)])) t)=q4M l (upN l p):=fun t=>qL2 rfl;rw[el];refine⟨⟨qOp hu rfl,VLe.refl _,?_⟩,qUf eq⟩;show(q4M l (upN l p)).length≤1000;unfold q4M;rw[List.length_set];exact hl
  ·have ez:q2j l p d o s=q5y l l p d o:=by
    unfold q2j;rw[if_neg (of_decide_eq_false hb2.symm),if_neg (of_decide_eq_false h2),if_neg (of_decide_eq_false h3),if_neg (by simpa using h4),h5,if_pos rfl]
   refine⟨⟨VLe.refl _,hm⟩,fun h11=>q7k (qKi ez h11),fun h11=>⟨fun h12=>q7k (qLP ez h11 h12),fun h12=>?_⟩⟩;have eq:=qKe ez h11 h12;exact⟨⟨VLe.refl _,VLe.refl _,hl⟩,qUf eq⟩
 exact Eq.mp (by kernel_rfl) key
theorem x1N:q0R Tryz.prog 197 qPi:=by
 refine sob 1 Tryz.func197 fun args bin ob r bout hDe hob=>?_;unfold qPi at hDe;split at hDe
 ·rename_i a0 a1 a2 a3 a4;cases hDe;exact okB (x0w ((q0K q03) a0) a1 a2 a3 a4 (hob.2)) x0L (args_of_vles ⟨hob.1,VLe.refl _,VLe.refl _,VLe.refl _,VLe.refl _,trivial⟩)
 ·cases hDe
def qTx (l:List q0A):Prop:=l.Pairwise fun a b=>lt a.path b.path
theorem q6x {l:List q0A} {i:Nat} (h:i<l.length):atZ l i=l[i]:=by simp[atZ,h]
theorem qDE {l:List q0A}:qTx l↔rising l:=by
 unfold qTx rising;rw[List.pairwise_iff_getElem];constructor
 ·intro h i j hij hj;rw[q6x hj,q6x (show i<l.length by omega)];exact h i j (by omega) hj hij
 ·intro h i j hi hj hij;have:=h i j hij hj
  rwa [q6x hj,q6x hi]at this
theorem qBd {l:List q0A} (hr:rising l) {u:q0A} (hu:u∈l):atN l u.path<l.length∧¬atN l u.path<0∧atZ l (atN l u.path).toNat=u:=by
 obtain⟨i,hi,rfl⟩:=q8I hu;have e:atN l (atZ l i).path=(i:Int):=q3i hi (fun j hj=>decide_eq_false fun e=>by
  have:=hr j i hj hi;rw[show(atZ l j).path=(atZ l i).path from e]at this;exact lt_irrefl _ this) (decide_eq_true rfl)
 rw[e];exact⟨by omega,by omega,by rw[Int.toNat_natCast]⟩
theorem qL3 {l:List q0A} {t:ByteArray} (h:¬atN l t<0):(atN l t).toNat<l.length∧atZ l (atN l t).toNat∈l∧(atZ l (atN l t).toNat).path=t:=by
 obtain⟨k,hk⟩:=Int.eq_ofNat_of_zero_le (show 0≤atN l t by omega);obtain⟨h1,h2,_⟩:=q9u (q:=q7r t) (xs:=l) (i:=k) hk;rw[hk];exact⟨h1,q3w h1,of_decide_eq_true h2⟩
theorem qD7 {e:Nat→Int}:∀{n:Nat},(∀i,i<n→e i=0)→q1s e n=0
 |0,_=>rfl
 |n+1,h=>q4F (qD7 fun i hi=>h i (by omega)) (h n (by omega))
def q3E (l:List q0A):Prop:=l.length≤20∧(∀z∈l,q4y z=0)∧qTx l∧(∃z∈l,z.path=top)∧∀z∈l,∃u∈l,u.path=upF z.path∧u.owner=0
theorem q3E.rising {l:List q0A} (h:q3E l):rising l:=qDE.1 h.2.2.1
theorem q7f {l:List q0A}:q1A l=0↔q3E l:=by
 constructor
 ·intro h;obtain⟨h1,h2,h3⟩:=qB9 h;have hr:=q46 h2;refine⟨h1,fun z hz=>?_,qDE.2 hr,?_,?_⟩
  ·obtain⟨i,hi,rfl⟩:=q8I hz;exact q88 h2 hi
  ·obtain⟨_,a2,a3⟩:=q6J hr h3;exact⟨_,q3w a2,a3⟩
  ·unfold q1A at h;rw[if_neg (by omega),if_neg (not_not_intro h2)]at h;split at h
   ·cases h
   split at h
   ·cases h
   rename_i n1;split at h
   ·cases h
   rename_i n2;intro z hz;have a1:¬atN l (upF z.path)<0:=fun c=>n1 ⟨z,hz,c⟩;obtain⟨_,a2,a3⟩:=qL3 a1;exact⟨_,a2,a3,Classical.byContradiction fun c=>n2 ⟨z,hz,c⟩⟩
 ·intro h;have hr:=h.rising;obtain⟨h1,h2,h3,h4,h5⟩:=h;have hs:q1s (q4g l) l.length=0:=qD7 fun i hi=>by
   unfold q4g;rw[if_neg (not_not_intro (h2 _ (q3w hi))),if_neg fun c=>c.2 (hr (i-1) i (by omega) hi)]
  have ca:¬atN l top<0:=by
   obtain⟨u,hu,e⟩:=h4;rw[←e];exact(qBd hr hu).2.1
  have cb:¬qRI l:=by
   rintro⟨z,hz,c⟩;obtain⟨u,hu,e,_⟩:=h5 z hz;rw[←e]at c;exact(qBd hr hu).2.1 c
  have cc:¬qBm l:=by
   rintro⟨z,hz,c⟩;obtain⟨u,hu,e,o⟩:=h5 z hz;rw[←e,(qBd hr hu).2.2]at c;exact c o
  have c0:¬20<l.length:=by omega
  unfold q1A;rw[if_neg c0,if_neg (not_not_intro hs),if_neg ca,if_neg cb,if_neg cc]
theorem qAA {z:q0A}:q4y z=0↔q1I z.path=0∧inR z.data 0 9999∧inR z.version 0 999∧inR z.owner 0 9∧inR z.next 0 100:=by
 constructor
 ·exact fun h=>⟨q8S h,qF9 h⟩
 ·rintro⟨h1,h2⟩;unfold q4y;rw[if_neg (not_not_intro h1),if_neg (not_not_intro h2)]
theorem qJy {l:List q0A} {i:Nat} {x:q0A} (hp:x.path=(atZ l i).path) (ho:x.owner=(atZ l i).owner) {u:q0A} (hu:u∈l):∃v∈l.set i x,v.path=u.path∧v.owner=u.owner:=by
 obtain⟨j,hj,rfl⟩:=q8I hu;by_cases e:j=i
 ·subst e;exact⟨x,List.mem_set hj x,hp,ho⟩
 ·refine⟨atZ l j,?_,rfl,rfl⟩;have h1:(l.set i x).getD j default=atZ l j:=q1u _ _ _ _ e;rw[←h1];exact q3w (by rw[List.length_set];exact hj)
theorem q3E.set {l:List q0A} {i:Nat} {x:q0A} (h:q3E l) (hi:i<l.length) (hp:x.path=(atZ l i).path) (ho:x.owner=(atZ l i).owner) (hn:q4y x=0):q3E (l.set i x):=by
 have hr:=h.rising;obtain⟨h1,h2,h3,h4,h5⟩:=h;have hpa:∀j,(atZ (l.set i x) j).path=(atZ l j).path:=fun j=>by
  by_cases e:j=i
  ·subst e;have:atZ (l.set j x) j=x:=q27 _ _ _ _ hi;rw[this,hp]
  ·have:atZ (l.set i x) j=atZ l j:=q1u _ _ _ _ e;rw[this]
 refine⟨by rw[List.length_set];exact h1,fun z hz=>?_,qDE.2 fun a b hab hb=>?_,?_,fun z hz=>?_⟩
 ·rcases List.mem_or_eq_of_mem_set hz with hz|rfl
  ·exact h2 z hz
  ·exact hn
 ·rw[hpa,hpa];rw[List.length_set]at hb;exact hr a b hab hb
 ·obtain⟨u,hu,e⟩:=h4;obtain⟨v,hv,e1,_⟩:=qJy hp ho hu;exact⟨v,hv,e1.trans e⟩
 ·have hz':∃y∈l,y.path=z.path:=by
   rcases List.mem_or_eq_of_mem_set hz with hz|rfl
   ·exact⟨z,hz,rfl⟩
   ·exact⟨_,q3w hi,hp.symm⟩
  obtain⟨y,hy,ey⟩:=hz';obtain⟨u,hu,e,o⟩:=h5 y hy;obtain⟨v,hv,e1,e2⟩:=qJy hp ho hu;exact⟨v,hv,by rw[e1,e,ey],by rw[e2,o]⟩
theorem qA5 {l:List q0A} {z y:q0A}:y∈qKs l z↔y=z∨y∈l:=by
 unfold qKs;rw[List.mem_append,List.mem_cons];constructor
 ·rintro(h|h|h)
  ·exact .inr (List.mem_of_mem_take h)
  ·exact .inl h
  ·exact .inr (List.mem_of_mem_drop h)
 ·rintro(h|h)
  ·exact .inr (.inl h)
  ·rw[←List.take_append_drop (q2U l z.path) l]at h;rcases List.mem_append.1 h with h|h
   ·exact .inl h
   ·exact .inr (.inr h)
theorem q3E.put {l:List q0A} {z:q0A} (h:q3E l) (hl:l.length<20) (hn:q4y z=0) (hnew:atN l z.path<0) (hup:∃u∈l,u.path=upF z.path∧u.owner=0):q3E (qKs l z):=by
 have hr:=h.rising;obtain⟨h1,h2,h3,h4,h5⟩:=h;have hno:∀y∈l,y.path≠z.path:=fun y hy e=>by
  have:=(qBd hr hy).2.1;rw[e]at this;exact this hnew
 refine⟨by rw[qT7];omega,fun y hy=>?_,?_,?_,fun y hy=>?_⟩
 ·rcases qA5.1 hy with rfl|hy
  ·exact hn
  ·exact h2 y hy
 ·have hlo:∀y∈l.take (q2U l z.path),lt y.path z.path:=fun y hy=>by
   obtain⟨k,hk,rfl⟩:=List.getElem_of_mem hy;rw[List.length_take]at hk;have:=q9e (p:=qBh z.path) (l:=l) (k:=k) (by show k<q2U l z.path;omega);rw[List.getElem_take];have e:l[k]=atZ l k:=(q6x (by omega)).symm;rw[e];exact of_decide_eq_true this
  have hhi:∀y∈l.drop (q2U l z.path),lt z.path y.path:=fun y hy=>by
   obtain⟨k,hk,rfl⟩:=List.getElem_of_mem hy;rw[List.length_drop]at hk;rw[List.getElem_drop];have hx:q2U l z.path<l.length:=by omega
   have a1:¬lt (atZ l (q2U l z.path)).path z.path:=of_decide_eq_false (qDR (p:=qBh z.path) (l:=l) hx);have a2:lt z.path (atZ l (q2U l z.path)).path:=Classical.byContradiction fun c=>hno _ (q3w hx) (qFI a1 c);have e:l[q2U l z.path+k]=atZ l (q2U l z.path+k):=(q6x (by omega)).symm;rw[e];by_cases k0:k=0
   ·subst k0;exact a2
   ·exact lt_trans a2 (hr _ _ (by omega) (by omega))
  unfold qTx qKs;rw[List.pairwise_append];refine⟨h3.sublist (List.take_sublist _ _),List.pairwise_cons.2 ⟨hhi,h3.sublist (List.drop_sublist _ _)⟩,fun a ha b hb=>?_⟩;rcases List.mem_cons.1 hb with rfl|hb
  ·exact hlo a ha
  ·exact lt_trans (hlo a ha) (hhi b hb)
 ·obtain⟨u,hu,e⟩:=h4;exact⟨u,qA5.2 (.inr hu),e⟩
 ·rcases qA5.1 hy with rfl|hy
  ·obtain⟨u,hu,e⟩:=hup;exact⟨u,qA5.2 (.inr hu),e⟩
  ·obtain⟨u,hu,e⟩:=h5 y hy;exact⟨u,qA5.2 (.inr hu),e⟩
theorem q3E.filter {l:List q0A} (h:q3E l) (q:q0A→Bool) (hq:∀z∈l,q z=true→∀u∈l,u.path=upF z.path→q u=true) (ht:∀z∈l,z.path=top→q z=true):q3E (l.filter q):=by
 obtain⟨h1,h2,h3,h4,h5⟩:=h;refine⟨Nat.le_trans (List.length_filter_le _ _) h1,fun z hz=>h2 z (List.mem_filter.1 hz).1,h3.sublist List.filter_sublist,?_,fun z hz=>?_⟩
 ·obtain⟨u,hu,e⟩:=h4;exact⟨u,List.mem_filter.2 ⟨hu,ht u hu e⟩,e⟩
 ·obtain⟨hz1,hz2⟩:=List.mem_filter.1 hz;obtain⟨u,hu,e,o⟩:=h5 z hz1;exact⟨u,List.mem_filter.2 ⟨hu,hq z hz1 hz2 u hu e⟩,e,o⟩
theorem q3E.top_free {l:List q0A} (h:q3E l) {z:q0A} (hz:z∈l) (e:z.path=top):z.owner=0:=by
 obtain⟨u,hu,e1,o⟩:=h.2.2.2.2 z hz;rw[e,qIH]at e1;have a1:=(qBd h.rising hu).2.2;have a2:=(qBd h.rising hz).2.2;rw[e1]at a1;rw[e,a1]at a2;rw[←a2];exact o
theorem q3E.up_free {l:List q0A} (h:q3E l) {z u:q0A} (hz:z∈l) (hu:u∈l) (e:u.path=upF z.path):u.owner=0:=by
 obtain⟨v,hv,e1,o⟩:=h.2.2.2.2 z hz;have a1:=(qBd h.rising hu).2.2;have a2:=(qBd h.rising hv).2.2;rw[e]at a1;rw[e1,a1]at a2;rw[a2];exact o
theorem q3E.drop {l:List q0A} (h:q3E l) (ids:List Int):q3E (q2A l ids):=by
 refine h.filter _ (fun z hz _ u hu e=>?_) fun z hz e=>?_
 ·have o:=h.up_free hz hu e;simp[q1D,o]
 ·have o:=h.top_free hz e;simp[q1D,o]
theorem qN8 {l:List q0A} (hr:rising l) {i:Nat} (hi:i<l.length):l.take i++l.drop (i+1)=l.filter fun z=>decide (z.path≠(atZ l i).path):=by
 have e:l=l.take i++atZ l i::l.drop (i+1):=by
  rw[q6x hi,←List.drop_eq_getElem_cons hi,List.take_append_drop]
 have h1:∀z∈l.take i,z.path≠(atZ l i).path:=fun z hz c=>by
  obtain⟨k,hk,rfl⟩:=List.getElem_of_mem hz;rw[List.length_take]at hk;have:=hr k i (by omega) hi;rw[List.getElem_take,←q6x (show k<l.length by omega)]at c;rw[c]at this;exact lt_irrefl _ this
 have h2:∀z∈l.drop (i+1),z.path≠(atZ l i).path:=fun z hz c=>by
  obtain⟨k,hk,rfl⟩:=List.getElem_of_mem hz;rw[List.length_drop]at hk;have:=hr i (i+1+k) (by omega) (by omega);rw[List.getElem_drop,←q6x (show i+1+k<l.length by omega)]at c;rw[c]at this;exact lt_irrefl _ this
 generalize hp:(atZ l i).path=p at h1 h2⊢
 conv=>rhs;rw[e]
 rw[List.filter_append,List.filter_cons,hp];have f1:(l.take i).filter (fun z=>decide (z.path≠p))=l.take i:=List.filter_eq_self.2 fun z hz=>decide_eq_true (h1 z hz);have f2:(l.drop (i+1)).filter (fun z=>decide (z.path≠p))=l.drop (i+1):=List.filter_eq_self.2 fun z hz=>decide_eq_true (h2 z hz);rw[f1,f2];simp
theorem qSk {l:List q0A} {p:ByteArray} {v:Int} (h:q3E l) (hc:(q3X l p v).code=0):q3E (q3X l p v).nodes:=by
 unfold q3X at hc⊢;split at hc
 ·cases hc
 rename_i g1;split at hc
 ·cases hc
 rename_i g2;split at hc
 ·cases hc
 rename_i g3;split at hc
 ·cases hc
 rename_i g4;rw[if_neg g1,if_neg g2,if_neg g3,if_neg g4];obtain⟨m1,m2,m3⟩:=qL3 g2;show q3E (l.take _++l.drop _);rw[qN8 h.rising m1,m3];refine h.filter _ (fun z hz hq u hu e=>?_) fun z hz e=>?_
 ·refine decide_eq_true fun c=>g4 fun k=>?_;have hz0:z.path≠top:=fun c2=>g1 (by rw[←c,e,c2,qIH]);have hm:q4R z.path∈q1p l p:=List.mem_map.2 ⟨z,List.mem_filter.2 ⟨hz,decide_eq_true ⟨hz0,by rw[←e,c]⟩⟩,rfl⟩;rw[k]at hm;cases hm
 ·exact decide_eq_true fun c=>g1 (by rw[←c,e])
theorem qTt {l:List q0A} {p:ByteArray} {d v:Int} (h:q3E l) (hc:(q2P l p d v).code=0):q3E (q2P l p d v).nodes:=by
 unfold q2P at hc⊢;split at hc
 ·cases hc
 rename_i g1;split at hc
 ·cases hc
 rename_i g2;split at hc
 ·cases hc
 rename_i g3;split at hc
 ·cases hc
 rename_i g4;rw[if_neg g1,if_neg g2,if_neg g3,if_neg g4];obtain⟨m1,m2,m3⟩:=qL3 g2;obtain⟨n1,n2,n3,n4,n5⟩:=qAA.1 (h.2.1 _ m2);refine h.set m1 rfl rfl (qAA.2 ⟨n1,Classical.not_not.1 g1,?_,n4,n5⟩);unfold inR at n3⊢;show 0≤(atZ l _).version+1∧(atZ l _).version+1≤999;omega
theorem x4g {s:ByteArray} (h:q5j s):∀i:Nat,i<s.size→q0i s i≠47:=fun i hi c=>by
 have:=h.1 i hi;rw[c]at this;exact this ⟨.inl (by decide),.inl (by decide)⟩
theorem qG8 {a b:ByteArray} {i:Nat} (h:i<a.size):q0i (a++b) i=q0i a i:=by
 have hl:i<(a++b).size:=by rw[ByteArray.size_append];omega
 rw[q4f _ _ hl,q4f _ _ h];have e:(a++b).data.toList=a.data.toList++b.data.toList:=by simp[ByteArray.data_append]
 congr 2;simp only[e];rw[List.getElem_append_left]
theorem qAO {a b:ByteArray} {i:Nat} (h:i<b.size):q0i (a++b) ((a.size+i:Nat):Int)=q0i b i:=by
 have hl:a.size+i<(a++b).size:=by rw[ByteArray.size_append];omega
 rw[q4f _ _ hl,q4f _ _ h];have e:(a++b).data.toList=a.data.toList++b.data.toList:=by simp[ByteArray.data_append]
 congr 2;simp only[e];rw[List.getElem_append_right (by rw[←q2o];omega)];congr 1;rw[←q2o];omega
theorem qLs:top.size=1:=rfl
theorem qNH:q0i top 0=47:=rfl
theorem qKg {u s:ByteArray} (h:q5j s):q2B ((u++top)++s)=u.size:=by
 have hs:((u++top)++s).size=u.size+1+s.size:=by rw[ByteArray.size_append,ByteArray.size_append,qLs]
 unfold q2B;refine qH7 ?_ _ (by omega) fun j h1 h2=>?_
 ·rw[qG8 (by rw[ByteArray.size_append,qLs];omega)];have:=qAO (a:=u) (b:=top) (i:=0) (by rw[qLs];omega);rw[Nat.add_zero]at this;rw[this];exact qNH
 ·rw[hs]at h2;have:=qAO (a:=u++top) (b:=s) (i:=j-(u.size+1)) (by omega);rw[ByteArray.size_append,qLs,show u.size+1+(j-(u.size+1))=j by omega]at this;rw[this];exact x4g h _ (by omega)
theorem qYT {u s:ByteArray} (hu:q6d u) (h:q5j s):upF (q2L u s)=u:=by
 unfold q2L;split
 ·rename_i e;have e0:top++s=(q1f++top)++s:=by
   congr 1
  have:q2B (top++s)=0:=by
   rw[e0,qKg h];rfl
  unfold upF;rw[if_pos this,e]
 ·rename_i e;have hl:=qKg (u:=u) h;have h0:=(q5N hu).1;unfold upF;rw[hl,if_neg (by omega)];apply q4d;rw[q3Z];have e2:((u++top)++s).data.toList=u.data.toList++(top.data.toList++s.data.toList):=by simp[ByteArray.data_append]
  rw[e2,List.drop_zero,Nat.sub_zero,q2o,List.take_left]
theorem qH6 {l out:List q0A} {p:ByteArray} {d o:Int} (h:q3E out) (hl:out.length=l.length) (hat:atN out p=atN l p) (hd:inR d 0 9999) (ho:inR o 0 9) (hp:q1I p=0) (hup:∃u∈out,u.path=upF p∧u.owner=0)
  (hc:(q5y l out p d o).code=0):q3E (q5y l out p d o).nodes:=by
 unfold q5y at hc⊢;split at hc
 ·cases hc
 rename_i g1;split at hc
 ·cases hc
 rename_i g2;rw[if_neg g1,if_neg g2];refine h.put (by omega) (qAA.2 ⟨hp,hd,show inR 0 0 999 from⟨by decide,by decide⟩,ho,show inR 0 0 100 from⟨by decide,by decide⟩⟩) ?_ hup;show atN out p<0;rw[hat];omega
theorem qXF {l:List q0A} {i:Nat} {x:q0A} (hx:x.path=(atZ l i).path) (t:ByteArray):atN (l.set i x) t=atN l t:=by
 unfold atN q5l;have:(l.set i x).findIdx? (q7r t)=l.findIdx? (q7r t):=by
  have e1:∀(l:List q0A),l.findIdx? (q7r t)=(l.map fun z=>z.path).findIdx? fun p=>decide (p=t):=fun l=>by
   rw[List.findIdx?_map];rfl
  rw[e1,e1];congr 1;apply List.ext_getElem
  ·simp
  ·intro k h1 h2;rw[List.length_map,List.length_set]at h1;rw[List.getElem_map,List.getElem_map,List.getElem_set];split
   ·rename_i e;subst e;rw[hx,q6x h1]
   ·rfl
 rw[this]
theorem qSm {l:List q0A} {p:ByteArray} {d o:Int} {s:Bool} (h:q3E l) (hp:q1I p=0) (hc:(q2j l p d o s).code=0):q3E (q2j l p d o s).nodes:=by
 unfold q2j at hc⊢;split at hc
 ·cases hc
 rename_i g1;split at hc
 ·cases hc
 rename_i g2;split at hc
 ·cases hc
 rename_i g3;split at hc
 ·cases hc
 rename_i g4;rw[if_neg g1,if_neg g2,if_neg g3,if_neg g4];have g1':=Classical.not_not.1 g1;have g4':=Classical.not_not.1 g4;obtain⟨m1,m2,m3⟩:=qL3 g3;split at hc
 ·rename_i g5;rw[if_pos g5];exact qH6 h rfl rfl g1'.1 g1'.2 hp ⟨_,m2,m3,g4'⟩ hc
 rename_i g5;split at hc
 ·cases hc
 rename_i g6;split at hc
 ·cases hc
 rename_i g7;split at hc
 ·rename_i g8;exact absurd hc g8
 rename_i g8;rw[if_neg g5,if_neg g6,if_neg g7,if_neg g8];have hm:atZ l (upN l p)∈l:=m2;obtain⟨n1,n2,n3,n4,n5⟩:=qAA.1 (h.2.1 _ hm);have hset:q3E (q4M l (upN l p)):=by
  refine h.set m1 rfl rfl (qAA.2 ⟨n1,n2,n3,n4,?_⟩);unfold inR at n5⊢;show 0≤(atZ l _).next+1∧(atZ l _).next+1≤100;omega
 have hu:q6d (upF p):=qPc (q4n hp);refine qH6 hset (by unfold q4M;rw[List.length_set]) (by unfold q4M;exact qXF (x:=⟨(atZ l (upN l p)).path,(atZ l (upN l p)).data,(atZ l (upN l p)).version,(atZ l (upN l p)).owner,(atZ l (upN l p)).next+1⟩) rfl _) g1'.1 g1'.2 (Classical.not_not.1 g8) ?_ hc;rw[qYT hu (Classical.not_not.1 g7)];obtain⟨v,hv,e1,e2⟩:=qJy (l:=l) (i:=upN l p) (x:=⟨(atZ l (upN l p)).path,(atZ l (upN l p)).data,(atZ l (upN l p)).version,(atZ l (upN l p)).owner,(atZ l (upN l p)).next+1⟩) rfl rfl hm;exact⟨v,hv,e1.trans m3,e2.trans g4'⟩
def qXg (l:List q07):Prop:=l.Pairwise fun a b=>a.id<b.id
theorem q7h {l:List q07} {i:Nat} (h:i<l.length):l.getD i default=l[i]:=by simp[h]
theorem qAQ {l:List q07}:qXg l↔qMn l:=by
 unfold qXg qMn;rw[List.pairwise_iff_getElem];constructor
 ·intro h i j hij hj;rw[q7h hj,q7h (show i<l.length by omega)];exact h i j (by omega) hj hij
 ·intro h i j hi hj hij;have:=h i j hij hj
  rwa [q7h hj,q7h hi]at this
theorem q7c {l:List q07}:q1q l=0↔okS l:=by
 refine⟨q4T,fun h=>?_⟩;obtain⟨h1,h2,h3⟩:=h;unfold q1q;rw[if_neg (by omega)];refine qD7 fun i hi=>?_;unfold q8Z;have hm:l.getD i default∈l:=by rw[q7h hi];exact List.getElem_mem hi
 rw[if_neg (not_not_intro (h3 _ hm)),if_neg fun c=>by
  have h4:=h2 (i-1) i (by omega) hi;have h5:(l.getD i default).id≤(l.getD (i-1) default).id:=c.2;omega]
theorem okS.filter {l:List q07} (h:okS l) (q:q07→Bool):okS (l.filter q):=
 ⟨Nat.le_trans (List.length_filter_le _ _) h.1,qAQ.1 ((qAQ.2 h.2.1).sublist List.filter_sublist),fun s hs=>h.2.2 s (List.mem_filter.1 hs).1⟩
theorem qSH {l:List q07} {c:Int} (h:¬0≤sAt l c):∀s∈l,s.id≠c:=fun s hs e=>by
 have h2:=q6O (isS c) l;have h3:l.any (isS c)=true:=List.any_eq_true.2 ⟨s,hs,decide_eq_true e⟩;rw[h3]at h2;exact h (of_decide_eq_true h2)
theorem qTJ {l:List q07} {c now:Int} (h:okS l) (hc:inR c 1 9) (hn:inR now 0 9000) (h0:(q4S l c now).code=0):okS (q4S l c now).sessions:=by
 unfold q4S at h0⊢;split at h0
 ·cases h0
 rename_i g1;split at h0
 ·cases h0
 rename_i g2;rw[if_neg g1,if_neg g2];obtain⟨h1,h2,h3⟩:=h;have hq:=qAQ.2 h2;have hno:=qSH g1;have hle:q6y l c≤l.length:=qNf l c;have hlo:∀s∈l.take (q6y l c),s.id<c:=fun s hs=>by
  obtain⟨k,hk,rfl⟩:=List.getElem_of_mem hs;rw[List.length_take]at hk;have:=q9e (p:=qLS c) (l:=l) (k:=k) (by show k<q6y l c;omega);rw[List.getElem_take];have e:l[k]=l.getD k default:=(q7h (by omega)).symm;rw[e];exact of_decide_eq_true this
 have hhi:∀s∈l.drop (q6y l c),c<s.id:=fun s hs=>by
  obtain⟨k,hk,rfl⟩:=List.getElem_of_mem hs;rw[List.length_drop]at hk;rw[List.getElem_drop];have hx:q6y l c<l.length:=by omega
  have a1:¬(l.getD (q6y l c) default).id<c:=of_decide_eq_false (qDR (p:=qLS c) (l:=l) hx);have a2:=hno _ (show l.getD (q6y l c) default∈l by rw[q7h hx];exact List.getElem_mem hx);have e:l[q6y l c+k]=l.getD (q6y l c+k) default:=(q7h (by omega)).symm;rw[e];by_cases k0:k=0
  ·subst k0;rw[Nat.add_zero];omega
  ·have:=h2 (q6y l c) (q6y l c+k) (by omega) (by omega);omega
 refine⟨?_,qAQ.1 ?_,fun s hs=>?_⟩
 ·show(l.take _++_::l.drop _).length≤6;rw[List.length_append,List.length_cons,List.length_take,List.length_drop];omega
 ·unfold qXg;show List.Pairwise _ (l.take _++_::l.drop _);rw[List.pairwise_append];refine⟨hq.sublist (List.take_sublist _ _),List.pairwise_cons.2 ⟨hhi,hq.sublist (List.drop_sublist _ _)⟩,fun a ha b hb=>?_⟩;rcases List.mem_cons.1 hb with rfl|hb
  ·exact hlo a ha
  ·exact Int.lt_trans (hlo a ha) (hhi b hb)
 ·rcases List.mem_append.1 hs with hs|hs
  ·exact h3 s (List.mem_of_mem_take hs)
  ·rcases List.mem_cons.1 hs with rfl|hs
   ·unfold inR at hn⊢;exact⟨hc,by show 0≤now+10∧now+10≤9999;omega⟩
   ·exact h3 s (List.mem_of_mem_drop hs)
theorem qUj {l:List q07} {c:Int} (h:0≤sAt l c):(sAt l c).toNat<l.length:=by
 have h2:=qAq (isS c) l;have h3:q5l (isS c) l=sAt l c:=rfl;omega
theorem qOC {l:List q07} {c now:Int} (h:okS l) (hn:inR now 0 9000) (h0:(q44 l c now).code=0):okS (q44 l c now).sessions:=by
 unfold q44 at h0⊢;split at h0
 ·rename_i g;rw[if_pos g];obtain⟨h1,h2,h3⟩:=h;have hi:=qUj (of_decide_eq_true g).1;generalize (sAt l c).toNat=i at hi;have hid:∀j,((l.set i ⟨(l.getD i default).id,now+10⟩).getD j default).id=(l.getD j default).id:=fun j=>by
   by_cases e:j=i
   ·subst e;rw[q27 _ _ _ _ hi]
   ·rw[q1u _ _ _ _ e]
  refine⟨by show(l.set i _).length≤6;rw[List.length_set];exact h1,fun a b hab hb=>?_,fun s hs=>?_⟩
  ·show((l.set i _).getD a default).id<((l.set i _).getD b default).id;rw[hid,hid];exact h2 a b hab (by rw[show(_:q12).sessions=l.set i _ from rfl,List.length_set]at hb;exact hb)
  ·rcases List.mem_or_eq_of_mem_set hs with hs|rfl
   ·exact h3 s hs
   ·have hm:l.getD i default∈l:=by rw[q7h hi];exact List.getElem_mem hi
    unfold inR at hn;exact⟨(h3 _ hm).1,by unfold inR;show 0≤now+10∧now+10≤9999;omega⟩
 ·cases h0
def q2H (s:q06):Prop:=q1A s.nodes=0∧q1q s.sessions=0∧inR s.now 0 9000
theorem qBK {s:q06} {r:q16} {v:Int} (h:q2H s) (hr:r.code=0→q1A r.nodes=0):q2H (q6X s r v).1:=by
 unfold q6X;split
 ·exact h
 ·rename_i c;exact⟨hr (Classical.not_not.1 c),h.2⟩
theorem qXx {o:TOp} (h:opF o=0) (h2:q8j o.kind):q1I o.path=0:=Classical.byContradiction fun g=>by
 unfold opF at h;split at h
 ·cases h
 ·simp[h2,g]at h
theorem qUz {s:q06} {c:Int} {o:TOp} (h:q2H s) (hc:inR c 1 9) (ho:opF o=0):q2H (doS s c o)∧(doS s c o).now=s.now∧(doS s c o).marks=s.marks:=by
 have tr:∀(r:q16) (v:Int),(q6X s r v).1.now=s.now∧(q6X s r v).1.marks=s.marks:=fun r v=>by
  unfold q6X;split<;>exact⟨rfl,rfl⟩
 have ht:=q7f.1 h.1;have hs:=q7c.1 h.2.1;unfold doS doF;split
 ·split
  ·exact⟨h,rfl,rfl⟩
  ·rename_i g;exact⟨⟨h.1,q7c.2 (qTJ hs hc h.2.2 (Classical.not_not.1 g)),h.2.2⟩,rfl,rfl⟩
 split
 ·exact⟨h,rfl,rfl⟩
 split
 ·exact⟨⟨q7f.2 (ht.drop _),q7c.2 (hs.filter _),h.2.2⟩,rfl,rfl⟩
 split
 ·rename_i k;exact⟨qBK h fun g=>q7f.2 (qSm ht (qXx ho (by unfold q8j inR;omega)) g),tr _ _⟩
 split
 ·exact⟨qBK h fun g=>q7f.2 (qSk ht g),tr _ _⟩
 split
 ·exact⟨qBK h fun g=>q7f.2 (qTt ht g),tr _ _⟩
 ·exact⟨h,rfl,rfl⟩
def qDK (l:List q07) (c now:Int):List q07:=if(q44 l c now).code=0 then(q44 l c now).sessions else l
@[irreducible] def q5r (s:q06) (c t:Int):q06:=
 ⟨q2A s.nodes (q29 s.sessions (max s.now t)),qDK (q1M s.sessions (max s.now t)) c (max s.now t),max s.now t,s.marks⟩
theorem qCA {s:q06} {c t:Int} (h:q2H s) (ht:inR t 0 9000):q2H (q5r s c t)∧(q5r s c t).marks=s.marks:=by
 have hn:inR (max s.now t) 0 9000:=by
  have:=h.2.2;unfold inR at this ht⊢;omega
 unfold q5r;refine⟨⟨q7f.2 ((q7f.1 h.1).drop _),q7c.2 ?_,hn⟩,rfl⟩;show okS (qDK _ _ _);have ha:okS (q1M s.sessions (max s.now t)):=(q7c.1 h.2.1).filter _;unfold qDK;split
 ·rename_i g;exact qOC ha hn g
 ·exact ha
noncomputable def qN4 (c:Int) (base:q06):List TOp→Int→q06→q2E→q06×q2E
 |[],_,now,last=>(now,last)
 |o::r,i,now,last=>if(doR now c o).code≠0 then(base,⟨(doR now c o).code,i,q1f⟩)else qN4 c base r (i+1) (doS now c o) (doR now c o)
@[irreducible] noncomputable def q70 (s:q06) (c:Int) (ops:List TOp):q06:=(qN4 c s ops 0 s ⟨0,0,q1f⟩).1
@[irreducible] noncomputable def qGw (s:q06) (c:Int) (ops:List TOp):q2E:=(qN4 c s ops 0 s ⟨0,0,q1f⟩).2
theorem qPB {c:Int} {base:q06} (hb:q2H base) (hc:inR c 1 9):∀(l:List TOp) (i:Int) (now:q06) (last:q2E),(∀o∈l,opF o=0)→q2H now→now.marks=base.marks→
  q2H (qN4 c base l i now last).1∧(qN4 c base l i now last).1.marks=base.marks
 |[],i,now,last,_,hn,hm=>⟨hn,hm⟩
 |o::r,i,now,last,ho,hn,hm=>by
  unfold qN4;split
  ·exact⟨hb,rfl⟩
  ·obtain⟨h1,_,h3⟩:=qUz hn hc (ho o (List.mem_cons_self ..));exact qPB hb hc r (i+1) _ _ (fun x hx=>ho x (List.mem_cons_of_mem _ hx)) h1 (h3.trans hm)
theorem qIz {s:q06} {c:Int} {ops:List TOp} (h:q2H s) (hc:inR c 1 9) (ho:∀o∈ops,opF o=0):q2H (q70 s c ops)∧(q70 s c ops).marks=s.marks:=by
 unfold q70;exact qPB h hc ops 0 s _ ho h rfl
theorem qO9 {s:q06} {c:Int} {ops:List TOp} {s':q06} {r:q2E} (h:qN4 c s ops 0 s ⟨0,0,q1f⟩=(s',r)):q70 s c ops=s'∧qGw s c ops=r:=by
 unfold q70 qGw;rw[h];exact⟨rfl,rfl⟩
noncomputable def qJA (l:List TOp) (i:Nat):Int:=opF (l.getD i default)
noncomputable def q2T (o:TOp):Bool:=decide (o.kind=1∨o.kind=2)
noncomputable def q7T (r:q0E):Int:=
 if¬(inR r.client 1 9∧inR r.number 1 99∧inR r.time 0 9000)then 3 else if r.ops.length<1∨3<r.ops.length then 2
 else if q1s (qJA r.ops) r.ops.length≠0 then q1s (qJA r.ops) r.ops.length
 else if 1<r.ops.length∧r.ops.any q2T=true then 1 else 0
theorem qLi {r:q0E} (h:q7T r=0):inR r.client 1 9∧inR r.number 1 99∧inR r.time 0 9000∧1≤r.ops.length∧r.ops.length≤3∧∀o∈r.ops,opF o=0:=by
 unfold q7T at h;split at h
 ·cases h
 rename_i g1;split at h
 ·cases h
 rename_i g2;split at h
 ·rename_i g3;exact absurd h g3
 rename_i g3;obtain⟨a1,a2,a3⟩:=Classical.not_not.1 g1;refine⟨a1,a2,a3,by omega,by omega,fun o ho=>?_⟩;obtain⟨i,hi,rfl⟩:=List.getElem_of_mem ho;have:=q7H (Classical.not_not.1 g3) i hi;unfold qJA at this;simpa[hi]using this
noncomputable def q1O (s:q06) (r:q0E):q06:=q5r s r.client r.time
@[irreducible] noncomputable def qCF (s:q06) (r:q0E):q06:=
 if 0≤q72 s.marks r.client r.number then s else if 40≤s.marks.length then s
 else⟨(q70 (q1O s r) r.client r.ops).nodes,(q70 (q1O s r) r.client r.ops).sessions,(q70 (q1O s r) r.client r.ops).now,(q70 (q1O s r) r.client r.ops).marks++[⟨r.client,r.number,qGw (q1O s r) r.client r.ops⟩]⟩
@[irreducible] noncomputable def qDy (s:q06) (r:q0E):q2E:=
 if 0≤q72 s.marks r.client r.number then(q8V s.marks (q72 s.marks r.client r.number).toNat).reply else if 40≤s.marks.length then⟨0,0,q1f⟩else qGw (q1O s r) r.client r.ops
noncomputable def qCW (s:q06) (r:q0E):Int:=if 0≤q72 s.marks r.client r.number then 0 else if 40≤s.marks.length then 2 else 0
@[irreducible] noncomputable def q2Z (s:q06) (r:q0E):q0f:=
 if q1a s≠0 then⟨q1a s,⟨0,0,q1f⟩,⟨[],[],0,[]⟩⟩else if q7T r≠0 then⟨q7T r,⟨0,0,q1f⟩,⟨[],[],0,[]⟩⟩
 else if qCW s r≠0 then⟨qCW s r,⟨0,0,q1f⟩,⟨[],[],0,[]⟩⟩else⟨0,qDy s r,qCF s r⟩
end Go.Av
