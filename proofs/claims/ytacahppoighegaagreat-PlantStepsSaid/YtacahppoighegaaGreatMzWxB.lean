/- Helper lemmas. -/
import Derived.Test.YtacahppoighegaaGreatMzWbX
import Derived.Test.YtacahppoighegaaGreatMzWtD
import Derived.Test.YtacahppoighegaaGreatEvNine
set_option linter.unusedVariables false
set_option linter.unusedSimpArgs false
set_option maxRecDepth 100000
set_option maxHeartbeats 0
namespace Go.Proofs.Tryz.My
open Go Go.Ev
abbrev RK:AV := .agg [i64 0,i64 0,i64 0,i64 0,i64 0,i64 0,.nils]
theorem U1{t:r9}(h:V0 t=0):(0<=t.count/\t.count<=1099511627776)/\(0<=t.next/\t.next<=1099511627776)/\t.k9.length<=32:=by
 have b:=(aO.1 h).2;unfold fc at b;rw[zA2]at b;exact im.1 b.1
theorem sB{α:Type}(l:List α)(d:α)(h:0<l.length)(h2:l.length<2^40):(0<=IntKind.i64.wrap ((l.length:Int)-1)/\IntKind.i64.wrap ((l.length:Int)-1)<l.length)/\l.getD (IntKind.i64.wrap ((l.length:Int)-1)).toNat d=l.getD (l.length-1) d:=by
 rw[z5 _ va5 va5];exact⟨⟨va5,va5⟩,by congr 1;omega⟩
theorem AP(t:r9)(hv:V0 t=0)(hs:¬jA t=0):va6 115 [gp t] (.tup [RK,i64 0,i64 (jA t)]):=by
 have sz:=U1 hv;have c:=I1 t va5;rw[hv]at c;have z0:=sB t.k9 l9;unfold jA at hs ⊢;by_cases h0:0<t.k9.length
 ·by_cases h1:(t.k9.getD (t.k9.length-1) l9).cnt=t.count
  ·rw[if_pos ⟨h0,h1⟩];refine vb4 Tryz.func115 ?_;refine vc8 ?_ ?_ ?_<;>intros
   all_goals (first|rfl|(exfalso;have e:=(z0 va5 va5).2;clear z0;simp only[e]at *; omega))
  ·rw[if_neg (fun h=>h1 h.2)]at hs ⊢;split at hs
   ·rename_i h2;rw[if_pos h2];refine vb4 Tryz.func115 ?_;refine vc6 ?_;intros;all_goals (first|rfl|(exfalso;have e:=(z0 va5 va5).2;clear z0;simp only[e]at *; omega))
   ·exact absurd rfl hs
 ·rw[if_neg (fun h=>h0 h.1)]at hs ⊢;split at hs
  ·rename_i h2;rw[if_pos h2];refine pF Tryz.func115 ?_;conv=>whnf
   try exact va1
   all_goals rfl
  ·exact absurd rfl hs
abbrev a1E(t:r9):AV := .agg [i64 t.m0.step,i64 t.m0.v8,i64 t.m0.w9,i64 t.m0.len,i64 t.count,i64 t.next,.own 0]
theorem vw(t:r9)(hl:t.k9.length<2^20):va7 15 [gp t] [] (a1E t) [.vec 69 4 l9 C2 t.k9]:=by
 refine vb5 Tryz.func15 ?_;refine ve4 ?_;intros;refine⟨⟨u6,4,l9,C2,[]⟩,t.k9,rfl,⟨rfl,rfl⟩,rfl,?_,?_,fun y _=>⟨rfl,rfl,rfl⟩,?_⟩
 ·show(0+t.k9.length)*24<=_;omega
 ·show 0+t.k9.length<=_;omega
 conv=>whnf
 refine⟨[6],va4,vb3 ?_⟩;exact⟨rfl,rfl⟩
theorem yk(l:List u6)(hl:l.length<2^20):va7 31 [bE l] [] (.own 0) [.vec 69 4 l9 C2 l]:=by
 refine u4 hm Tryz.func31 va4 ⟨va4,vb3 ?_⟩;refine Or.inl (vb3 ?_);intro b hb;conv=>whnf
 refine⟨fun h=>?_,fun h=>?_⟩
 ·(conv=>whnf);refine Or.inr ⟨va4,.vec 69 4 l9 C2 [],rfl,vb3 ?_⟩;refine⟨[2],va4,vb3 ?_⟩;rw[hb h];exact⟨rfl,rfl⟩
 conv=>whnf
 refine⟨⟨u6,4,l9,C2,[]⟩,l,rfl,⟨rfl,rfl⟩,rfl,?_,?_,fun y _=>⟨rfl,rfl,rfl⟩,?_⟩
 ·show(0+l.length)*24<=_;omega
 ·show 0+l.length<=_;omega
 conv=>whnf
 refine⟨[7],va4,vb3 ?_⟩;exact⟨rfl,rfl⟩
theorem Ku(t:r9)(hI:A4 t.m0.step)(hv:V0 t=0)(hs:jA t=0):va6 86 [gp t] (.tup [gp (oF t),i64 t.next,i64 0]):=by
 have sz:=U1 hv;have c:=S6 t va5 hI;rw[hv]at c;unfold jA at hs;split at hs
 ·cases hs
 split at hs
 ·cases hs
 rename_i h1 h2;have w1:IntKind.i64.wrap (t.next+1)=t.next+1:=z5 _ va5 va5;have w2:IntKind.i64.wrap (IntKind.i64.wrap (t.next+1)-1)=t.next:=by rw[z5 (t.next+1) va5 va5,z5 _ va5 va5];omega
 have z0:=sB t.k9 l9;unfold oF;rw[<- w1];refine vb4 Tryz.func86 ?_;refine vc8 ?_ ?_ ?_<;>intros
 ·(exfalso;have e:=(z0 va5 va5).2;clear z0;simp only[e]at *; omega)
 ·refine va2 [] [40] (vb3 ?_);refine va3 [] (vw t va5) (vb3 ?_);refine ve4 ?_;intros;refine⟨⟨u6,4,l9,C2,t.k9⟩,[⟨t.next,t.count,0,false⟩],rfl,rfl,⟨rfl,rfl⟩,?_,?_,fun y _=>⟨rfl,rfl,rfl⟩,?_⟩
  ·show(t.k9.length+1)*24<=_;omega
  ·show t.k9.length+1<=_;omega
  refine ve4 ?_;intros;first|rfl|(rw[w2];rfl)
 ·refine va2 [] [40] (vb3 ?_);refine va3 [] (vw t va5) (vb3 ?_);refine ve4 ?_;intros;refine⟨⟨u6,4,l9,C2,t.k9⟩,[⟨t.next,t.count,0,false⟩],rfl,rfl,⟨rfl,rfl⟩,?_,?_,fun y _=>⟨rfl,rfl,rfl⟩,?_⟩
  ·show(t.k9.length+1)*24<=_;omega
  ·show t.k9.length+1<=_;omega
  refine ve4 ?_;intros;first|rfl|(rw[w2];rfl)
theorem wJ(t:r9)(hI:A4 t.m0.step)(hv:V0 t=0)(hs:¬jA t=0):va6 86 [gp t] (.tup [RK,i64 0,i64 (jA t)]):=by
 have sz:=U1 hv;have c:=S6 t va5 hI;rw[hv]at c;have z0:=sB t.k9 l9;unfold jA at hs ⊢;by_cases h0:0<t.k9.length
 ·by_cases h1:(t.k9.getD (t.k9.length-1) l9).cnt=t.count
  ·rw[if_pos ⟨h0,h1⟩];refine vb4 Tryz.func86 ?_;refine vc8 ?_ ?_ ?_<;>intros
   all_goals (first|rfl|(exfalso;have e:=(z0 va5 va5).2;clear z0;simp only[e]at *; omega))
  ·rw[if_neg (fun h=>h1 h.2)]at hs ⊢;split at hs
   ·rename_i h2;rw[if_pos h2];refine vb4 Tryz.func86 ?_;refine vc6 ?_;intros;all_goals (first|rfl|(exfalso;have e:=(z0 va5 va5).2;clear z0;simp only[e]at *; omega))
   ·exact absurd rfl hs
 ·rw[if_neg (fun h=>h0 h.1)]at hs ⊢;split at hs
  ·rename_i h2;rw[if_pos h2];refine pF Tryz.func86 ?_;conv=>whnf
   try exact va1
   all_goals rfl
  ·exact absurd rfl hs
def RL(l:List u6)(q:Int):Nat:=l.findIdx fun x=>decide (q<=x.id)
theorem HG{l:List u6}{q:Int}{i:Nat}(hi:i<=l.length)(h1:∀ m,m<i->(l.getD m l9).id<q)(h2:i<l.length->q<=(l.getD i l9).id):RL l q=i:=by
 unfold RL;rcases Nat.lt_trichotomy (l.findIdx fun x=>decide (q<=x.id)) i with h|h|h
 ·have hl:(l.findIdx fun x=>decide (q<=x.id))<l.length:=by omega
  have a:=List.findIdx_getElem (p:=fun x:u6=>decide (q<=x.id)) (xs:=l) (w:=hl);have b:=h1 _ h;rw[A6 hl]at b;have a:=zA1 a;omega
 ·exact h
 ·have hl:i<l.length:=zB5 h List.findIdx_le_length;have a:=List.not_of_lt_findIdx h;have b:=h2 hl;rw[A6 hl]at b;simp[b]at a
theorem OE{l:List u6}(h:List.Pairwise uX l){q:Int}{i:Nat}(hi:i<=l.length)(h1:∀ m,m<i->(l.getD m l9).id<q)(h2:∀ m,i<=m->m<l.length->q<=(l.getD m l9).id):l.any (Y3 q)=(decide (i<l.length) && decide ((l.getD i l9).id=q)):=by
 rw[Bool.eq_iff_iff,List.any_eq_true,zA2,zA3,zA3]
 constructor
 ·rintro⟨x,hm,e⟩;obtain⟨m,hm,e2⟩:=List.getElem_of_mem hm;have e:=zA1 e;have e3:(l.getD m l9).id=q:=by rw[A6 hm,e2];exact e
  rcases Nat.lt_trichotomy m i with z|z|z
  ·have:=h1 m z;omega
  ·subst z;exact⟨hm,e3⟩
  ·have a:(l.getD i l9).id<(l.getD m l9).id:=(ck (d:=l9) h z hm).1;have b:=h2 i (Nat.le_refl i) va5;omega
 ·rintro⟨a,b⟩;exact⟨l.getD i l9,G6 a,zA4 b⟩
theorem ym{l:List u6}(h:List.Pairwise uX l){q:Int}(ha:l.any (Y3 q)=true):RL l q=l.findIdx (Y3 q):=by
 have hf:=iu ha;have e:(l.getD (l.findIdx (Y3 q)) l9).id=q:=by
  have a:=List.findIdx_getElem (p:=Y3 q) (xs:=l) (w:=hf);rw[A6 hf];exact zA1 a
 refine HG va5 (fun m hm=>?_) (fun _=>by omega);have a:(l.getD m l9).id<(l.getD (l.findIdx (Y3 q)) l9).id:=(ck (d:=l9) h hm hf).1;omega
def wK(x:u6)(q:Int):Int:=if x.id<q then -1 else if q<x.id then 1 else 0
theorem Dp(x:u6)(q:Int):va6 201 [.agg (C2 x),i64 q] (i64 (wK x q)):=by
 unfold wK;refine vb4 Tryz.func201 ?_;refine ve6 ?_ ?_ ?_<;>intros
 all_goals (first|(rw[if_pos va5];done)|(rw[if_neg va5,if_pos va5];done)|(rw[if_neg va5,if_neg va5];done))
theorem HH(l:List u6)(hs:List.Pairwise uX l)(hl:l.length<2^39)(q:Int):va6 200 [bE l,i64 q,.fn (.func 201) [] []] (.tup [i64 (RL l q),.bool (l.any (Y3 q))]):=by
 refine vb4 Tryz.func200 ?_;refine Or.inr ⟨Nat×Nat,[9,10],[],[],fun i=>[i64 i.1,i64 i.2],fun _=>[],fun _=>[],fun i=>i.2-i.1,fun i=>i.1<=i.2/\i.2<=l.length/\(∀ m,m<i.1->(l.getD m l9).id<q)/\∀ m,i.2<=m->m<l.length->q<=(l.getD m l9).id,vb3 ?_⟩;refine⟨⟨(0,l.length),?_⟩,?_⟩
 ·(conv=>whnf);exact kK ⟨⟨zB4 _,Nat.le_refl _,fun m hm=>absurd hm (zB3 m),fun m h1 h2=>absurd h2 (Nat.not_lt.2 h1)⟩,rfl,rfl,rfl⟩
 ·rintro⟨i,j⟩ ⟨g1,g2,g3,g4⟩;simp only[]at g1 g2 g3 g4;conv=>whnf
  refine⟨fun h=>?_,fun h=>?_⟩
  ·have h:=zA1 h;simp only[]at h;conv=>whnf
   rw[Tt i j va5 va5];have e1:i<=(i+j) / 2:=by omega
   have e2:(i+j) / 2<j:=by omega
   generalize (i+j) / 2=m at *
   have z:l.getD (Int.toNat (m:Int)) l9=l.getD m l9:=rfl;have cx:=Dp (l.getD m l9) q;by_cases hc:(l.getD m l9).id<q
   ·rw[show wK (l.getD m l9) q = -1 by unfold wK;rw[if_pos hc]]at cx;refine vc6 ?_;intros;refine⟨(m+1,j),vb3 ?_⟩;refine kK ⟨⟨?_,by show m+1<=j;omega,g2,?_,g4⟩,?_,rfl,rfl⟩
    ·show j-(m+1)<j-i;omega
    ·intro p hp;have hp:p<m+1:=hp;by_cases e:p=m
     ·subst e;assumption
     ·have:(l.getD p l9).id<(l.getD m l9).id:=(ck (d:=l9) hs (show p<m by omega) va5).1;omega
    ·rw[z5 _ va5 va5];rfl
   ·have cp:0<=wK (l.getD m l9) q:=by unfold wK;rw[if_neg hc];split<;>omega
    generalize wK (l.getD m l9) q=cq at cx cp;refine vc6 ?_;intros;refine⟨(i,m),vb3 ?_⟩;refine kK ⟨⟨?_,e1,by show m<=l.length;omega,g3,?_⟩,rfl,rfl,rfl⟩
    ·show m-i<j-i;omega
    ·intro p h1 h2;have h1:m<=p:=h1;by_cases e:p=m
     ·subst e;omega
     ·have:(l.getD m l9).id<(l.getD p l9).id:=(ck (d:=l9) hs (show m<p by omega) h2).1;omega
  ·have h:=zA0 h;simp only[]at h;have e:i=j:=by omega
   subst e;rw[OE hs g2 g3 g4,HG g2 g3 (fun q=>g4 i (Nat.le_refl i) q)];have cx:=Dp (l.getD i l9) q;have z:l.getD (Int.toNat (i:Int)) l9=l.getD i l9:=rfl;have ci:wK (l.getD i l9) q=0↔(l.getD i l9).id=q:=by
    unfold wK;split
    ·exact⟨fun h=>absurd h va8,fun h=>by omega⟩
    ·split
     ·exact⟨fun h=>absurd h va8,fun h=>by omega⟩
     ·exact⟨fun _=>by omega,fun _=>rfl⟩
   generalize wK (l.getD i l9) q=cq at cx ci;refine vc7 ?_ ?_<;>intros
   all_goals (refine congrArg (fun z=>AV.tup [i64 i,AV.bool z]) ?_)
   ·rw[zA4 (show i<l.length by omega),Bool.true_and];exact decide_eq_decide.2 ci
   ·rw[zA5 (show ¬i<l.length by omega)];rfl
theorem RM(t:r9)(hv:V0 t=0)(q v:Int)(h:fv t q v=0):va6 157 [gp t,i64 q,u8 v] (.tup [gp (wE t q v),i64 0]):=by
 have g:=C7.1 hv;obtain⟨e1,e2,e3,e4⟩:=ya h;have sz:=U1 hv;have c:=I1 t va5;rw[hv]at c;have cb:=HH t.k9 g.up va5 q;rw[e2,ym g.up e2]at cb;have hb:=g.bl;have bl:=D3.1 hb;have c2:=oK t.m0 hb;have c3:=ld t.m0 hb t.m0.w9 bl.2.2.1.1 bl.2.2.1.2;have wr:=R7 hb bl.2.2.1.1 bl.2.2.1.2;have hf:=iu e2;have vx:=g.sn _ (G6 (d:=l9) hf);unfold wE;generalize t.k9.findIdx (Y3 q)=k at *
 have z:t.k9.getD (Int.toNat (k:Int)) l9=t.k9.getD k l9:=rfl;have w1:IntKind.i64.wrap ((t.k9.getD (Int.toNat (k:Int)) l9).cnt+Y1 t.m0 t.m0.w9)=(t.k9.getD k l9).cnt+Y1 t.m0 t.m0.w9:=by
  rw[z,z5 _ (by have:=vx.2;omega) (by have:=vx.2;omega)]
 refine vb4 Tryz.func157 ?_;refine vc6 ?_;intros;refine va2 [] [69] (vb3 ?_);refine va3 [] (yk t.k9 va5) (vb3 ?_);refine ve4 ?_;intros;refine⟨Vj (t.k9.getD k l9) v,rfl,hf,?_⟩;refine ve4 ?_;intros;try rfl
theorem Dq(t:r9)(hv:V0 t=0)(q v:Int)(h:¬fv t q v=0):va6 157 [gp t,i64 q,u8 v] (.tup [RK,i64 (fv t q v)]):=by
 have g:=C7.1 hv;have sz:=U1 hv;have c:=I1 t va5;rw[hv]at c;have cb:=HH t.k9 g.up va5 q;have hb:=g.bl;have bl:=D3.1 hb;have c2:=oK t.m0 hb;have c3:=ld t.m0 hb t.m0.w9 bl.2.2.1.1 bl.2.2.1.2;have wr:=R7 hb bl.2.2.1.1 bl.2.2.1.2;unfold fv at h ⊢;by_cases h1:v<1∨3<v
 ·rw[if_pos h1];refine pF Tryz.func157 ?_;conv=>whnf
  try exact va1
  all_goals rfl
 rw[if_neg h1]at h ⊢;by_cases e2:t.k9.any (Y3 q)=true
 ·rw[if_neg (fun f=>f e2)]at h ⊢;rw[e2,ym g.up e2]at cb;have hf:=iu e2;have vx:=g.sn _ (G6 (d:=l9) hf);generalize t.k9.findIdx (Y3 q)=k at *
  have z:t.k9.getD (Int.toNat (k:Int)) l9=t.k9.getD k l9:=rfl;have w1:IntKind.i64.wrap ((t.k9.getD (Int.toNat (k:Int)) l9).cnt+Y1 t.m0 t.m0.w9)=(t.k9.getD k l9).cnt+Y1 t.m0 t.m0.w9:=by
   rw[z,z5 _ (by have:=vx.2;omega) (by have:=vx.2;omega)]
  split at h
  ·rename_i h3;rw[if_pos h3];refine vb4 Tryz.func157 ?_;refine vc6 ?_;intros;all_goals (first|rfl|(exfalso;rw[z]at *; omega))
  ·exact absurd rfl h
 ·rw[if_pos e2]at h ⊢;have e2:t.k9.any (Y3 q)=false:=by simpa using e2
  rw[e2]at cb;refine pF Tryz.func157 ?_;conv=>whnf
  try exact va1
  all_goals rfl
theorem VL{l:List u6}{q:Int}{k:Nat}(hk:k<l.length)(h0:∀ j,j<k->¬(l.getD j l9).id=q)(h:(l.getD k l9).id=q):l.any (Y3 q)=true/\l.findIdx (Y3 q)=k:=by
 have hf:l.any (Y3 q)=true:=List.any_eq_true.2 ⟨_,G6 hk,zA4 h⟩;refine⟨hf,?_⟩;have z8:=iu hf;have a:=List.findIdx_getElem (p:=Y3 q) (xs:=l) (w:=z8);have a:(l.getD (l.findIdx (Y3 q)) l9).id=q:=by rw[A6 z8];exact zA1 a
 rcases Nat.lt_trichotomy (l.findIdx (Y3 q)) k with z|z|z
 ·exact absurd a (h0 _ z)
 ·exact z
 ·have b:=List.not_of_lt_findIdx z;exfalso;have Ld:Y3 q l[k]=true:=zA4 (by rw[<- A6 hk (d:=l9)];exact h);rw[Ld]at b;simp at b
theorem OF{l:List u6}{q:Int}(h0:∀ j,j<l.length->¬(l.getD j l9).id=q):l.any (Y3 q)=false:=by
 rw[<- Bool.not_eq_true,List.any_eq_true];rintro⟨x,hx,e⟩;obtain⟨m,hm,e2⟩:=List.getElem_of_mem hx;exact h0 m hm (by rw[A6 hm,e2];exact zA1 e)
theorem OG(t:r9)(hI:A4 t.m0.step)(hv:V0 t=0)(q v:Int):va6 133 [gp t,i64 q,u8 v] (if fv t q v=0 then .tup [gp (wE t q v),i64 0]else .tup [RK,i64 (fv t q v)]):=by
 have g:=C7.1 hv;have sz:=U1 hv;have c:=S6 t va5 hI;rw[hv]at c;have hb:=g.bl;have bl:=D3.1 hb;have c3:=sy t.m0 hb t.m0.w9 bl.2.2.1.1 bl.2.2.1.2;have wr:=R7 hb bl.2.2.1.1 bl.2.2.1.2;by_cases h1:v<1∨3<v
 ·unfold fv;rw[if_pos h1];refine pF Tryz.func133 ?_;conv=>whnf
  try exact va1
 ·refine vb4 Tryz.func133 ?_;refine vc6 ?_;(repeat intro hh);refine va2 [] [35] (vb3 ?_);refine va3 [] (vw t va5) (vb3 ?_);refine Or.inr ⟨Nat,[11],[],[],fun k=>[i64 k],fun _=>[],fun _=>[],fun k=>t.k9.length-k,fun k=>k<=t.k9.length/\∀ j,j<k->¬(t.k9.getD j l9).id=q,vb3 ?_⟩;refine⟨⟨0,?_⟩,?_⟩
  ·(conv=>whnf);exact kK ⟨⟨zB4 _,fun j hj=>absurd hj (zB3 j)⟩,rfl,rfl,rfl⟩
  rintro k ⟨hk,hn⟩;have z:t.k9.getD (Int.toNat (k:Int)) l9=t.k9.getD k l9:=rfl;conv=>whnf
  refine⟨fun h=>?_,fun h=>?_⟩
  ·have h:=zA1 h;have L4:k<t.k9.length:=by omega
   have vx:=g.sn _ (G6 (d:=l9) L4);have w1:IntKind.i64.wrap ((t.k9.getD (Int.toNat (k:Int)) l9).cnt+Y1 t.m0 t.m0.w9)=(t.k9.getD k l9).cnt+Y1 t.m0 t.m0.w9:=by
    rw[z,z5 _ (by have:=vx.2;omega) (by have:=vx.2;omega)]
   have x1:¬(t.k9.getD k l9).id=q->¬(t.k9.getD (Int.toNat (k:Int)) l9).id=q:=fun h=>h
   have x2:(t.k9.getD k l9).id=q->(t.k9.getD (Int.toNat (k:Int)) l9).id=q:=fun h=>h
   by_cases hq:(t.k9.getD k l9).id=q
   ·obtain⟨f1,f2⟩:=VL L4 hn hq;have x2:=x2 hq;clear x1;by_cases h3:¬(t.k9.getD k l9).o5=0∨(t.k9.getD k l9).cnt+Y1 t.m0 t.m0.w9<=t.count
    ·have et:fv t q v=91:=by unfold fv;rw[if_neg h1,if_neg (fun n=>n f1),f2,if_pos h3]
     conv=>whnf
     refine vf4 ?_ ?_ ?_<;>(repeat intro hh)
     all_goals (first|(rw[if_neg (by rw[et];decide),et];done)|(exfalso;rw[z]at *; omega))
    ·have et:fv t q v=0:=by unfold fv;rw[if_neg h1,if_neg (fun n=>n f1),f2,if_neg h3]
     conv=>whnf
     refine vf3 ?_ ?_<;>(repeat intro hh)
     ·exact absurd (Or.inl hh) h3
     refine⟨Vj (t.k9.getD k l9) v,rfl,L4,?_⟩;refine vf2 ?_;(repeat intro hh);rw[if_pos et];unfold wE;rw[f2];try rfl
   ·have x1:=x1 hq;conv=>whnf
    refine vf2 ?_;(repeat intro hh);refine⟨k+1,vb3 ?_⟩;refine kK ⟨⟨?_,?_,fun j hj=>?_⟩,?_,rfl,rfl⟩
    ·show t.k9.length-(k+1)<t.k9.length-k;omega
    ·show k+1<=t.k9.length;omega
    ·by_cases z:j=k
     ·subst z;exact hq
     ·exact hn j (by have hj:j<k+1:=hj;omega)
    ·rw[z5 _ va5 va5];rfl
  ·have h:=zA0 h;have ek:k=t.k9.length:=by omega
   rw[ek]at hn;conv=>whnf
   have et:fv t q v=6:=by unfold fv;rw[if_neg h1,if_pos (by rw[OF hn];decide)]
   rw[if_neg (by rw[et];decide),et]
theorem AQ{b:H2}(hb:J3 b=true){x:u6}(hx:0<=x.cnt/\x.cnt<=1099511627776):IntKind.i64.wrap (x.cnt+Y1 b b.w9)=x.cnt+Y1 b b.w9/\IntKind.i64.wrap (x.cnt+M4 b b.w9)=x.cnt+M4 b b.w9:=by
 have bl:=D3.1 hb;have wr:=R7 hb bl.2.2.1.1 bl.2.2.1.2;exact⟨z5 _ va5 va5,z5 _ va5 va5⟩
theorem HI(b:H2)(hb:J3 b=true)(x:u6)(hx:0<=x.cnt/\x.cnt<=1099511627776)(n:Int):va6 185 [zF b,.agg (C2 x),i64 n] (.bool (K2 b x n)):=by
 have bl:=D3.1 hb;have c3:=sy b hb b.w9 bl.2.2.1.1 bl.2.2.1.2;have c4:=J0 n (IntKind.i64.wrap (x.cnt+Y1 b b.w9)) (IntKind.i64.wrap (x.cnt+M4 b b.w9));have w:=AQ hb hx;have e:(decide (IntKind.i64.wrap (x.cnt+Y1 b b.w9)<=n) && decide (n<=IntKind.i64.wrap (x.cnt+M4 b b.w9)))=K2 b x n:=by rw[w.1,w.2];rfl
 rw[e]at c4;refine pF Tryz.func185 ?_;conv=>whnf
 try exact va1
 all_goals rfl
theorem Dr{l:List u6}{p:u6->Bool}(h:∀ j,j<l.length->p (l.getD j l9)=false):l.any p=false:=by
 rw[<- Bool.not_eq_true,List.any_eq_true];rintro⟨x,hx,e⟩;obtain⟨m,hm,e2⟩:=List.getElem_of_mem hx;have:=h m hm;rw[A6 hm,e2,e]at this;cases this
theorem yn(t:r9)(hb:J3 t.m0=true)(hl:t.k9.length<2^20)(hp:∀ x,x ∈ t.k9->0<=x.cnt/\x.cnt<=1099511627776)(n:Int):va6 134 [gp t,i64 n] (.bool (N5 t n)):=by
 refine vb4 Tryz.func134 ?_;refine Or.inr ⟨Nat,[5],[],[],fun k=>[i64 k],fun _=>[],fun _=>[],fun k=>t.k9.length-k,fun k=>k<=t.k9.length/\∀ j,j<k->(!decide ((t.k9.getD j l9).o5=1) && K2 t.m0 (t.k9.getD j l9) n)=false,vb3 ?_⟩;refine⟨⟨0,?_⟩,?_⟩
 ·(conv=>whnf);exact kK ⟨⟨zB4 _,fun j hj=>absurd hj (zB3 j)⟩,rfl,rfl,rfl⟩
 rintro k ⟨hk,hn⟩;conv=>whnf
 refine⟨fun h=>?_,fun h=>?_⟩
 ·have h:=zA1 h;have L4:k<t.k9.length:=by omega
  have cm:=HI t.m0 hb (t.k9.getD k l9) (hp _ (G6 L4)) n;have yes:(!decide ((t.k9.getD k l9).o5=1) && K2 t.m0 (t.k9.getD k l9) n)=true->N5 t n=true:=fun e=>List.any_eq_true.2 ⟨_,G6 L4,e⟩
  conv=>whnf
  by_cases hv:(t.k9.getD k l9).o5=1
  ·have z:(t.k9.getD (Int.toNat (k:Int)) l9).o5=1:=hv;refine vf0 ?_;(repeat intro hh)
   ·refine⟨k+1,vb3 ?_⟩;refine kK ⟨⟨?_,?_,fun j hj=>?_⟩,?_,rfl,rfl⟩
    ·show t.k9.length-(k+1)<t.k9.length-k;omega
    ·show k+1<=t.k9.length;omega
    ·by_cases z:j=k
     ·subst z;rw[zA4 hv];rfl
     ·exact hn j (by have hj:j<k+1:=hj;omega)
    ·rw[z5 _ va5 va5];rfl
  ·have z:¬(t.k9.getD (Int.toNat (k:Int)) l9).o5=1:=hv;rw[zA5 hv]at yes;refine vf1 ?_ ?_<;>(repeat intro hh)
   ·rw[yes hh]
   ·refine⟨k+1,vb3 ?_⟩;refine kK ⟨⟨?_,?_,fun j hj=>?_⟩,?_,rfl,rfl⟩
    ·show t.k9.length-(k+1)<t.k9.length-k;omega
    ·show k+1<=t.k9.length;omega
    ·by_cases z:j=k
     ·subst z;rw[zA5 hv];exact hh
     ·exact hn j (by have hj:j<k+1:=hj;omega)
    ·rw[z5 _ va5 va5];rfl
 ·have h:=zA0 h;have ek:k=t.k9.length:=by omega
  rw[ek]at hn;conv=>whnf
  have e:N5 t n=false:=Dr hn;rw[e];all_goals rfl
theorem Dt(t:r9)(hI:A4 t.m0.step)(hv:V0 t=0):va6 83 [gp t] (.tup [.bool (N5 t (t.count+1)),i64 0]):=by
 have g:=C7.1 hv;have sz:=U1 hv;have c:=S6 t va5 hI;rw[hv]at c;have w1:IntKind.i64.wrap (t.count+1)=t.count+1:=z5 _ va5 va5;have c2:=yn t g.bl va5 (fun x hx=>by have:=(g.sn x hx).2;omega) (IntKind.i64.wrap (t.count+1));rw[w1]at c2;rw[<- w1]at c2;refine vb4 Tryz.func83 ?_;refine vc6 ?_;intros;rw[w1]
def oO(t:r9)(x:u6):Bool:=decide (x.cnt+M4 t.m0 t.m0.w9=t.count+1)
def cX(t:r9)(k:Nat):List Z9:=(((hits t).take k).filter (oO t)).map bH
def dz(t:r9)(k:Nat):List u6:=((hits t).take k).filter (fun x => !oO t x)
theorem qu{t:r9}{k:Nat}(hk:k<t.k9.length):(hits t).take (k+1)=(hits t).take k++[G5 t.m0 (N5 t (t.count+1)) (t.count+1) (t.k9.getD k l9)]:=by
 have hl:=ab t;rw[List.take_add_one,<- Y5 t k hk,zA6 va5,A6 va5];rfl
theorem rh(t:r9)(k:Nat):((hits t).take k).length<=k:=by rw[zB1];omega
theorem OH(t:r9)(k:Nat):(cX t k).length<=k:=by
 unfold cX;rw[List.length_map];exact Nat.le_trans (List.length_filter_le _ _) (rh t k)
theorem OI(t:r9)(k:Nat):(dz t k).length<=k:=Nat.le_trans (List.length_filter_le _ _) (rh t k)
theorem yp(t:r9)(op:Bool)(n:Int)(x:u6):oO t (G5 t.m0 op n x)=oO t x:=rfl
theorem qw{t:r9}{k:Nat}(hk:k<t.k9.length){op B:Bool}(bf:N5 t (t.count+1)=op)(hB:((t.k9.getD k l9).hit || (op && K2 t.m0 (t.k9.getD k l9) (t.count+1)))=B)(hg:oO t (t.k9.getD k l9)=true) :
  cX t (k+1)=cX t k++[⟨(t.k9.getD k l9).id,(t.k9.getD k l9).o5,B⟩]/\dz t (k+1)=dz t k:=by
 unfold cX dz;rw[qu hk,bf,List.filter_append,List.filter_append,List.map_append];simp only[List.filter_cons,List.filter_nil,yp,hg,Bool.not_true,zB0,if_false,if_true,List.append_nil,List.map_cons,List.map_nil];refine⟨?_,trivial⟩;rw[<- hB];rfl
theorem qx{t:r9}{k:Nat}(hk:k<t.k9.length){op B:Bool}(bf:N5 t (t.count+1)=op)(hB:((t.k9.getD k l9).hit || (op && K2 t.m0 (t.k9.getD k l9) (t.count+1)))=B)(hg:oO t (t.k9.getD k l9)=false) :
  dz t (k+1)=dz t k++[⟨(t.k9.getD k l9).id,(t.k9.getD k l9).cnt,(t.k9.getD k l9).o5,B⟩]/\cX t (k+1)=cX t k:=by
 unfold cX dz;rw[qu hk,bf,List.filter_append,List.filter_append,List.map_append];simp only[List.filter_cons,List.filter_nil,yp,hg,Bool.not_false,zB0,if_false,if_true,List.append_nil,List.map_cons,List.map_nil];refine⟨?_,trivial⟩;rw[<- hB];rfl
theorem Kv{t:r9}(g:S5 t):dz t t.k9.length=(W9 t).k9/\cX t t.k9.length=aW t:=by
 have h:=T4 g;have e:(hits t).take t.k9.length=hits t:=List.take_of_length_le (by rw[ab];omega);unfold dz cX;rw[e];exact⟨h.1,(congrArg (List.map bH) h.2).trans (by unfold aW;split<;>rfl)⟩
theorem Kw(t:r9)(g:S5 t)(hc:t.count<1099511627776):va6 135 [gp t] (.tup [gp (W9 t),lU (aW t)]):=by
 have hb:=g.bl;have ln:=g.ln;have ct:=g.ct;have bl:=D3.1 hb;have c3:=sy t.m0 hb t.m0.w9 bl.2.2.1.1 bl.2.2.1.2;have wr:=R7 hb bl.2.2.1.1 bl.2.2.1.2;have w1:IntKind.i64.wrap (t.count+1)=t.count+1:=z5 _ va5 va5;have c2:=yn ⟨t.m0,IntKind.i64.wrap (t.count+1),t.next,t.k9⟩ g.bl (by show t.k9.length<_;omega) (fun x hx=>by have:=(g.sn x hx).2;omega) (IntKind.i64.wrap (t.count+1));have eo:N5 ⟨t.m0,IntKind.i64.wrap (t.count+1),t.next,t.k9⟩ (IntKind.i64.wrap (t.count+1))=N5 t (t.count+1):=by rw[w1];rfl
 rw[eo]at c2;generalize bf:N5 t (t.count+1)=op at c2;refine vb4 Tryz.func135 ?_;refine vc6 ?_;intros;refine Or.inr ⟨Nat,[9],[],[(7,⟨Z9,145,3,aP,aQ⟩),(8,⟨u6,69,4,l9,C2⟩)],fun k=>[i64 k],fun _=>[],fun k=>[.vec 145 3 aP aQ (cX t k),.vec 69 4 l9 C2 (dz t k)],fun k=>t.k9.length-k,fun k=>k<=t.k9.length,vb3 ?_⟩;refine⟨⟨0,?_⟩,?_⟩
 ·(conv=>whnf);exact kK ⟨zB4 _,rfl,rfl,rfl⟩
 intro k hk;conv=>whnf
 refine⟨fun h=>?_,fun h=>?_⟩
 ·have h:=zA1 h;have L4:k<t.k9.length:=by omega
  have hx:=qu L4;rw[bf]at hx;have fl:=OH t k;have ll:=OI t k;have vx:=g.sn _ (G6 (d:=l9) L4);have hw:=AQ hb (x:=t.k9.getD k l9) (by have:=vx.2;omega);have wg:IntKind.i64.wrap ((t.k9.getD (Int.toNat (k:Int)) l9).cnt+M4 t.m0 t.m0.w9)=(t.k9.getD k l9).cnt+M4 t.m0 t.m0.w9:=hw.2;have cm:=HI t.m0 hb (t.k9.getD k l9) (by have:=vx.2;omega) (IntKind.i64.wrap (t.count+1));rw[w1]at cm;rw[<- w1]at cm;have gx:oO t (t.k9.getD k l9)=decide ((t.k9.getD k l9).cnt+M4 t.m0 t.m0.w9=t.count+1):=rfl;have hwt:K2 t.m0 (t.k9.getD k l9) (IntKind.i64.wrap (t.count+1))=K2 t.m0 (t.k9.getD k l9) (t.count+1):=by rw[w1]
  rw[hwt]at cm;generalize ZC:K2 t.m0 (t.k9.getD k l9) (t.count+1)=he at cm;by_cases hg:oO t (t.k9.getD k l9)=true
  ·have hgg:(t.k9.getD k l9).cnt+M4 t.m0 t.m0.w9=t.count+1:=by rw[gx]at hg;exact zA1 hg
   cases op
   ·have hB:((t.k9.getD k l9).hit || (false && K2 t.m0 (t.k9.getD k l9) (t.count+1)))=(t.k9.getD k l9).hit:=by simp
    conv=>whnf
    refine vf0 ?_;intros;refine⟨⟨Z9,3,aP,aQ,cX t k⟩,[⟨(t.k9.getD k l9).id,(t.k9.getD k l9).o5,(t.k9.getD k l9).hit⟩],rfl,rfl,⟨rfl,rfl⟩,?_,?_,fun y _=>⟨rfl,rfl,rfl⟩,?_⟩
    ·show((cX t k).length+1)*16<=_;omega
    ·show(cX t k).length+1<=_;omega
    have sg:=qw L4 bf hB hg;refine vf2 ?_;intros;refine⟨k+1,vb3 ?_⟩;refine kK ⟨⟨?_,?_⟩,?_,rfl,?_⟩
    ·show t.k9.length-(k+1)<t.k9.length-k;omega
    ·show k+1<=t.k9.length;omega
    ·rw[z5 _ va5 va5];rfl
    ·show _=[Row.vec 145 3 aP aQ (cX t (k+1)),Row.vec 69 4 l9 C2 (dz t (k+1))];rw[sg.1,sg.2]<;>rfl
   ·cases he
    ·have hB:((t.k9.getD k l9).hit || (true && K2 t.m0 (t.k9.getD k l9) (t.count+1)))=(t.k9.getD k l9).hit:=by rw[ZC];simp
     conv=>whnf
     refine vf0 ?_;intros;refine⟨⟨Z9,3,aP,aQ,cX t k⟩,[⟨(t.k9.getD k l9).id,(t.k9.getD k l9).o5,(t.k9.getD k l9).hit⟩],rfl,rfl,⟨rfl,rfl⟩,?_,?_,fun y _=>⟨rfl,rfl,rfl⟩,?_⟩
     ·show((cX t k).length+1)*16<=_;omega
     ·show(cX t k).length+1<=_;omega
     have sg:=qw L4 bf hB hg;refine vf2 ?_;intros;refine⟨k+1,vb3 ?_⟩;refine kK ⟨⟨?_,?_⟩,?_,rfl,?_⟩
     ·show t.k9.length-(k+1)<t.k9.length-k;omega
     ·show k+1<=t.k9.length;omega
     ·rw[z5 _ va5 va5];rfl
     ·show _=[Row.vec 145 3 aP aQ (cX t (k+1)),Row.vec 69 4 l9 C2 (dz t (k+1))];rw[sg.1,sg.2]<;>rfl
    ·have hB:((t.k9.getD k l9).hit || (true && K2 t.m0 (t.k9.getD k l9) (t.count+1)))=true:=by rw[ZC];simp
     conv=>whnf
     refine vf0 ?_;intros;refine⟨⟨Z9,3,aP,aQ,cX t k⟩,[⟨(t.k9.getD k l9).id,(t.k9.getD k l9).o5,true⟩],rfl,rfl,⟨rfl,rfl⟩,?_,?_,fun y _=>⟨rfl,rfl,rfl⟩,?_⟩
     ·show((cX t k).length+1)*16<=_;omega
     ·show(cX t k).length+1<=_;omega
     have sg:=qw L4 bf hB hg;refine vf2 ?_;intros;refine⟨k+1,vb3 ?_⟩;refine kK ⟨⟨?_,?_⟩,?_,rfl,?_⟩
     ·show t.k9.length-(k+1)<t.k9.length-k;omega
     ·show k+1<=t.k9.length;omega
     ·rw[z5 _ va5 va5];rfl
     ·show _=[Row.vec 145 3 aP aQ (cX t (k+1)),Row.vec 69 4 l9 C2 (dz t (k+1))];rw[sg.1,sg.2]<;>rfl
  ·have hgg:¬(t.k9.getD k l9).cnt+M4 t.m0 t.m0.w9=t.count+1:=by rw[gx]at hg;exact fun h=>hg (zA4 h)
   have hg:oO t (t.k9.getD k l9)=false:=by simpa using hg
   cases op
   ·have hB:((t.k9.getD k l9).hit || (false && K2 t.m0 (t.k9.getD k l9) (t.count+1)))=(t.k9.getD k l9).hit:=by simp
    conv=>whnf
    refine vf0 ?_;intros;refine⟨⟨u6,4,l9,C2,dz t k⟩,[⟨(t.k9.getD k l9).id,(t.k9.getD k l9).cnt,(t.k9.getD k l9).o5,(t.k9.getD k l9).hit⟩],rfl,rfl,⟨rfl,rfl⟩,?_,?_,fun y _=>⟨rfl,rfl,rfl⟩,?_⟩
    ·show((dz t k).length+1)*24<=_;omega
    ·show(dz t k).length+1<=_;omega
    have sg:=qx L4 bf hB hg;refine vf2 ?_;intros;refine⟨k+1,vb3 ?_⟩;refine kK ⟨⟨?_,?_⟩,?_,rfl,?_⟩
    ·show t.k9.length-(k+1)<t.k9.length-k;omega
    ·show k+1<=t.k9.length;omega
    ·rw[z5 _ va5 va5];rfl
    ·show _=[Row.vec 145 3 aP aQ (cX t (k+1)),Row.vec 69 4 l9 C2 (dz t (k+1))];rw[sg.1,sg.2]<;>rfl
   ·cases he
    ·have hB:((t.k9.getD k l9).hit || (true && K2 t.m0 (t.k9.getD k l9) (t.count+1)))=(t.k9.getD k l9).hit:=by rw[ZC];simp
     conv=>whnf
     refine vf0 ?_;intros;refine⟨⟨u6,4,l9,C2,dz t k⟩,[⟨(t.k9.getD k l9).id,(t.k9.getD k l9).cnt,(t.k9.getD k l9).o5,(t.k9.getD k l9).hit⟩],rfl,rfl,⟨rfl,rfl⟩,?_,?_,fun y _=>⟨rfl,rfl,rfl⟩,?_⟩
     ·show((dz t k).length+1)*24<=_;omega
     ·show(dz t k).length+1<=_;omega
     have sg:=qx L4 bf hB hg;refine vf2 ?_;intros;refine⟨k+1,vb3 ?_⟩;refine kK ⟨⟨?_,?_⟩,?_,rfl,?_⟩
     ·show t.k9.length-(k+1)<t.k9.length-k;omega
     ·show k+1<=t.k9.length;omega
     ·rw[z5 _ va5 va5];rfl
     ·show _=[Row.vec 145 3 aP aQ (cX t (k+1)),Row.vec 69 4 l9 C2 (dz t (k+1))];rw[sg.1,sg.2]<;>rfl
    ·have hB:((t.k9.getD k l9).hit || (true && K2 t.m0 (t.k9.getD k l9) (t.count+1)))=true:=by rw[ZC];simp
     conv=>whnf
     refine vf0 ?_;intros;refine⟨⟨u6,4,l9,C2,dz t k⟩,[⟨(t.k9.getD k l9).id,(t.k9.getD k l9).cnt,(t.k9.getD k l9).o5,true⟩],rfl,rfl,⟨rfl,rfl⟩,?_,?_,fun y _=>⟨rfl,rfl,rfl⟩,?_⟩
     ·show((dz t k).length+1)*24<=_;omega
     ·show(dz t k).length+1<=_;omega
     have sg:=qx L4 bf hB hg;refine vf2 ?_;intros;refine⟨k+1,vb3 ?_⟩;refine kK ⟨⟨?_,?_⟩,?_,rfl,?_⟩
     ·show t.k9.length-(k+1)<t.k9.length-k;omega
     ·show k+1<=t.k9.length;omega
     ·rw[z5 _ va5 va5];rfl
     ·show _=[Row.vec 145 3 aP aQ (cX t (k+1)),Row.vec 69 4 l9 C2 (dz t (k+1))];rw[sg.1,sg.2]<;>rfl
 ·have h:=zA0 h;have ek:k=t.k9.length:=by omega
  subst ek;have af:=Kv g;conv=>whnf
  rw[af.1,af.2,w1];rfl
theorem OJ(t:r9):(aW t).length<=1:=by unfold aW;split<;>simp
theorem ri(t:r9)(hI:A4 t.m0.step)(hv:V0 t=0)(hc:t.count<1099511627776):va6 84 [gp t,i64 1] (.tup [gp (W9 t),lU (aW t),i64 0]):=by
 have g:=C7.1 hv;have sz:=U1 hv;have c:=S6 t va5 hI;rw[hv]at c;have c2:=J0 1 1 1000;rw[show(decide ((1:Int)<=1) && decide ((1:Int)<=1000))=true from rfl]at c2;have c3:=vp t va5;have c4:=Kw t g hc;have w1:IntKind.i64.wrap (t.count+1)=t.count+1:=z5 _ va5 va5;have fl:=OJ t;refine vb4 Tryz.func84 ?_;refine vc6 ?_;intros;refine Or.inl ⟨2,vb3 ?_⟩;refine vb6 ?_;intros;refine⟨⟨Z9,3,aP,aQ,[]⟩,aW t,rfl,rfl,rfl,?_,?_,fun y _=>⟨rfl,rfl,rfl⟩,?_⟩
 ·show(0+(aW t).length)*16<=_;omega
 ·show 0+(aW t).length<=_;omega
 conv=>whnf
 refine vb6 ?_;intros;all_goals rfl
def HJ(b:H2)(n x:Int)(p:AV):List AV:=[i64 b.step,i64 b.v8,i64 b.w9,i64 b.len,i64 n,i64 x,p,i64 (Y1 b b.w9),i64 (M4 b b.w9)]
abbrev RN(b:H2)(c x:Int)(p:AV):AV := .pt (HJ b c x p) 0
theorem oP(b:H2)(hb:J3 b=true)(c x:Int)(l:List u6)(s:u6)(hs:0<=s.cnt/\s.cnt<=1099511627776)(n:Int):va6 160 [RN b c x (bE l),.agg (C2 s),i64 n] (.bool (K2 b s n)):=by
 have w:=AQ hb hs;have e:K2 b s n=(decide (IntKind.i64.wrap (s.cnt+Y1 b b.w9)<=n) && decide (n<=IntKind.i64.wrap (s.cnt+M4 b b.w9))):=by rw[w.1,w.2];rfl
 rw[e];refine vb4 Tryz.func160 ?_;refine ve5 ?_ ?_<;>intros
 all_goals (first|(refine congrArg AV.bool (Bool.eq_iff_iff.2 ?_);simp only[zA2,zA9,Bool.not_eq_true',zA3,decide_eq_false_iff_not,zB0,iff_false,iff_true,true_iff,false_iff,reduceCtorEq,not_true_eq_false,not_false_eq_true];omega))
theorem Kx(b:H2)(hb:J3 b=true)(c x:Int)(l:List u6)(s:u6)(hs:0<=s.cnt/\s.cnt<=1099511627776)(n:Int):va6 203 [.agg (C2 s),.pt [RN b c x (bE l)] 0,.pt [i64 n] 0] (.bool (!decide (s.o5=1) && K2 b s n)):=by
 have ch:=oP b hb c x l s hs n;refine vb4 Tryz.func203 ?_;by_cases h:s.o5=1
 ·rw[zA4 h];try exact va1
 ·rw[zA5 h];try exact va1
def WN(p:u6->Bool)(l:List u6):Int:=if l.any p=true then(l.findIdx p:Nat)else -1
theorem FX(b:H2)(c x n:Int)(q:List u6)(p:u6->Bool)(l:List u6)(hp:∀ s,s ∈ l->va6 203 (.agg (C2 s) :: [.pt [RN b c x (bE q)] 0,.pt [i64 n] 0]) (.bool (p s)))(hl:l.length<2^20):va6 239 [bE l,.fn (.func 203) [] [.pt [RN b c x (bE q)] 0,.pt [i64 n] 0]] (i64 (WN p l)):=by
 refine vb4 Tryz.func239 ?_;refine Or.inr ⟨Nat,[8],[],[],fun k=>[i64 k],fun _=>[],fun _=>[],fun k=>l.length-k,fun k=>k<=l.length/\∀ m,m<k->p (l.getD m l9)=false,vb3 ?_⟩;refine⟨⟨0,?_⟩,?_⟩
 ·(conv=>whnf);exact kK ⟨⟨zB4 _,fun i hi=>absurd hi (zB3 i)⟩,rfl,rfl,rfl⟩
 rintro k ⟨hk,hn⟩;conv=>whnf
 refine⟨fun h=>?_,fun h=>?_⟩
 ·have h:=zA1 h;have L4:k<l.length:=by omega
  have c1:=hp _ (G6 (d:=l9) L4);conv=>whnf
  refine⟨⟨va5,va5⟩,vb3 ?_⟩;rw[show Int.toNat (k:Int)=k from rfl];(repeat' (first|(refine⟨_,by exact c1,?_⟩;(conv=>whnf))|(refine Or.inl ?_;(conv=>whnf);refine⟨_,by exact c1,?_⟩;(conv=>whnf))|(refine Or.inl ?_;(conv=>whnf);refine⟨false,?_⟩;(conv=>whnf);refine⟨_,by exact c1,?_⟩;(conv=>whnf))|(refine⟨va4,?_⟩;(conv=>whnf))|fail));refine⟨fun q1=>?_,fun q1=>?_⟩
  ·(conv=>whnf);refine congrArg i64 ?_;have ha:l.any p=true:=List.any_eq_true.2 ⟨_,G6 L4,q1⟩;unfold WN;rw[if_pos ha];have e:l.findIdx p=k:=by
    rcases Nat.lt_trichotomy (l.findIdx p) k with z|z|z
    ·have a:=List.findIdx_getElem (p:=p) (xs:=l) (w:=by omega);rw[<- A6 (d:=l9),hn _ z]at a;cases a
    ·exact z
    ·have b:=List.not_of_lt_findIdx z;rw[<- A6 (d:=l9),q1]at b;simp at b
   rw[e]
  ·refine⟨k+1,vb3 ?_⟩;refine kK ⟨⟨?_,?_,fun j hj=>?_⟩,?_,rfl,rfl⟩
   ·show l.length-(k+1)<l.length-k;omega
   ·show k+1<=l.length;omega
   ·by_cases z:j=k
    ·subst z;exact q1
    ·exact hn j (by have hj:j<k+1:=hj;omega)
   ·rw[z5 _ va5 va5];rfl
 ·have h:=zA0 h;have ek:k=l.length:=by omega
  rw[ek]at hn;conv=>whnf
  unfold WN;rw[if_neg (by rw[Dr hn];decide)]
theorem RO(p:u6->Bool)(l:List u6):decide (0<=WN p l)=l.any p:=by
 unfold WN;cases h:l.any p
 ·rfl
 ·rw[if_pos rfl];exact zA4 va5
theorem VM(b:H2)(c x n:Int)(q:List u6)(p:u6->Bool)(l:List u6)(hp:∀ s,s ∈ l->va6 203 (.agg (C2 s) :: [.pt [RN b c x (bE q)] 0,.pt [i64 n] 0]) (.bool (p s)))(hl:l.length<2^20):va6 202 [bE l,.fn (.func 203) [] [.pt [RN b c x (bE q)] 0,.pt [i64 n] 0]] (.bool (l.any p)):=by
 refine vb4 Tryz.func202 ?_;(repeat' (first|(refine⟨_,by exact FX b c x n q p l hp hl,?_⟩;(conv=>whnf))|(refine Or.inl ?_;(conv=>whnf);refine⟨_,by exact FX b c x n q p l hp hl,?_⟩;(conv=>whnf))|(refine Or.inl ?_;(conv=>whnf);refine⟨false,?_⟩;(conv=>whnf);refine⟨_,by exact FX b c x n q p l hp hl,?_⟩;(conv=>whnf))|(refine⟨va4,?_⟩;(conv=>whnf))|fail));show AV.bool (decide (0<=WN p l))=_
 rw[RO]
theorem Du(t:r9)(hb:J3 t.m0=true)(hl:t.k9.length<2^20)(hp:∀ x,x ∈ t.k9->0<=x.cnt/\x.cnt<=1099511627776)(c x n:Int):va6 159 [RN t.m0 c x (bE t.k9),i64 n] (.bool (N5 t n)):=by
 have c1:=VM t.m0 c x n t.k9 (fun x => !decide (x.o5=1) && K2 t.m0 x n) t.k9 (fun s hs=>Kx t.m0 hb c x t.k9 s (hp s hs) n) hl;refine pF Tryz.func159 ?_;conv=>whnf
 try exact va1
theorem lX(t:r9)(hb:J3 t.m0=true)(hl:t.k9.length<2^20):va7 158 [gp t] [] (.ptr 0 0 0 0) [.cells 231 (HJ t.m0 t.count t.next (.own 1)),.vec 69 4 l9 C2 t.k9]:=by
 have bl:=D3.1 hb;have c2:=oK t.m0 hb;have c3:=ld t.m0 hb t.m0.w9 bl.2.2.1.1 bl.2.2.1.2;refine vb5 Tryz.func158 ?_;refine va2 [] [7] (vb3 ?_);refine va3 [] (yk t.k9 va5) (vb3 ?_);refine vc6 ?_;intros;refine⟨[23,7],va4,vb3 ?_⟩;exact⟨rfl,rfl⟩
theorem YD(t:r9)(hb:J3 t.m0=true)(hl:t.k9.length<2^20):va6 158 [gp t] (RN t.m0 t.count t.next (bE t.k9)):=(lX t hb hl).toPC 6 va4
theorem AR(t:r9)(hv:V0 t=0):va6 107 [gp t] (.tup [.bool (N5 t (t.count+1)),i64 0]):=by
 have g:=C7.1 hv;have sz:=U1 hv;have c:=I1 t va5;rw[hv]at c;have w1:IntKind.i64.wrap (t.count+1)=t.count+1:=z5 _ va5 va5;have c2:=Du t g.bl va5 (fun x hx=>by have:=(g.sn x hx).2;omega) t.count t.next (IntKind.i64.wrap (t.count+1));refine vb4 Tryz.func107 ?_;(repeat' ((first|refine va0 (fun hh=>?_) fun hh=>?_|refine kR ?_|((try refine .inl ?_;conv=>whnf);(try refine⟨false,?_⟩;conv=>whnf);refine⟨_,by first|assumption|exact YD t g.bl va5,?_⟩)|fail)<;>first|exact hh.elim|conv=>whnf));all_goals (first|(rw[w1];done))
theorem RP(b:H2)(hb:J3 b=true)(c x:Int)(l:List u6)(s:u6)(hs:0<=s.cnt/\s.cnt<=1099511627776):va6 162 [.agg (C2 s),.pt [RN b c x (bE l)] 0] (.bool (decide (s.cnt+M4 b b.w9=c))):=by
 have w:=AQ hb hs;rw[<- w.2];refine pF Tryz.func162 ?_;conv=>whnf
 try exact va1
 all_goals rfl
theorem yq{l:List u6}{k:Nat}(hk:k<l.length):l.take (k+1)=l.take k++[l.getD k l9]:=by
 rw[List.take_add_one,zA6 hk,A6 hk];rfl
theorem vy(p:u6->Bool)(l:List u6)(k:Nat):((l.take k).filter p).length<=k:=Nat.le_trans (List.length_filter_le _ _) (by rw[zB1];omega)
theorem FY{p:u6->Bool}{l:List u6}{k:Nat}(hk:k<l.length)(h:p (l.getD k l9)=true):(l.take (k+1)).filter p=(l.take k).filter p++[l.getD k l9]/\(l.take (k+1)).filter (fun x => !p x)=(l.take k).filter (fun x => !p x):=by
 rw[yq hk,List.filter_append,List.filter_append];simp only[List.filter_cons,List.filter_nil,h,if_true,Bool.not_true,zB0,if_false,List.append_nil,and_self]
theorem Ky{p:u6->Bool}{l:List u6}{k:Nat}(hk:k<l.length)(h:p (l.getD k l9)=false):(l.take (k+1)).filter (fun x => !p x)=(l.take k).filter (fun x => !p x)++[l.getD k l9]/\(l.take (k+1)).filter p=(l.take k).filter p:=by
 rw[yq hk,List.filter_append,List.filter_append];simp only[List.filter_cons,List.filter_nil,h,if_true,Bool.not_false,zB0,if_false,List.append_nil,and_self]
def YE(b:H2)(c x:Int)(l:List u6):List Row:=[.cells 231 (HJ b c x (.own 1)),.vec 69 4 l9 C2 l]
def Dv(b:H2)(c x:Int)(l:List u6):List Row:=[.cells 228 [.ptr 1 0 0 0],.cells 231 (HJ b c x (.own 2)),.vec 69 4 l9 C2 l]
theorem oQ(t:r9)(hb:J3 t.m0=true)(hl:t.k9.length<2^20)(hp:∀ x,x ∈ t.k9->0<=x.cnt/\x.cnt<=1099511627776)(c x n:Int):va7 159 [.ptr 0 0 0 0,i64 n] (YE t.m0 c x t.k9) (.bool (N5 t n)) (YE t.m0 c x t.k9) :=
 (Du t hb hl hp c x n).toPWk Tryz.func159 va4 rfl va4 (tR _) rfl
theorem RQ(b:H2)(hb:J3 b=true)(c x:Int)(l:List u6)(s:u6)(hs:0<=s.cnt/\s.cnt<=1099511627776):va7 162 [.agg (C2 s),.ptr 0 0 0 0] (Dv b c x l) (.bool (decide (s.cnt+M4 b b.w9=c))) (Dv b c x l) :=
 (RP b hb c x l s hs).toPWk Tryz.func162 va4 rfl va4 (tR _) rfl
theorem oR(b:H2)(hb:J3 b=true)(c x:Int)(l:List u6)(hp:∀ s,s ∈ l->0<=s.cnt/\s.cnt<=1099511627776)(hl:l.length<2^20)(p:u6->Bool)(hpp:p=fun s=>decide (s.cnt+M4 b b.w9=c)):va7 161 [.own 2,.fn (.func 162) [] [.ptr 0 0 0 0]] (Dv b c x l) (.tup [.own 3,.own 4]) (Dv b c x l++[.vec 69 4 l9 C2 (l.filter p),.vec 69 4 l9 C2 (l.filter fun x => !p x)]):=by
 unfold Dv;refine vb5 Tryz.func161 ?_;refine Or.inr ⟨Nat,[10],[],[(4,⟨u6,69,4,l9,C2⟩),(5,⟨u6,69,4,l9,C2⟩)],fun k=>[i64 k],fun _=>[],fun k=>[.vec 69 4 l9 C2 ((l.take k).filter p),.vec 69 4 l9 C2 ((l.take k).filter fun x => !p x)],fun k=>l.length-k,fun k=>k<=l.length,vb3 ?_⟩;refine⟨⟨0,?_⟩,?_⟩
 ·(conv=>whnf);exact kK ⟨zB4 _,rfl,rfl,rfl⟩
 intro k hk;conv=>whnf
 refine⟨fun h=>?_,fun h=>?_⟩
 ·have h:=zA1 h;have L4:k<l.length:=by omega
  have c1:=RQ b hb c x l (l.getD k l9) (hp _ (G6 (d:=l9) L4));have l1:=vy p l k;have l2:=vy (fun x => !p x) l k;have hpx:decide ((l.getD k l9).cnt+M4 b b.w9=c)=p (l.getD k l9):=by rw[hpp]
  rw[hpx]at c1;cases ZD:p (l.getD k l9)
  ·have sg:=Ky L4 ZD;rw[ZD]at c1;conv=>whnf
   refine vf2 ?_;intros;refine va2 [] [] (vb3 ?_);refine va3 [28,29,30] c1 (vb3 ?_);refine vf2 ?_;intros;refine⟨⟨u6,4,l9,C2,(l.take k).filter fun x => !p x⟩,[l.getD k l9],rfl,rfl,⟨rfl,rfl⟩,?_,?_,fun y _=>⟨rfl,rfl,rfl⟩,?_⟩
   ·show(((l.take k).filter fun x => !p x).length+1)*24<=_;omega
   ·show((l.take k).filter fun x => !p x).length+1<=_;omega
   refine vf2 ?_;intros;refine⟨k+1,vb3 ?_⟩;refine kK ⟨⟨?_,?_⟩,?_,rfl,?_⟩
   ·show l.length-(k+1)<l.length-k;omega
   ·show k+1<=l.length;omega
   ·rw[z5 _ va5 va5];rfl
   ·show _=[Row.vec 69 4 l9 C2 ((l.take (k+1)).filter p),Row.vec 69 4 l9 C2 ((l.take (k+1)).filter fun x => !p x)]
    rw[sg.1,sg.2]<;>rfl
  ·have sg:=FY L4 ZD;rw[ZD]at c1;conv=>whnf
   refine vf2 ?_;intros;refine va2 [] [] (vb3 ?_);refine va3 [28,29,30] c1 (vb3 ?_);refine vf2 ?_;intros;refine⟨⟨u6,4,l9,C2,(l.take k).filter p⟩,[l.getD k l9],rfl,rfl,⟨rfl,rfl⟩,?_,?_,fun y _=>⟨rfl,rfl,rfl⟩,?_⟩
   ·show(((l.take k).filter p).length+1)*24<=_;omega
   ·show((l.take k).filter p).length+1<=_;omega
   refine vf2 ?_;intros;refine⟨k+1,vb3 ?_⟩;refine kK ⟨⟨?_,?_⟩,?_,rfl,?_⟩
   ·show l.length-(k+1)<l.length-k;omega
   ·show k+1<=l.length;omega
   ·rw[z5 _ va5 va5];rfl
   ·show _=[Row.vec 69 4 l9 C2 ((l.take (k+1)).filter p),Row.vec 69 4 l9 C2 ((l.take (k+1)).filter fun x => !p x)]
    rw[sg.1,sg.2]<;>rfl
 ·have h:=zA0 h;have ek:l.take k=l:=List.take_of_length_le va5;rw[ek];conv=>whnf
  refine vf2 ?_;intros;refine⟨[4,5],va4,vb3 ?_⟩;exact⟨rfl,rfl⟩
theorem yr{α:Type}(f:α->α)(d:α)(l:List α):∀ k i,i<k->i<l.length->(Z0 f d l k).getD i d=f (l.getD i d)
 | 0,_,h,_=>absurd h (zB3 _)
 | k+1,i,h,hl=>by
  show((Z0 f d l k).set k _).getD i d=_
  by_cases e:i=k
  ·subst e;rw[aM (by rw[R0];exact hl),kj f d l i i (Nat.le_refl i)]
  ·rw[List.getD,List.getElem?_set_ne va5];exact yr f d l k i va5 hl
theorem sC{α:Type}(f:α->α)(d:α)(l:List α):Z0 f d l l.length=l.map f:=by
 apply List.ext_getElem?;intro i;by_cases h:i<l.length
 ·have e:=yr f d l l.length i h h;rw[List.getElem?_map,zA6 h,zA6 (by rw[R0];exact h)];rw[List.getD,List.getD,zA6 h,zA6 (by rw[R0];exact h)]at e;simp only[Option.getD_some]at e;rw[e];rfl
 ·rw[zA7 (by rw[R0];omega),zA7 (by rw[List.length_map];omega)]
theorem oS(b:H2)(n:Int)(l:List u6):l.map (G5 b false n)=l:=by
 have e:∀ x:u6,G5 b false n x=x:=fun x=>by unfold G5;simp
 rw[show G5 b false n=id from funext e,List.map_id]
theorem HK(b:H2)(n x:Int):W9 ⟨b,n,x,[]⟩=⟨b,n+1,x,[]⟩/\aW ⟨b,n,x,[]⟩=[]:=by
 have e:I9 ⟨b,n,x,[]⟩=false:=zA5 fun h=>absurd h.1 (Nat.lt_irrefl 0)
 unfold W9 aW;rw[e];exact⟨rfl,rfl⟩
theorem Dw(b:H2)(n x:Int)(hv:V0 ⟨b,n,x,[]⟩=0)(hc:n<1099511627776):va6 108 [gp ⟨b,n,x,[]⟩,i64 1] (.tup [gp (W9 ⟨b,n,x,[]⟩),lU (aW ⟨b,n,x,[]⟩),i64 0]):=by
 have g:=C7.1 hv;have sz:=U1 hv;have c:=I1 ⟨b,n,x,[]⟩ (show 0<2^40 by decide);rw[hv]at c;have sz:=sz.1;simp only at sz;have w1:IntKind.i64.wrap (n+1)=n+1:=z5 _ va5 va5;have w0:IntKind.i64.wrap (1099511627776-1)=1099511627775:=by decide
 rw[(HK b n x).1,(HK b n x).2,<- w1];refine PC.sub (res := .tup [gp ⟨b,IntKind.i64.wrap (n+1),x,[]⟩,.nils,i64 0]) ?_ rfl (fun i hi => .refl _) ?_
 ·refine vb4 Tryz.func108 ?_;refine vc6 ?_;intros;refine va2 [] [37,1] (vb3 ?_);refine va3 [] (lX _ g.bl (show 0<2^20 by decide)) (vb3 ?_);refine Or.inl ⟨2,?_⟩;conv=>whnf
  try exact va1
 ·refine(cS (xs:=[gp ⟨b,IntKind.i64.wrap (n+1),x,[]⟩,.nils,i64 0]) (ys:=[gp ⟨b,IntKind.i64.wrap (n+1),x,[]⟩,lU [],i64 0]) rfl fun i hi=>?_).2
  match i with
  | 0=>exact .refl _
  | 1=>exact tq.nils _ _ _
  | 2=>exact .refl _
  | (n+3)=>exact .refl _
theorem Dx(t:r9)(hv:V0 t=0)(hc:t.count<1099511627776)(ao:¬t.k9.length=0)(hg:I9 t=true):va6 108 [gp t,i64 1] (.tup [gp (W9 t),lU (aW t),i64 0]):=by
 have g:=C7.1 hv;have sz:=U1 hv;have c:=I1 t va5;rw[hv]at c;have w1:IntKind.i64.wrap (t.count+1)=t.count+1:=z5 _ va5 va5;have w0:IntKind.i64.wrap (1099511627776-1)=1099511627775:=by decide
 have FZ:∀ x,x ∈ t.k9->0<=x.cnt/\x.cnt<=1099511627776:=fun x hx=>by have:=(g.sn x hx).2;omega
 have hf:=T4 g;have DY:=ab t;have LS:∀ s,s ∈ hits t->0<=s.cnt/\s.cnt<=1099511627776:=fun s hs=>by
  obtain⟨m,hm,e2⟩:=List.getElem_of_mem hs;have e3:s=G5 t.m0 (N5 t (t.count+1)) (t.count+1) (t.k9.getD m l9):=by rw[<- Y5 t m va5,A6 hm,e2]
  rw[e3];exact FZ (t.k9.getD m l9) (G6 va5)
 have vz:=oQ t g.bl va5 FZ (IntKind.i64.wrap (t.count+1)) t.next (IntKind.i64.wrap (t.count+1));have eo:N5 t (IntKind.i64.wrap (t.count+1))=N5 t (t.count+1):=by rw[w1]
 rw[eo]at vz;have vA:=oR t.m0 g.bl (IntKind.i64.wrap (t.count+1)) t.next (hits t) LS va5 (fun s=>decide (s.cnt+M4 t.m0 t.m0.w9=t.count+1)) (by rw[w1]);rw[hf.1,hf.2]at vA;rw[if_pos hg]at vA;have af:aW t=[bH ((hits t).getD 0 l9)]:=by unfold aW;rw[if_pos hg]
 cases bf:N5 t (t.count+1)
 ·rw[bf]at vz;have eh:hits t=t.k9:=by unfold hits;rw[bf,oS]
  rw[eh]at vA;rw[eh]at af;refine dJ hm Tryz.func108 va4 (vb3 ?_);refine Or.inl (vb3 ?_);refine vc6 ?_;(repeat intro hh);refine va2 [] [37,1] (vb3 ?_);refine va3 [] (lX t g.bl va5) (vb3 ?_);refine Or.inl (vb3 ?_);refine Or.inl ⟨2,vb3 ?_⟩;refine ve4 ?_;(repeat intro hh);refine Or.inr ⟨false,[37,1],_,_,_,_,⟨vz,rfl,rfl,va4⟩,vb3 ?_⟩;refine ve4 ?_;(repeat intro hh);refine va2 [] [117,118] (vb3 ?_);refine va3 [8,37,1] vA (vb3 ?_);refine ve4 ?_;(repeat intro hh);refine Or.inl ⟨2,vb3 ?_⟩;refine vb7 ?_;(repeat intro hh);refine⟨Nat.zero_lt_one,vb3 ?_⟩;refine vf2 ?_;(repeat intro hh);refine⟨⟨Z9,3,aP,aQ,[]⟩,[bH (t.k9.getD 0 l9)],rfl,rfl,⟨rfl,rfl⟩,?_,?_,fun y _=>⟨rfl,rfl,rfl⟩,?_⟩
  ·show(0+1)*16<=1099511627776;decide
  ·show 0+1<=1099511627776;decide
  conv=>whnf
  refine vb7 ?_;(repeat intro hh);refine vf2 ?_;(repeat intro hh);rw[w1,af];rfl
 ·rw[bf]at vz;have eh:Z0 (G5 t.m0 true (t.count+1)) l9 t.k9 t.k9.length=hits t:=by unfold hits;rw[bf,sC]
  refine dJ hm Tryz.func108 va4 (vb3 ?_);refine Or.inl (vb3 ?_);refine vc6 ?_;(repeat intro hh);refine va2 [] [37,1] (vb3 ?_);refine va3 [] (lX t g.bl va5) (vb3 ?_);refine Or.inl (vb3 ?_);refine Or.inl ⟨2,vb3 ?_⟩;refine ve4 ?_;(repeat intro hh);refine Or.inr ⟨false,[37,1],_,_,_,_,⟨vz,rfl,rfl,va4⟩,vb3 ?_⟩;refine ve4 ?_;(repeat intro hh);refine Or.inr ⟨Nat,[83],[1],[],fun k=>[i64 k],fun k=>[.vec 69 4 l9 C2 (Z0 (G5 t.m0 true (t.count+1)) l9 t.k9 k)],fun _=>[],fun k=>t.k9.length-k,fun k=>k<=t.k9.length,vb3 ?_⟩;refine⟨⟨0,?_⟩,?_⟩
  ·(conv=>whnf);exact kK ⟨zB4 _,rfl,rfl,rfl⟩
  intro k hk;have VN:=R0 (G5 t.m0 true (t.count+1)) l9 t.k9 k;conv=>whnf
  refine⟨fun h=>?_,fun h=>?_⟩
  ·have h:=zA1 h;have L4:k<t.k9.length:=by omega
   have OK:=kj (G5 t.m0 true (t.count+1)) l9 t.k9 k k (Nat.le_refl k);have rC:Z0 (G5 t.m0 true (t.count+1)) l9 t.k9 (k+1)=(Z0 (G5 t.m0 true (t.count+1)) l9 t.k9 k).set k (G5 t.m0 true (t.count+1) ((Z0 (G5 t.m0 true (t.count+1)) l9 t.k9 k).getD k l9)):=rfl;generalize Z0 (G5 t.m0 true (t.count+1)) l9 t.k9 k=u at VN OK rC;have ch:=oP t.m0 g.bl (IntKind.i64.wrap (t.count+1)) t.next u (u.getD k l9) (by rw[OK];exact FZ _ (G6 L4)) (IntKind.i64.wrap (t.count+1));have hw:K2 t.m0 (u.getD k l9) (IntKind.i64.wrap (t.count+1))=K2 t.m0 (u.getD k l9) (t.count+1):=by rw[w1]
   rw[hw]at ch;conv=>whnf
   refine vf1 ?_ ?_<;>(repeat intro hh)
   ·have Cp:(u.getD k l9).hit=true:=hh;refine⟨⟨(u.getD k l9).id,(u.getD k l9).cnt,(u.getD k l9).o5,true⟩,rfl,va5,?_⟩;refine vf2 ?_;(repeat intro hh);have ey:(⟨(u.getD k l9).id,(u.getD k l9).cnt,(u.getD k l9).o5,true⟩:u6)=G5 t.m0 true (t.count+1) (u.getD k l9):=by
     unfold G5;rw[Cp];rfl
    refine⟨k+1,vb3 ?_⟩;refine kK ⟨⟨?_,?_⟩,?_,?_,rfl⟩
    ·show t.k9.length-(k+1)<t.k9.length-k;omega
    ·show k+1<=t.k9.length;omega
    ·rw[z5 _ va5 va5];rfl
    ·show _=[Row.vec 69 4 l9 C2 (Z0 (G5 t.m0 true (t.count+1)) l9 t.k9 (k+1))]
     rw[rC,<- ey]<;>rfl
   ·have Cp:(u.getD k l9).hit=false:=hh;refine⟨⟨(u.getD k l9).id,(u.getD k l9).cnt,(u.getD k l9).o5,K2 t.m0 (u.getD k l9) (t.count+1)⟩,rfl,va5,?_⟩;refine vf2 ?_;(repeat intro hh);have ey:(⟨(u.getD k l9).id,(u.getD k l9).cnt,(u.getD k l9).o5,K2 t.m0 (u.getD k l9) (t.count+1)⟩:u6)=G5 t.m0 true (t.count+1) (u.getD k l9):=by
     unfold G5;rw[Cp];rfl
    refine⟨k+1,vb3 ?_⟩;refine kK ⟨⟨?_,?_⟩,?_,?_,rfl⟩
    ·show t.k9.length-(k+1)<t.k9.length-k;omega
    ·show k+1<=t.k9.length;omega
    ·rw[z5 _ va5 va5];rfl
    ·show _=[Row.vec 69 4 l9 C2 (Z0 (G5 t.m0 true (t.count+1)) l9 t.k9 (k+1))]
     rw[rC,<- ey]<;>rfl
  ·have h:=zA0 h;have ek:k=t.k9.length:=by omega
   subst ek;rw[eh];conv=>whnf
   refine ve4 ?_;(repeat intro hh);refine va2 [] [117,118] (vb3 ?_);refine va3 [8,37,1] vA (vb3 ?_);refine ve4 ?_;(repeat intro hh);refine Or.inl ⟨2,vb3 ?_⟩;refine vb7 ?_;(repeat intro hh);refine⟨Nat.zero_lt_one,vb3 ?_⟩;refine vf2 ?_;(repeat intro hh);refine⟨⟨Z9,3,aP,aQ,[]⟩,[bH ((hits t).getD 0 l9)],rfl,rfl,⟨rfl,rfl⟩,?_,?_,fun y _=>⟨rfl,rfl,rfl⟩,?_⟩
   ·show(0+1)*16<=1099511627776;decide
   ·show 0+1<=1099511627776;decide
   conv=>whnf
   refine vb7 ?_;(repeat intro hh);refine vf2 ?_;(repeat intro hh);rw[w1,af];rfl
theorem Dy(t:r9)(hv:V0 t=0)(hc:t.count<1099511627776)(ao:¬t.k9.length=0)(hg:¬I9 t=true):va6 108 [gp t,i64 1] (.tup [gp (W9 t),.nils,i64 0]):=by
 have g:=C7.1 hv;have sz:=U1 hv;have c:=I1 t va5;rw[hv]at c;have w1:IntKind.i64.wrap (t.count+1)=t.count+1:=z5 _ va5 va5;have w0:IntKind.i64.wrap (1099511627776-1)=1099511627775:=by decide
 have FZ:∀ x,x ∈ t.k9->0<=x.cnt/\x.cnt<=1099511627776:=fun x hx=>by have:=(g.sn x hx).2;omega
 have hf:=T4 g;have DY:=ab t;have LS:∀ s,s ∈ hits t->0<=s.cnt/\s.cnt<=1099511627776:=fun s hs=>by
  obtain⟨m,hm,e2⟩:=List.getElem_of_mem hs;have e3:s=G5 t.m0 (N5 t (t.count+1)) (t.count+1) (t.k9.getD m l9):=by rw[<- Y5 t m va5,A6 hm,e2]
  rw[e3];exact FZ (t.k9.getD m l9) (G6 va5)
 have vz:=oQ t g.bl va5 FZ (IntKind.i64.wrap (t.count+1)) t.next (IntKind.i64.wrap (t.count+1));have eo:N5 t (IntKind.i64.wrap (t.count+1))=N5 t (t.count+1):=by rw[w1]
 rw[eo]at vz;have vA:=oR t.m0 g.bl (IntKind.i64.wrap (t.count+1)) t.next (hits t) LS va5 (fun s=>decide (s.cnt+M4 t.m0 t.m0.w9=t.count+1)) (by rw[w1]);rw[hf.1,hf.2]at vA;rw[if_neg hg]at vA;cases bf:N5 t (t.count+1)
 ·rw[bf]at vz;have eh:hits t=t.k9:=by unfold hits;rw[bf,oS]
  rw[eh]at vA;refine dJ hm Tryz.func108 va4 (vb3 ?_);refine Or.inl (vb3 ?_);refine vc6 ?_;(repeat intro hh);refine va2 [] [37,1] (vb3 ?_);refine va3 [] (lX t g.bl va5) (vb3 ?_);refine Or.inl (vb3 ?_);refine Or.inl ⟨2,vb3 ?_⟩;refine ve4 ?_;(repeat intro hh);refine Or.inr ⟨false,[37,1],_,_,_,_,⟨vz,rfl,rfl,va4⟩,vb3 ?_⟩;refine ve4 ?_;(repeat intro hh);refine va2 [] [117,118] (vb3 ?_);refine va3 [8,37,1] vA (vb3 ?_);refine ve4 ?_;(repeat intro hh);refine Or.inl ⟨1,vb3 ?_⟩;refine vb7 ?_;(repeat intro hh);refine vf2 ?_;(repeat intro hh)
  repeat (refine Or.inl ?_;(conv=>whnf);(repeat' ((first|refine aU fun hh=>?_|refine aV fun hh=>?_|refine aS (fun hh=>?_) fun hh=>?_|refine kT ?_|fail)<;>conv=>whnf)))
  rw[w1];rfl
 ·rw[bf]at vz;have eh:Z0 (G5 t.m0 true (t.count+1)) l9 t.k9 t.k9.length=hits t:=by unfold hits;rw[bf,sC]
  refine dJ hm Tryz.func108 va4 (vb3 ?_);refine Or.inl (vb3 ?_);refine vc6 ?_;(repeat intro hh);refine va2 [] [37,1] (vb3 ?_);refine va3 [] (lX t g.bl va5) (vb3 ?_);refine Or.inl (vb3 ?_);refine Or.inl ⟨2,vb3 ?_⟩;refine ve4 ?_;(repeat intro hh);refine Or.inr ⟨false,[37,1],_,_,_,_,⟨vz,rfl,rfl,va4⟩,vb3 ?_⟩;refine ve4 ?_;(repeat intro hh);refine Or.inr ⟨Nat,[83],[1],[],fun k=>[i64 k],fun k=>[.vec 69 4 l9 C2 (Z0 (G5 t.m0 true (t.count+1)) l9 t.k9 k)],fun _=>[],fun k=>t.k9.length-k,fun k=>k<=t.k9.length,vb3 ?_⟩;refine⟨⟨0,?_⟩,?_⟩
  ·(conv=>whnf);exact kK ⟨zB4 _,rfl,rfl,rfl⟩
  intro k hk;have VN:=R0 (G5 t.m0 true (t.count+1)) l9 t.k9 k;conv=>whnf
  refine⟨fun h=>?_,fun h=>?_⟩
  ·have h:=zA1 h;have L4:k<t.k9.length:=by omega
   have OK:=kj (G5 t.m0 true (t.count+1)) l9 t.k9 k k (Nat.le_refl k);have rC:Z0 (G5 t.m0 true (t.count+1)) l9 t.k9 (k+1)=(Z0 (G5 t.m0 true (t.count+1)) l9 t.k9 k).set k (G5 t.m0 true (t.count+1) ((Z0 (G5 t.m0 true (t.count+1)) l9 t.k9 k).getD k l9)):=rfl;generalize Z0 (G5 t.m0 true (t.count+1)) l9 t.k9 k=u at VN OK rC;have ch:=oP t.m0 g.bl (IntKind.i64.wrap (t.count+1)) t.next u (u.getD k l9) (by rw[OK];exact FZ _ (G6 L4)) (IntKind.i64.wrap (t.count+1));have hw:K2 t.m0 (u.getD k l9) (IntKind.i64.wrap (t.count+1))=K2 t.m0 (u.getD k l9) (t.count+1):=by rw[w1]
   rw[hw]at ch;conv=>whnf
   refine vf1 ?_ ?_<;>(repeat intro hh)
   ·have Cp:(u.getD k l9).hit=true:=hh;refine⟨⟨(u.getD k l9).id,(u.getD k l9).cnt,(u.getD k l9).o5,true⟩,rfl,va5,?_⟩;refine vf2 ?_;(repeat intro hh);have ey:(⟨(u.getD k l9).id,(u.getD k l9).cnt,(u.getD k l9).o5,true⟩:u6)=G5 t.m0 true (t.count+1) (u.getD k l9):=by
     unfold G5;rw[Cp];rfl
    refine⟨k+1,vb3 ?_⟩;refine kK ⟨⟨?_,?_⟩,?_,?_,rfl⟩
    ·show t.k9.length-(k+1)<t.k9.length-k;omega
    ·show k+1<=t.k9.length;omega
    ·rw[z5 _ va5 va5];rfl
    ·show _=[Row.vec 69 4 l9 C2 (Z0 (G5 t.m0 true (t.count+1)) l9 t.k9 (k+1))]
     rw[rC,<- ey]<;>rfl
   ·have Cp:(u.getD k l9).hit=false:=hh;refine⟨⟨(u.getD k l9).id,(u.getD k l9).cnt,(u.getD k l9).o5,K2 t.m0 (u.getD k l9) (t.count+1)⟩,rfl,va5,?_⟩;refine vf2 ?_;(repeat intro hh);have ey:(⟨(u.getD k l9).id,(u.getD k l9).cnt,(u.getD k l9).o5,K2 t.m0 (u.getD k l9) (t.count+1)⟩:u6)=G5 t.m0 true (t.count+1) (u.getD k l9):=by
     unfold G5;rw[Cp];rfl
    refine⟨k+1,vb3 ?_⟩;refine kK ⟨⟨?_,?_⟩,?_,?_,rfl⟩
    ·show t.k9.length-(k+1)<t.k9.length-k;omega
    ·show k+1<=t.k9.length;omega
    ·rw[z5 _ va5 va5];rfl
    ·show _=[Row.vec 69 4 l9 C2 (Z0 (G5 t.m0 true (t.count+1)) l9 t.k9 (k+1))]
     rw[rC,<- ey]<;>rfl
  ·have h:=zA0 h;have ek:k=t.k9.length:=by omega
   subst ek;rw[eh];conv=>whnf
   refine ve4 ?_;(repeat intro hh);refine va2 [] [117,118] (vb3 ?_);refine va3 [8,37,1] vA (vb3 ?_);refine ve4 ?_;(repeat intro hh);refine Or.inl ⟨1,vb3 ?_⟩;refine vb7 ?_;(repeat intro hh);refine vf2 ?_;(repeat intro hh)
   repeat (refine Or.inl ?_;(conv=>whnf);(repeat' ((first|refine aU fun hh=>?_|refine aV fun hh=>?_|refine aS (fun hh=>?_) fun hh=>?_|refine kT ?_|fail)<;>conv=>whnf)))
   rw[w1];rfl
theorem Ga(t:r9)(hv:V0 t=0)(hc:t.count<1099511627776):va6 108 [gp t,i64 1] (.tup [gp (W9 t),lU (aW t),i64 0]):=by
 by_cases ao:t.k9.length=0
 ·obtain⟨b,n,x,l⟩:=t;have e0:l=[]:=List.eq_nil_of_length_eq_zero ao;subst e0;exact Dw b n x hv hc
 ·by_cases hg:I9 t=true
  ·exact Dx t hv hc ao hg
  ·refine PC.sub (Dy t hv hc ao hg) rfl (fun i hi => .refl _) ?_;have e:aW t=[]:=by unfold aW;rw[if_neg hg]
   rw[e];refine(cS (xs:=[gp (W9 t),.nils,i64 0]) (ys:=[gp (W9 t),lU [],i64 0]) rfl fun i hi=>?_).2
   match i with
   | 0=>exact .refl _
   | 1=>exact tq.nils _ _ _
   | 2=>exact .refl _
   | (n+3)=>exact .refl _

end Go.Proofs.Tryz.My
