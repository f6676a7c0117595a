/- Helper lemmas. -/
import Derived.Test.YtdpnpdjnaimgaaaGreatMzWbX
import Derived.Test.YtdpnpdjnaimgaaaGreatMzWtD
import Derived.Test.YtdpnpdjnaimgaaaGreatEvNine
set_option linter.unusedVariables false
set_option linter.unusedSimpArgs false
set_option maxRecDepth 100000
set_option maxHeartbeats 0
namespace Go.Proofs.Tryz.My
open Go Go.Ev
abbrev UL:AV := .agg [i64 0,i64 0,i64 0,i64 0,i64 0,i64 0,.nils]
theorem dX{t:TrackT}(h:eT t=0):(0<=t.count/\t.count<=1099511627776)/\(0<=t.next/\t.next<=1099511627776)/\t.k9.length<=32:=by
 have b:=(cU.1 h).2;unfold mK at b;rw[zA2]at b;exact mJ.1 b.1
theorem Ft{α:Type}(l:List α)(d:α)(h:0<l.length)(h2:l.length<2^40):(0<=IntKind.i64.wrap ((l.length:Int)-1)/\IntKind.i64.wrap ((l.length:Int)-1)<l.length)/\l.getD (IntKind.i64.wrap ((l.length:Int)-1)).toNat d=l.getD (l.length-1) d:=by
 rw[C7 _ va5 va5];exact⟨⟨va5,va5⟩,by congr 1;omega⟩
theorem LD(t:TrackT)(hv:eT t=0)(hs:nY t=0):va6 224 [sL t] (.tup [sL (ue t),i64 t.next,i64 0]):=by
 have sz:=dX hv;have c:=K9 t va5;rw[hv]at c;unfold nY at hs;split at hs
 ·cases hs
 split at hs
 ·cases hs
 rename_i h1 h2;have w1:IntKind.i64.wrap (t.next+1)=t.next+1:=C7 _ va5 va5;have z0:=Ft t.k9 n4;unfold ue;rw[<- w1];refine pF Tryz.func224 ?_;conv=>whnf
 (repeat' ((first|refine va0 (fun hh=>?_) fun hh=>?_|refine kR ?_|((try refine .inl ?_;conv=>whnf);(try refine⟨false,?_⟩;conv=>whnf);refine⟨_,by assumption,?_⟩)|fail)<;>first|exact hh.elim|conv=>whnf))
 ·(exfalso;have e:=(z0 va5 va5).2;clear z0;simp only[e]at *; omega)
 ·refine⟨⟨x7,4,n4,I1,t.k9⟩,[⟨t.next,t.count,0,false⟩],rfl,congrArg (MF.mk x7 4 n4 I1) (List.take_of_length_le va9),⟨rfl,rfl⟩,?_,?_,fun y _=>⟨rfl,rfl,rfl⟩,?_⟩
  ·show(t.k9.length+1)*24<=_;omega
  ·show t.k9.length+1<=_;omega
  refine vb8 ?_;(repeat intro hh);try rfl
 ·refine⟨⟨x7,4,n4,I1,t.k9⟩,[⟨t.next,t.count,0,false⟩],rfl,congrArg (MF.mk x7 4 n4 I1) (List.take_of_length_le va9),⟨rfl,rfl⟩,?_,?_,fun y _=>⟨rfl,rfl,rfl⟩,?_⟩
  ·show(t.k9.length+1)*24<=_;omega
  ·show t.k9.length+1<=_;omega
  refine vb8 ?_;(repeat intro hh);try rfl
theorem ye(t:TrackT)(hv:eT t=0)(hs:¬nY t=0):va6 224 [sL t] (.tup [UL,i64 0,i64 (nY t)]):=by
 have sz:=dX hv;have c:=K9 t va5;rw[hv]at c;have z0:=Ft t.k9 n4;unfold nY at hs ⊢;by_cases h0:0<t.k9.length
 ·by_cases h1:(t.k9.getD (t.k9.length-1) n4).cnt=t.count
  ·rw[if_pos ⟨h0,h1⟩];refine pF Tryz.func224 ?_;conv=>whnf
   (repeat' ((first|refine va0 (fun hh=>?_) fun hh=>?_|refine kR ?_|((try refine .inl ?_;conv=>whnf);(try refine⟨false,?_⟩;conv=>whnf);refine⟨_,by assumption,?_⟩)|fail)<;>first|exact hh.elim|conv=>whnf));all_goals (first|rfl|(exfalso;have e:=(z0 va5 va5).2;clear z0;simp only[e]at *; omega))
  ·rw[if_neg (fun h=>h1 h.2)]at hs ⊢;split at hs
   ·rename_i h2;rw[if_pos h2];refine pF Tryz.func224 ?_;conv=>whnf
    refine vb7 ?_;(repeat intro hh);all_goals (first|rfl|(exfalso;have e:=(z0 va5 va5).2;clear z0;simp only[e]at *; omega))
   ·exact absurd rfl hs
 ·rw[if_neg (fun h=>h0 h.1)]at hs ⊢;split at hs
  ·rename_i h2;rw[if_pos h2];refine pF Tryz.func224 ?_;conv=>whnf
   try exact va1
   all_goals rfl
  ·exact absurd rfl hs
abbrev a4H(t:TrackT):AV := .agg [i64 t.n8.step,i64 t.n8.A0,i64 t.n8.y9,i64 t.n8.len,i64 t.count,i64 t.next,.own 0]
theorem a1y(t:TrackT)(hl:t.k9.length<2^20):va7 76 [sL t] [] (a4H t) [.vec 78 4 n4 I1 t.k9]:=by
 refine pW Tryz.func76 ⟨va4,?_⟩;conv=>whnf
 refine vb8 ?_;(repeat intro hh);refine⟨⟨x7,4,n4,I1,[]⟩,t.k9,rfl,⟨rfl,rfl⟩,rfl,?_,?_,fun y _=>⟨rfl,rfl,rfl⟩,?_⟩
 ·show(0+t.k9.length)*24<=_;omega
 ·show 0+t.k9.length<=_;omega
 conv=>whnf
 refine⟨[6],va4,?_⟩;conv=>whnf
 exact⟨rfl,rfl⟩
theorem vF(l:List x7)(hl:l.length<2^20):va7 124 [U1 l] [] (.own 0) [.vec 78 4 n4 I1 l]:=by
 refine A7 hm Tryz.func124 va4 ⟨va4,?_⟩;conv=>whnf
 refine Or.inl ?_;conv=>whnf
 intro b hb;conv=>whnf
 refine⟨fun h=>?_,fun h=>?_⟩
 ·(conv=>whnf);refine Or.inr ⟨va4,.vec 78 4 n4 I1 [],rfl,?_⟩;conv=>whnf
  refine⟨[2],va4,?_⟩;conv=>whnf
  rw[hb h];exact⟨rfl,rfl⟩
 conv=>whnf
 refine⟨⟨x7,4,n4,I1,[]⟩,l,rfl,⟨rfl,rfl⟩,rfl,?_,?_,fun y _=>⟨rfl,rfl,rfl⟩,?_⟩
 ·show(0+l.length)*24<=_;omega
 ·show 0+l.length<=_;omega
 conv=>whnf
 refine⟨[7],va4,?_⟩;conv=>whnf
 exact⟨rfl,rfl⟩
theorem a3i(t:TrackT)(hI:G7 t.n8.step)(hv:eT t=0)(hs:nY t=0):va6 183 [sL t] (.tup [sL (ue t),i64 t.next,i64 0]):=by
 have sz:=dX hv;have c:=bo t va5 hI;rw[hv]at c;unfold nY at hs;split at hs
 ·cases hs
 split at hs
 ·cases hs
 rename_i h1 h2;have w1:IntKind.i64.wrap (t.next+1)=t.next+1:=C7 _ va5 va5;have w2:IntKind.i64.wrap (IntKind.i64.wrap (t.next+1)-1)=t.next:=by rw[C7 (t.next+1) va5 va5,C7 _ va5 va5];omega
 have z0:=Ft t.k9 n4;unfold ue;rw[<- w1];refine pF Tryz.func183 ?_;conv=>whnf
 (repeat' ((first|refine va0 (fun hh=>?_) fun hh=>?_|refine kR ?_|((try refine .inl ?_;conv=>whnf);(try refine⟨false,?_⟩;conv=>whnf);refine⟨_,by assumption,?_⟩)|fail)<;>first|exact hh.elim|conv=>whnf))
 ·(exfalso;have e:=(z0 va5 va5).2;clear z0;simp only[e]at *; omega)
 ·(refine va2 [] [40] ?_;(conv=>whnf);refine va3 [] (a1y t va5) ?_);conv=>whnf
  refine vb8 ?_;(repeat intro hh);refine⟨⟨x7,4,n4,I1,t.k9⟩,[⟨t.next,t.count,0,false⟩],rfl,rfl,⟨rfl,rfl⟩,?_,?_,fun y _=>⟨rfl,rfl,rfl⟩,?_⟩
  ·show(t.k9.length+1)*24<=_;omega
  ·show t.k9.length+1<=_;omega
  refine vb8 ?_;(repeat intro hh);first|rfl|(rw[w2];rfl)
 ·(refine va2 [] [40] ?_;(conv=>whnf);refine va3 [] (a1y t va5) ?_);conv=>whnf
  refine vb8 ?_;(repeat intro hh);refine⟨⟨x7,4,n4,I1,t.k9⟩,[⟨t.next,t.count,0,false⟩],rfl,rfl,⟨rfl,rfl⟩,?_,?_,fun y _=>⟨rfl,rfl,rfl⟩,?_⟩
  ·show(t.k9.length+1)*24<=_;omega
  ·show t.k9.length+1<=_;omega
  refine vb8 ?_;(repeat intro hh);first|rfl|(rw[w2];rfl)
theorem a1H(t:TrackT)(hI:G7 t.n8.step)(hv:eT t=0)(hs:¬nY t=0):va6 183 [sL t] (.tup [UL,i64 0,i64 (nY t)]):=by
 have sz:=dX hv;have c:=bo t va5 hI;rw[hv]at c;have z0:=Ft t.k9 n4;unfold nY at hs ⊢;by_cases h0:0<t.k9.length
 ·by_cases h1:(t.k9.getD (t.k9.length-1) n4).cnt=t.count
  ·rw[if_pos ⟨h0,h1⟩];refine pF Tryz.func183 ?_;conv=>whnf
   (repeat' ((first|refine va0 (fun hh=>?_) fun hh=>?_|refine kR ?_|((try refine .inl ?_;conv=>whnf);(try refine⟨false,?_⟩;conv=>whnf);refine⟨_,by assumption,?_⟩)|fail)<;>first|exact hh.elim|conv=>whnf));all_goals (first|rfl|(exfalso;have e:=(z0 va5 va5).2;clear z0;simp only[e]at *; omega))
  ·rw[if_neg (fun h=>h1 h.2)]at hs ⊢;split at hs
   ·rename_i h2;rw[if_pos h2];refine pF Tryz.func183 ?_;conv=>whnf
    refine vb7 ?_;(repeat intro hh);all_goals (first|rfl|(exfalso;have e:=(z0 va5 va5).2;clear z0;simp only[e]at *; omega))
   ·exact absurd rfl hs
 ·rw[if_neg (fun h=>h0 h.1)]at hs ⊢;split at hs
  ·rename_i h2;rw[if_pos h2];refine pF Tryz.func183 ?_;conv=>whnf
   try exact va1
   all_goals rfl
  ·exact absurd rfl hs
def OG(l:List x7)(q:Int):Nat:=l.findIdx fun x=>decide (q<=x.id)
theorem Fu{l:List x7}{q:Int}{i:Nat}(hi:i<=l.length)(h1:∀ m,m<i->(l.getD m n4).id<q)(h2:i<l.length->q<=(l.getD i n4).id):OG l q=i:=by
 unfold OG;rcases Nat.lt_trichotomy (l.findIdx fun x=>decide (q<=x.id)) i with h|h|h
 ·have hl:(l.findIdx fun x=>decide (q<=x.id))<l.length:=by omega
  have a:=List.findIdx_getElem (p:=fun x:x7=>decide (q<=x.id)) (xs:=l) (w:=hl);have b:=h1 _ h;rw[x9 hl]at b;have a:=zA1 a;omega
 ·exact h
 ·have hl:i<l.length:=zB5 h List.findIdx_le_length;have a:=List.not_of_lt_findIdx h;have b:=h2 hl;rw[x9 hl]at b;simp[b]at a
theorem LF{l:List x7}(h:List.Pairwise oe l){q:Int}{i:Nat}(hi:i<=l.length)(h1:∀ m,m<i->(l.getD m n4).id<q)(h2:∀ m,i<=m->m<l.length->q<=(l.getD m n4).id):l.any (W5 q)=(decide (i<l.length) && decide ((l.getD i n4).id=q)):=by
 rw[Bool.eq_iff_iff,List.any_eq_true,zA2,zA3,zA3]
 constructor
 ·rintro⟨x,hm,e⟩;obtain⟨m,hm,e2⟩:=List.getElem_of_mem hm;have e:=zA1 e;have e3:(l.getD m n4).id=q:=by rw[x9 hm,e2];exact e
  rcases Nat.lt_trichotomy m i with z|z|z
  ·have:=h1 m z;omega
  ·subst z;exact⟨hm,e3⟩
  ·have a:(l.getD i n4).id<(l.getD m n4).id:=(aj (d:=n4) h z hm).1;have b:=h2 i (Nat.le_refl i) va5;omega
 ·rintro⟨a,b⟩;exact⟨l.getD i n4,I2 a,zA4 b⟩
theorem vG{l:List x7}(h:List.Pairwise oe l){q:Int}(ha:l.any (W5 q)=true):OG l q=l.findIdx (W5 q):=by
 have hf:=fK ha;have e:(l.getD (l.findIdx (W5 q)) n4).id=q:=by
  have a:=List.findIdx_getElem (p:=W5 q) (xs:=l) (w:=hf);rw[x9 hf];exact zA1 a
 refine Fu va5 (fun m hm=>?_) (fun _=>by omega);have a:(l.getD m n4).id<(l.getD (l.findIdx (W5 q)) n4).id:=(aj (d:=n4) h hm hf).1;omega
def uj(x:x7)(q:Int):Int:=if x.id<q then -1 else if q<x.id then 1 else 0
theorem Bf(x:x7)(q:Int):va6 304 [.agg (I1 x),i64 q] (i64 (uj x q)):=by
 unfold uj;refine pF Tryz.func304 ?_;conv=>whnf
 (repeat' ((first|refine va0 (fun hh=>?_) fun hh=>?_|refine kR ?_|fail)<;>first|exact hh.elim|conv=>whnf));all_goals (first|(rw[if_pos va5];done)|(rw[if_neg va5,if_pos va5];done)|(rw[if_neg va5,if_neg va5];done))
theorem Fv(l:List x7)(hs:List.Pairwise oe l)(hl:l.length<2^39)(q:Int):va6 303 [U1 l,i64 q,.fn (.func 304) [] []] (.tup [i64 (OG l q),.bool (l.any (W5 q))]):=by
 refine pF Tryz.func303 ?_;conv=>whnf
 refine Or.inr ⟨Nat×Nat,[9,10],[],[],fun i=>[i64 i.1,i64 i.2],fun _=>[],fun _=>[],fun i=>i.2-i.1,fun i=>i.1<=i.2/\i.2<=l.length/\(∀ m,m<i.1->(l.getD m n4).id<q)/\∀ m,i.2<=m->m<l.length->q<=(l.getD m n4).id,?_⟩;conv=>whnf
 refine⟨⟨(0,l.length),?_⟩,?_⟩
 ·(conv=>whnf);exact kK ⟨⟨zB4 _,Nat.le_refl _,fun m hm=>absurd hm (zB3 m),fun m h1 h2=>absurd h2 (Nat.not_lt.2 h1)⟩,rfl,rfl,rfl⟩
 ·rintro⟨i,j⟩ ⟨g1,g2,g3,g4⟩;simp only[]at g1 g2 g3 g4;conv=>whnf
  refine⟨fun h=>?_,fun h=>?_⟩
  ·have h:=zA1 h;simp only[]at h;conv=>whnf
   rw[PK i j va5 va5];have e1:i<=(i+j) / 2:=by omega
   have e2:(i+j) / 2<j:=by omega
   generalize (i+j) / 2=m at *
   have z:l.getD (Int.toNat (m:Int)) n4=l.getD m n4:=rfl;have cx:=Bf (l.getD m n4) q;by_cases hc:(l.getD m n4).id<q
   ·rw[show uj (l.getD m n4) q = -1 by unfold uj;rw[if_pos hc]]at cx;refine vb7 ?_;(repeat intro hh);refine⟨(m+1,j),?_⟩;conv=>whnf
    refine kK ⟨⟨?_,by show m+1<=j;omega,g2,?_,g4⟩,?_,rfl,rfl⟩
    ·show j-(m+1)<j-i;omega
    ·intro p hp;have hp:p<m+1:=hp;by_cases e:p=m
     ·subst e;assumption
     ·have:(l.getD p n4).id<(l.getD m n4).id:=(aj (d:=n4) hs (show p<m by omega) va5).1;omega
    ·rw[C7 _ va5 va5];rfl
   ·have cp:0<=uj (l.getD m n4) q:=by unfold uj;rw[if_neg hc];split<;>omega
    generalize uj (l.getD m n4) q=cq at cx cp;refine vb7 ?_;(repeat intro hh);refine⟨(i,m),?_⟩;conv=>whnf
    refine kK ⟨⟨?_,e1,by show m<=l.length;omega,g3,?_⟩,rfl,rfl,rfl⟩
    ·show m-i<j-i;omega
    ·intro p h1 h2;have h1:m<=p:=h1;by_cases e:p=m
     ·subst e;omega
     ·have:(l.getD m n4).id<(l.getD p n4).id:=(aj (d:=n4) hs (show m<p by omega) h2).1;omega
  ·have h:=zA0 h;simp only[]at h;have e:i=j:=by omega
   subst e;rw[LF hs g2 g3 g4,Fu g2 g3 (fun q=>g4 i (Nat.le_refl i) q)];have cx:=Bf (l.getD i n4) q;have z:l.getD (Int.toNat (i:Int)) n4=l.getD i n4:=rfl;have ci:uj (l.getD i n4) q=0↔(l.getD i n4).id=q:=by
    unfold uj;split
    ·exact⟨fun h=>absurd h va8,fun h=>by omega⟩
    ·split
     ·exact⟨fun h=>absurd h va8,fun h=>by omega⟩
     ·exact⟨fun _=>by omega,fun _=>rfl⟩
   generalize uj (l.getD i n4) q=cq at cx ci;(repeat' ((first|refine va0 (fun hh=>?_) fun hh=>?_|refine kR ?_|((try refine .inl ?_;conv=>whnf);(try refine⟨false,?_⟩;conv=>whnf);refine⟨_,by assumption,?_⟩)|fail)<;>first|exact hh.elim|conv=>whnf));all_goals (refine congrArg (fun z=>AV.tup [i64 i,AV.bool z]) ?_)
   ·rw[zA4 (show i<l.length by omega),Bool.true_and];exact decide_eq_decide.2 ci
   ·rw[zA5 (show ¬i<l.length by omega)];rfl
theorem OH(t:TrackT)(hv:eT t=0)(q v:Int)(h:mN t q v=0):va6 265 [sL t,i64 q,u8 v] (.tup [sL (xY t q v),i64 0]):=by
 have g:=L3.1 hv;obtain⟨e1,e2,e3,e4⟩:=og h;have sz:=dX hv;have c:=K9 t va5;rw[hv]at c;have cb:=Fv t.k9 g.up va5 q;rw[e2,vG g.up e2]at cb;have hb:=g.bl;have bl:=G1.1 hb;have c2:=jd t.n8 hb;have c3:=fO t.n8 hb t.n8.y9 bl.2.2.1.1 bl.2.2.1.2;have wr:=bC hb bl.2.2.1.1 bl.2.2.1.2;have hf:=fK e2;have LG:=g.sn _ (I2 (d:=n4) hf);unfold xY;generalize t.k9.findIdx (W5 q)=k at *
 have z:t.k9.getD (Int.toNat (k:Int)) n4=t.k9.getD k n4:=rfl;have w1:IntKind.i64.wrap ((t.k9.getD (Int.toNat (k:Int)) n4).cnt+V4 t.n8 t.n8.y9)=(t.k9.getD k n4).cnt+V4 t.n8 t.n8.y9:=by
  rw[z,C7 _ (by have:=LG.2;omega) (by have:=LG.2;omega)]
 refine pF Tryz.func265 ?_;conv=>whnf
 refine vb7 ?_;(repeat intro hh);(refine va2 [] [69] ?_;(conv=>whnf);refine va3 [] (vF t.k9 va5) ?_);conv=>whnf
 refine vb8 ?_;(repeat intro hh);refine⟨Ru (t.k9.getD k n4) v,rfl,hf,?_⟩;refine vb8 ?_;(repeat intro hh);try rfl
theorem Bg(t:TrackT)(hv:eT t=0)(q v:Int)(h:¬mN t q v=0):va6 265 [sL t,i64 q,u8 v] (.tup [UL,i64 (mN t q v)]):=by
 have g:=L3.1 hv;have sz:=dX hv;have c:=K9 t va5;rw[hv]at c;have cb:=Fv t.k9 g.up va5 q;have hb:=g.bl;have bl:=G1.1 hb;have c2:=jd t.n8 hb;have c3:=fO t.n8 hb t.n8.y9 bl.2.2.1.1 bl.2.2.1.2;have wr:=bC hb bl.2.2.1.1 bl.2.2.1.2;unfold mN at h ⊢;by_cases h1:v<1∨3<v
 ·rw[if_pos h1];refine pF Tryz.func265 ?_;conv=>whnf
  try exact va1
  all_goals rfl
 rw[if_neg h1]at h ⊢;by_cases e2:t.k9.any (W5 q)=true
 ·rw[if_neg (fun f=>f e2)]at h ⊢;rw[e2,vG g.up e2]at cb;have hf:=fK e2;have LG:=g.sn _ (I2 (d:=n4) hf);generalize t.k9.findIdx (W5 q)=k at *
  have z:t.k9.getD (Int.toNat (k:Int)) n4=t.k9.getD k n4:=rfl;have w1:IntKind.i64.wrap ((t.k9.getD (Int.toNat (k:Int)) n4).cnt+V4 t.n8 t.n8.y9)=(t.k9.getD k n4).cnt+V4 t.n8 t.n8.y9:=by
   rw[z,C7 _ (by have:=LG.2;omega) (by have:=LG.2;omega)]
  split at h
  ·rename_i h3;rw[if_pos h3];refine pF Tryz.func265 ?_;conv=>whnf
   refine vb7 ?_;(repeat intro hh);all_goals (first|rfl|(exfalso;rw[z]at *; omega))
  ·exact absurd rfl h
 ·rw[if_pos e2]at h ⊢;have e2:t.k9.any (W5 q)=false:=by simpa using e2
  rw[e2]at cb;refine pF Tryz.func265 ?_;conv=>whnf
  try exact va1
  all_goals rfl
theorem a4s{l:List x7}{q:Int}{k:Nat}(hk:k<l.length)(h0:∀ j,j<k->¬(l.getD j n4).id=q)(h:(l.getD k n4).id=q):l.any (W5 q)=true/\l.findIdx (W5 q)=k:=by
 have hf:l.any (W5 q)=true:=List.any_eq_true.2 ⟨_,I2 hk,zA4 h⟩;refine⟨hf,?_⟩;have A2:=fK hf;have a:=List.findIdx_getElem (p:=W5 q) (xs:=l) (w:=A2);have a:(l.getD (l.findIdx (W5 q)) n4).id=q:=by rw[x9 A2];exact zA1 a
 rcases Nat.lt_trichotomy (l.findIdx (W5 q)) k with z|z|z
 ·exact absurd a (h0 _ z)
 ·exact z
 ·have b:=List.not_of_lt_findIdx z;exfalso;have FV:W5 q l[k]=true:=zA4 (by rw[<- x9 hk (d:=n4)];exact h);rw[FV]at b;simp at b
theorem a3Q{l:List x7}{q:Int}(h0:∀ j,j<l.length->¬(l.getD j n4).id=q):l.any (W5 q)=false:=by
 rw[<- Bool.not_eq_true,List.any_eq_true];rintro⟨x,hx,e⟩;obtain⟨m,hm,e2⟩:=List.getElem_of_mem hx;exact h0 m hm (by rw[x9 hm,e2];exact zA1 e)
theorem a3R(t:TrackT)(hI:G7 t.n8.step)(hv:eT t=0)(q v:Int):va6 234 [sL t,i64 q,u8 v] (if mN t q v=0 then .tup [sL (xY t q v),i64 0]else .tup [UL,i64 (mN t q v)]):=by
 have g:=L3.1 hv;have sz:=dX hv;have c:=bo t va5 hI;rw[hv]at c;have hb:=g.bl;have bl:=G1.1 hb;have c3:=a1k t.n8 hb t.n8.y9 bl.2.2.1.1 bl.2.2.1.2;have wr:=bC hb bl.2.2.1.1 bl.2.2.1.2;by_cases h1:v<1∨3<v
 ·unfold mN;rw[if_pos h1];refine pF Tryz.func234 ?_;conv=>whnf
  try exact va1
 ·refine pF Tryz.func234 ?_;conv=>whnf
  refine vb7 ?_;(repeat intro hh);(refine va2 [] [35] ?_;(conv=>whnf);refine va3 [] (a1y t va5) ?_);conv=>whnf
  refine Or.inr ⟨Nat,[11],[],[],fun k=>[i64 k],fun _=>[],fun _=>[],fun k=>t.k9.length-k,fun k=>k<=t.k9.length/\∀ j,j<k->¬(t.k9.getD j n4).id=q,?_⟩;conv=>whnf
  refine⟨⟨0,?_⟩,?_⟩
  ·(conv=>whnf);exact kK ⟨⟨zB4 _,fun j hj=>absurd hj (zB3 j)⟩,rfl,rfl,rfl⟩
  rintro k ⟨hk,hn⟩;have z:t.k9.getD (Int.toNat (k:Int)) n4=t.k9.getD k n4:=rfl;conv=>whnf
  refine⟨fun h=>?_,fun h=>?_⟩
  ·have h:=zA1 h;have L7:k<t.k9.length:=by omega
   have LG:=g.sn _ (I2 (d:=n4) L7);have w1:IntKind.i64.wrap ((t.k9.getD (Int.toNat (k:Int)) n4).cnt+V4 t.n8 t.n8.y9)=(t.k9.getD k n4).cnt+V4 t.n8 t.n8.y9:=by
    rw[z,C7 _ (by have:=LG.2;omega) (by have:=LG.2;omega)]
   have x1:¬(t.k9.getD k n4).id=q->¬(t.k9.getD (Int.toNat (k:Int)) n4).id=q:=fun h=>h
   have x2:(t.k9.getD k n4).id=q->(t.k9.getD (Int.toNat (k:Int)) n4).id=q:=fun h=>h
   by_cases hq:(t.k9.getD k n4).id=q
   ·obtain⟨f1,f2⟩:=a4s L7 hn hq;have x2:=x2 hq;clear x1;by_cases h3:¬(t.k9.getD k n4).o6=0∨(t.k9.getD k n4).cnt+V4 t.n8 t.n8.y9<=t.count
    ·have et:mN t q v=91:=by unfold mN;rw[if_neg h1,if_neg (fun n=>n f1),f2,if_pos h3]
     conv=>whnf
     (repeat' ((first|refine va0 (fun hh=>?_) fun hh=>?_|refine kT ?_|fail)<;>first|exact hh.elim|conv=>whnf));all_goals (first|(rw[if_neg (by rw[et];decide),et];done)|(exfalso;rw[z]at *; omega))
    ·have et:mN t q v=0:=by unfold mN;rw[if_neg h1,if_neg (fun n=>n f1),f2,if_neg h3]
     conv=>whnf
     (repeat' ((first|refine va0 (fun hh=>?_) fun hh=>?_|refine kT ?_|fail)<;>first|exact hh.elim|conv=>whnf))
     ·exact absurd (Or.inl hh) h3
     refine⟨Ru (t.k9.getD k n4) v,rfl,L7,?_⟩;refine vc0 ?_;(repeat intro hh);rw[if_pos et];unfold xY;rw[f2];try rfl
   ·have x1:=x1 hq;conv=>whnf
    refine vc0 ?_;(repeat intro hh);refine⟨k+1,?_⟩;conv=>whnf
    refine kK ⟨⟨?_,?_,fun j hj=>?_⟩,?_,rfl,rfl⟩
    ·show t.k9.length-(k+1)<t.k9.length-k;omega
    ·show k+1<=t.k9.length;omega
    ·by_cases z:j=k
     ·subst z;exact hq
     ·exact hn j (by have hj:j<k+1:=hj;omega)
    ·rw[C7 _ va5 va5];rfl
  ·have h:=zA0 h;have ek:k=t.k9.length:=by omega
   rw[ek]at hn;conv=>whnf
   have et:mN t q v=6:=by unfold mN;rw[if_neg h1,if_pos (by rw[a3Q hn];decide)]
   rw[if_neg (by rw[et];decide),et]
theorem LH{b:G3}(hb:O2 b=true){x:x7}(hx:0<=x.cnt/\x.cnt<=1099511627776):IntKind.i64.wrap (x.cnt+V4 b b.y9)=x.cnt+V4 b b.y9/\IntKind.i64.wrap (x.cnt+N7 b b.y9)=x.cnt+N7 b b.y9:=by
 have bl:=G1.1 hb;have wr:=bC hb bl.2.2.1.1 bl.2.2.1.2;exact⟨C7 _ va5 va5,C7 _ va5 va5⟩
theorem a2Z(b:G3)(hb:O2 b=true)(x:x7)(hx:0<=x.cnt/\x.cnt<=1099511627776)(n:Int):va6 279 [fA b,.agg (I1 x),i64 n] (.bool (aG b x n)):=by
 have bl:=G1.1 hb;have c3:=a1k b hb b.y9 bl.2.2.1.1 bl.2.2.1.2;have c4:=l5 n (IntKind.i64.wrap (x.cnt+V4 b b.y9)) (IntKind.i64.wrap (x.cnt+N7 b b.y9));have w:=LH hb hx;have e:(decide (IntKind.i64.wrap (x.cnt+V4 b b.y9)<=n) && decide (n<=IntKind.i64.wrap (x.cnt+N7 b b.y9)))=aG b x n:=by rw[w.1,w.2];rfl
 rw[e]at c4;refine pF Tryz.func279 ?_;conv=>whnf
 try exact va1
 all_goals rfl
theorem LI{l:List x7}{p:x7->Bool}(h:∀ j,j<l.length->p (l.getD j n4)=false):l.any p=false:=by
 rw[<- Bool.not_eq_true,List.any_eq_true];rintro⟨x,hx,e⟩;obtain⟨m,hm,e2⟩:=List.getElem_of_mem hx;have:=h m hm;rw[x9 hm,e2,e]at this;cases this
theorem a1W(t:TrackT)(hb:O2 t.n8=true)(hl:t.k9.length<2^20)(hp:∀ x,x ∈ t.k9->0<=x.cnt/\x.cnt<=1099511627776)(n:Int):va6 235 [sL t,i64 n] (.bool (cH t n)):=by
 refine pF Tryz.func235 ?_;conv=>whnf
 refine Or.inr ⟨Nat,[5],[],[],fun k=>[i64 k],fun _=>[],fun _=>[],fun k=>t.k9.length-k,fun k=>k<=t.k9.length/\∀ j,j<k->(!decide ((t.k9.getD j n4).o6=1) && aG t.n8 (t.k9.getD j n4) n)=false,?_⟩;conv=>whnf
 refine⟨⟨0,?_⟩,?_⟩
 ·(conv=>whnf);exact kK ⟨⟨zB4 _,fun j hj=>absurd hj (zB3 j)⟩,rfl,rfl,rfl⟩
 rintro k ⟨hk,hn⟩;conv=>whnf
 refine⟨fun h=>?_,fun h=>?_⟩
 ·have h:=zA1 h;have L7:k<t.k9.length:=by omega
  have cm:=a2Z t.n8 hb (t.k9.getD k n4) (hp _ (I2 L7)) n;have yes:(!decide ((t.k9.getD k n4).o6=1) && aG t.n8 (t.k9.getD k n4) n)=true->cH t n=true:=fun e=>List.any_eq_true.2 ⟨_,I2 L7,e⟩
  conv=>whnf
  by_cases hv:(t.k9.getD k n4).o6=1
  ·have z:(t.k9.getD (Int.toNat (k:Int)) n4).o6=1:=hv;refine vb9 ?_;(repeat intro hh)
   ·refine⟨k+1,?_⟩;conv=>whnf
    refine kK ⟨⟨?_,?_,fun j hj=>?_⟩,?_,rfl,rfl⟩
    ·show t.k9.length-(k+1)<t.k9.length-k;omega
    ·show k+1<=t.k9.length;omega
    ·by_cases z:j=k
     ·subst z;rw[zA4 hv];rfl
     ·exact hn j (by have hj:j<k+1:=hj;omega)
    ·rw[C7 _ va5 va5];rfl
  ·have z:¬(t.k9.getD (Int.toNat (k:Int)) n4).o6=1:=hv;rw[zA5 hv]at yes;(repeat' ((first|refine va0 (fun hh=>?_) fun hh=>?_|refine kT ?_|((try refine .inl ?_;conv=>whnf);(try refine⟨false,?_⟩;conv=>whnf);refine⟨_,by assumption,?_⟩)|fail)<;>first|exact hh.elim|conv=>whnf))
   ·rw[yes hh]
   ·refine⟨k+1,?_⟩;conv=>whnf
    refine kK ⟨⟨?_,?_,fun j hj=>?_⟩,?_,rfl,rfl⟩
    ·show t.k9.length-(k+1)<t.k9.length-k;omega
    ·show k+1<=t.k9.length;omega
    ·by_cases z:j=k
     ·subst z;rw[zA5 hv];exact hh
     ·exact hn j (by have hj:j<k+1:=hj;omega)
    ·rw[C7 _ va5 va5];rfl
 ·have h:=zA0 h;have ek:k=t.k9.length:=by omega
  rw[ek]at hn;conv=>whnf
  have e:cH t n=false:=LI hn;rw[e];all_goals rfl
theorem a2u(t:TrackT)(hI:G7 t.n8.step)(hv:eT t=0):va6 180 [sL t] (.tup [.bool (cH t (t.count+1)),i64 0]):=by
 have g:=L3.1 hv;have sz:=dX hv;have c:=bo t va5 hI;rw[hv]at c;have w1:IntKind.i64.wrap (t.count+1)=t.count+1:=C7 _ va5 va5;have c2:=a1W t g.bl va5 (fun x hx=>by have:=(g.sn x hx).2;omega) (IntKind.i64.wrap (t.count+1));rw[w1]at c2;rw[<- w1]at c2;refine pF Tryz.func180 ?_;conv=>whnf
 refine vb7 ?_;(repeat intro hh);rw[w1]
def a0J(t:TrackT)(x:x7):Bool:=decide (x.cnt+N7 t.n8 t.n8.y9=t.count+1)
def lz(t:TrackT)(k:Nat):List km:=(((hits t).take k).filter (a0J t)).map ja
def ml(t:TrackT)(k:Nat):List x7:=((hits t).take k).filter (fun x => !a0J t x)
theorem a0U{t:TrackT}{k:Nat}(hk:k<t.k9.length):(hits t).take (k+1)=(hits t).take k++[S9 t.n8 (cH t (t.count+1)) (t.count+1) (t.k9.getD k n4)]:=by
 have hl:=fN t;rw[List.take_add_one,<- bI t k hk,zA6 va5,x9 va5];rfl
theorem a02(t:TrackT)(k:Nat):((hits t).take k).length<=k:=by rw[zB1];omega
theorem a3S(t:TrackT)(k:Nat):(lz t k).length<=k:=by
 unfold lz;rw[List.length_map];exact Nat.le_trans (List.length_filter_le _ _) (a02 t k)
theorem a3T(t:TrackT)(k:Nat):(ml t k).length<=k:=Nat.le_trans (List.length_filter_le _ _) (a02 t k)
theorem a1X(t:TrackT)(op:Bool)(n:Int)(x:x7):a0J t (S9 t.n8 op n x)=a0J t x:=rfl
theorem a0V{t:TrackT}{k:Nat}(hk:k<t.k9.length){op B:Bool}(lp:cH t (t.count+1)=op)(hB:((t.k9.getD k n4).hit || (op && aG t.n8 (t.k9.getD k n4) (t.count+1)))=B)(hg:a0J t (t.k9.getD k n4)=true) :
  lz t (k+1)=lz t k++[⟨(t.k9.getD k n4).id,(t.k9.getD k n4).o6,B⟩]/\ml t (k+1)=ml t k:=by
 unfold lz ml;rw[a0U hk,lp,List.filter_append,List.filter_append,List.map_append];simp only[List.filter_cons,List.filter_nil,a1X,hg,Bool.not_true,zB0,if_false,if_true,List.append_nil,List.map_cons,List.map_nil];refine⟨?_,trivial⟩;rw[<- hB];rfl
theorem a0W{t:TrackT}{k:Nat}(hk:k<t.k9.length){op B:Bool}(lp:cH t (t.count+1)=op)(hB:((t.k9.getD k n4).hit || (op && aG t.n8 (t.k9.getD k n4) (t.count+1)))=B)(hg:a0J t (t.k9.getD k n4)=false) :
  ml t (k+1)=ml t k++[⟨(t.k9.getD k n4).id,(t.k9.getD k n4).cnt,(t.k9.getD k n4).o6,B⟩]/\lz t (k+1)=lz t k:=by
 unfold lz ml;rw[a0U hk,lp,List.filter_append,List.filter_append,List.map_append];simp only[List.filter_cons,List.filter_nil,a1X,hg,Bool.not_false,zB0,if_false,if_true,List.append_nil,List.map_cons,List.map_nil];refine⟨?_,trivial⟩;rw[<- hB];rfl
theorem a3j{t:TrackT}(g:T9 t):ml t t.k9.length=(gP t).k9/\lz t t.k9.length=nX t:=by
 have h:=bZ g;have e:(hits t).take t.k9.length=hits t:=List.take_of_length_le (by rw[fN];omega);unfold ml lz;rw[e];exact⟨h.1,(congrArg (List.map ja) h.2).trans (by unfold nX;split<;>rfl)⟩
theorem a3k(t:TrackT)(g:T9 t)(hc:t.count<1099511627776):va6 236 [sL t] (.tup [sL (gP t),AH (nX t)]):=by
 have hb:=g.bl;have ln:=g.ln;have ct:=g.ct;have bl:=G1.1 hb;have c3:=a1k t.n8 hb t.n8.y9 bl.2.2.1.1 bl.2.2.1.2;have wr:=bC hb bl.2.2.1.1 bl.2.2.1.2;have w1:IntKind.i64.wrap (t.count+1)=t.count+1:=C7 _ va5 va5;have c2:=a1W ⟨t.n8,IntKind.i64.wrap (t.count+1),t.next,t.k9⟩ g.bl (by show t.k9.length<_;omega) (fun x hx=>by have:=(g.sn x hx).2;omega) (IntKind.i64.wrap (t.count+1));have eo:cH ⟨t.n8,IntKind.i64.wrap (t.count+1),t.next,t.k9⟩ (IntKind.i64.wrap (t.count+1))=cH t (t.count+1):=by rw[w1];rfl
 rw[eo]at c2;generalize lp:cH t (t.count+1)=op at c2;refine pF Tryz.func236 ?_;conv=>whnf
 refine vb7 ?_;(repeat intro hh);refine Or.inr ⟨Nat,[9],[],[(7,⟨km,243,3,Lh,AG⟩),(8,⟨x7,78,4,n4,I1⟩)],fun k=>[i64 k],fun _=>[],fun k=>[.vec 243 3 Lh AG (lz t k),.vec 78 4 n4 I1 (ml t k)],fun k=>t.k9.length-k,fun k=>k<=t.k9.length,?_⟩;conv=>whnf
 refine⟨⟨0,?_⟩,?_⟩
 ·(conv=>whnf);exact kK ⟨zB4 _,rfl,rfl,rfl⟩
 intro k hk;conv=>whnf
 refine⟨fun h=>?_,fun h=>?_⟩
 ·have h:=zA1 h;have L7:k<t.k9.length:=by omega
  have hx:=a0U L7;rw[lp]at hx;have fl:=a3S t k;have ll:=a3T t k;have LG:=g.sn _ (I2 (d:=n4) L7);have hw:=LH hb (x:=t.k9.getD k n4) (by have:=LG.2;omega);have wg:IntKind.i64.wrap ((t.k9.getD (Int.toNat (k:Int)) n4).cnt+N7 t.n8 t.n8.y9)=(t.k9.getD k n4).cnt+N7 t.n8 t.n8.y9:=hw.2;have cm:=a2Z t.n8 hb (t.k9.getD k n4) (by have:=LG.2;omega) (IntKind.i64.wrap (t.count+1));rw[w1]at cm;rw[<- w1]at cm;have gx:a0J t (t.k9.getD k n4)=decide ((t.k9.getD k n4).cnt+N7 t.n8 t.n8.y9=t.count+1):=rfl;have hwt:aG t.n8 (t.k9.getD k n4) (IntKind.i64.wrap (t.count+1))=aG t.n8 (t.k9.getD k n4) (t.count+1):=by rw[w1]
  rw[hwt]at cm;generalize hhe:aG t.n8 (t.k9.getD k n4) (t.count+1)=he at cm;by_cases hg:a0J t (t.k9.getD k n4)=true
  ·have hgg:(t.k9.getD k n4).cnt+N7 t.n8 t.n8.y9=t.count+1:=by rw[gx]at hg;exact zA1 hg
   cases op
   ·have hB:((t.k9.getD k n4).hit || (false && aG t.n8 (t.k9.getD k n4) (t.count+1)))=(t.k9.getD k n4).hit:=by simp
    conv=>whnf
    refine vb9 ?_;(repeat intro hh);refine⟨⟨km,3,Lh,AG,lz t k⟩,[⟨(t.k9.getD k n4).id,(t.k9.getD k n4).o6,(t.k9.getD k n4).hit⟩],rfl,rfl,⟨rfl,rfl⟩,?_,?_,fun y _=>⟨rfl,rfl,rfl⟩,?_⟩
    ·show((lz t k).length+1)*16<=_;omega
    ·show(lz t k).length+1<=_;omega
    have sg:=a0V L7 lp hB hg;refine vc0 ?_;(repeat intro hh);refine⟨k+1,?_⟩;conv=>whnf
    refine kK ⟨⟨?_,?_⟩,?_,rfl,?_⟩
    ·show t.k9.length-(k+1)<t.k9.length-k;omega
    ·show k+1<=t.k9.length;omega
    ·rw[C7 _ va5 va5];rfl
    ·show _=[Row.vec 243 3 Lh AG (lz t (k+1)),Row.vec 78 4 n4 I1 (ml t (k+1))];rw[sg.1,sg.2]<;>rfl
   ·cases he
    ·have hB:((t.k9.getD k n4).hit || (true && aG t.n8 (t.k9.getD k n4) (t.count+1)))=(t.k9.getD k n4).hit:=by rw[hhe];simp
     conv=>whnf
     refine vb9 ?_;(repeat intro hh);refine⟨⟨km,3,Lh,AG,lz t k⟩,[⟨(t.k9.getD k n4).id,(t.k9.getD k n4).o6,(t.k9.getD k n4).hit⟩],rfl,rfl,⟨rfl,rfl⟩,?_,?_,fun y _=>⟨rfl,rfl,rfl⟩,?_⟩
     ·show((lz t k).length+1)*16<=_;omega
     ·show(lz t k).length+1<=_;omega
     have sg:=a0V L7 lp hB hg;refine vc0 ?_;(repeat intro hh);refine⟨k+1,?_⟩;conv=>whnf
     refine kK ⟨⟨?_,?_⟩,?_,rfl,?_⟩
     ·show t.k9.length-(k+1)<t.k9.length-k;omega
     ·show k+1<=t.k9.length;omega
     ·rw[C7 _ va5 va5];rfl
     ·show _=[Row.vec 243 3 Lh AG (lz t (k+1)),Row.vec 78 4 n4 I1 (ml t (k+1))];rw[sg.1,sg.2]<;>rfl
    ·have hB:((t.k9.getD k n4).hit || (true && aG t.n8 (t.k9.getD k n4) (t.count+1)))=true:=by rw[hhe];simp
     conv=>whnf
     refine vb9 ?_;(repeat intro hh);refine⟨⟨km,3,Lh,AG,lz t k⟩,[⟨(t.k9.getD k n4).id,(t.k9.getD k n4).o6,true⟩],rfl,rfl,⟨rfl,rfl⟩,?_,?_,fun y _=>⟨rfl,rfl,rfl⟩,?_⟩
     ·show((lz t k).length+1)*16<=_;omega
     ·show(lz t k).length+1<=_;omega
     have sg:=a0V L7 lp hB hg;refine vc0 ?_;(repeat intro hh);refine⟨k+1,?_⟩;conv=>whnf
     refine kK ⟨⟨?_,?_⟩,?_,rfl,?_⟩
     ·show t.k9.length-(k+1)<t.k9.length-k;omega
     ·show k+1<=t.k9.length;omega
     ·rw[C7 _ va5 va5];rfl
     ·show _=[Row.vec 243 3 Lh AG (lz t (k+1)),Row.vec 78 4 n4 I1 (ml t (k+1))];rw[sg.1,sg.2]<;>rfl
  ·have hgg:¬(t.k9.getD k n4).cnt+N7 t.n8 t.n8.y9=t.count+1:=by rw[gx]at hg;exact fun h=>hg (zA4 h)
   have hg:a0J t (t.k9.getD k n4)=false:=by simpa using hg
   cases op
   ·have hB:((t.k9.getD k n4).hit || (false && aG t.n8 (t.k9.getD k n4) (t.count+1)))=(t.k9.getD k n4).hit:=by simp
    conv=>whnf
    refine vb9 ?_;(repeat intro hh);refine⟨⟨x7,4,n4,I1,ml t k⟩,[⟨(t.k9.getD k n4).id,(t.k9.getD k n4).cnt,(t.k9.getD k n4).o6,(t.k9.getD k n4).hit⟩],rfl,rfl,⟨rfl,rfl⟩,?_,?_,fun y _=>⟨rfl,rfl,rfl⟩,?_⟩
    ·show((ml t k).length+1)*24<=_;omega
    ·show(ml t k).length+1<=_;omega
    have sg:=a0W L7 lp hB hg;refine vc0 ?_;(repeat intro hh);refine⟨k+1,?_⟩;conv=>whnf
    refine kK ⟨⟨?_,?_⟩,?_,rfl,?_⟩
    ·show t.k9.length-(k+1)<t.k9.length-k;omega
    ·show k+1<=t.k9.length;omega
    ·rw[C7 _ va5 va5];rfl
    ·show _=[Row.vec 243 3 Lh AG (lz t (k+1)),Row.vec 78 4 n4 I1 (ml t (k+1))];rw[sg.1,sg.2]<;>rfl
   ·cases he
    ·have hB:((t.k9.getD k n4).hit || (true && aG t.n8 (t.k9.getD k n4) (t.count+1)))=(t.k9.getD k n4).hit:=by rw[hhe];simp
     conv=>whnf
     refine vb9 ?_;(repeat intro hh);refine⟨⟨x7,4,n4,I1,ml t k⟩,[⟨(t.k9.getD k n4).id,(t.k9.getD k n4).cnt,(t.k9.getD k n4).o6,(t.k9.getD k n4).hit⟩],rfl,rfl,⟨rfl,rfl⟩,?_,?_,fun y _=>⟨rfl,rfl,rfl⟩,?_⟩
     ·show((ml t k).length+1)*24<=_;omega
     ·show(ml t k).length+1<=_;omega
     have sg:=a0W L7 lp hB hg;refine vc0 ?_;(repeat intro hh);refine⟨k+1,?_⟩;conv=>whnf
     refine kK ⟨⟨?_,?_⟩,?_,rfl,?_⟩
     ·show t.k9.length-(k+1)<t.k9.length-k;omega
     ·show k+1<=t.k9.length;omega
     ·rw[C7 _ va5 va5];rfl
     ·show _=[Row.vec 243 3 Lh AG (lz t (k+1)),Row.vec 78 4 n4 I1 (ml t (k+1))];rw[sg.1,sg.2]<;>rfl
    ·have hB:((t.k9.getD k n4).hit || (true && aG t.n8 (t.k9.getD k n4) (t.count+1)))=true:=by rw[hhe];simp
     conv=>whnf
     refine vb9 ?_;(repeat intro hh);refine⟨⟨x7,4,n4,I1,ml t k⟩,[⟨(t.k9.getD k n4).id,(t.k9.getD k n4).cnt,(t.k9.getD k n4).o6,true⟩],rfl,rfl,⟨rfl,rfl⟩,?_,?_,fun y _=>⟨rfl,rfl,rfl⟩,?_⟩
     ·show((ml t k).length+1)*24<=_;omega
     ·show(ml t k).length+1<=_;omega
     have sg:=a0W L7 lp hB hg;refine vc0 ?_;(repeat intro hh);refine⟨k+1,?_⟩;conv=>whnf
     refine kK ⟨⟨?_,?_⟩,?_,rfl,?_⟩
     ·show t.k9.length-(k+1)<t.k9.length-k;omega
     ·show k+1<=t.k9.length;omega
     ·rw[C7 _ va5 va5];rfl
     ·show _=[Row.vec 243 3 Lh AG (lz t (k+1)),Row.vec 78 4 n4 I1 (ml t (k+1))];rw[sg.1,sg.2]<;>rfl
 ·have h:=zA0 h;have ek:k=t.k9.length:=by omega
  subst ek;have af:=a3j g;conv=>whnf
  rw[af.1,af.2,w1];rfl
theorem a3U(t:TrackT):(nX t).length<=1:=by unfold nX;split<;>simp
theorem a03(t:TrackT)(hI:G7 t.n8.step)(hv:eT t=0)(hc:t.count<1099511627776):va6 181 [sL t,i64 1] (.tup [sL (gP t),AH (nX t),i64 0]):=by
 have g:=L3.1 hv;have sz:=dX hv;have c:=bo t va5 hI;rw[hv]at c;have c2:=l5 1 1 1000;rw[show(decide ((1:Int)<=1) && decide ((1:Int)<=1000))=true from rfl]at c2;have c3:=a3O t va5;have c4:=a3k t g hc;have w1:IntKind.i64.wrap (t.count+1)=t.count+1:=C7 _ va5 va5;have fl:=a3U t;refine pF Tryz.func181 ?_;conv=>whnf
 refine vb7 ?_;(repeat intro hh);refine Or.inl ⟨2,?_⟩;conv=>whnf
 refine vb3 ?_;(repeat intro hh);refine⟨⟨km,3,Lh,AG,[]⟩,nX t,rfl,rfl,rfl,?_,?_,fun y _=>⟨rfl,rfl,rfl⟩,?_⟩
 ·show(0+(nX t).length)*16<=_;omega
 ·show 0+(nX t).length<=_;omega
 conv=>whnf
 refine vb3 ?_;(repeat intro hh);all_goals rfl
def Fw(b:G3)(n x:Int)(p:AV):List AV:=[i64 b.step,i64 b.A0,i64 b.y9,i64 b.len,i64 n,i64 x,p,i64 (V4 b b.y9),i64 (N7 b b.y9)]
abbrev OI(b:G3)(c x:Int)(p:AV):AV := .pt (Fw b c x p) 0
theorem yf(b:G3)(hb:O2 b=true)(c x:Int)(l:List x7)(s:x7)(hs:0<=s.cnt/\s.cnt<=1099511627776)(n:Int):va6 268 [OI b c x (U1 l),.agg (I1 s),i64 n] (.bool (aG b s n)):=by
 have w:=LH hb hs;have e:aG b s n=(decide (IntKind.i64.wrap (s.cnt+V4 b b.y9)<=n) && decide (n<=IntKind.i64.wrap (s.cnt+N7 b b.y9))):=by rw[w.1,w.2];rfl
 rw[e];refine pF Tryz.func268 ?_;conv=>whnf
 (repeat' ((first|refine va0 (fun hh=>?_) fun hh=>?_|refine kR ?_|fail)<;>first|exact hh.elim|conv=>whnf));all_goals (first|(refine congrArg AV.bool (Bool.eq_iff_iff.2 ?_);simp only[zA2,zA9,Bool.not_eq_true',zA3,decide_eq_false_iff_not,zB0,iff_false,iff_true,true_iff,false_iff,reduceCtorEq,not_true_eq_false,not_false_eq_true];omega))
theorem HZ(b:G3)(hb:O2 b=true)(c x:Int)(l:List x7)(s:x7)(hs:0<=s.cnt/\s.cnt<=1099511627776)(n:Int):va6 306 [.agg (I1 s),.pt [OI b c x (U1 l)] 0,.pt [i64 n] 0] (.bool (!decide (s.o6=1) && aG b s n)):=by
 have ch:=yf b hb c x l s hs n;refine pF Tryz.func306 ?_;conv=>whnf
 by_cases h:s.o6=1
 ·rw[zA4 h];try exact va1
 ·rw[zA5 h];try exact va1
def Tf(p:x7->Bool)(l:List x7):Int:=if l.any p=true then(l.findIdx p:Nat)else -1
theorem DP(b:G3)(c x n:Int)(q:List x7)(p:x7->Bool)(l:List x7)(hp:∀ s,s ∈ l->va6 306 (.agg (I1 s) :: [.pt [OI b c x (U1 q)] 0,.pt [i64 n] 0]) (.bool (p s)))(hl:l.length<2^20):va6 323 [U1 l,.fn (.func 306) [] [.pt [OI b c x (U1 q)] 0,.pt [i64 n] 0]] (i64 (Tf p l)):=by
 refine pF Tryz.func323 ?_;conv=>whnf
 refine Or.inr ⟨Nat,[8],[],[],fun k=>[i64 k],fun _=>[],fun _=>[],fun k=>l.length-k,fun k=>k<=l.length/\∀ m,m<k->p (l.getD m n4)=false,?_⟩;conv=>whnf
 refine⟨⟨0,?_⟩,?_⟩
 ·(conv=>whnf);exact kK ⟨⟨zB4 _,fun i hi=>absurd hi (zB3 i)⟩,rfl,rfl,rfl⟩
 rintro k ⟨hk,hn⟩;conv=>whnf
 refine⟨fun h=>?_,fun h=>?_⟩
 ·have h:=zA1 h;have L7:k<l.length:=by omega
  have c1:=hp _ (I2 (d:=n4) L7);conv=>whnf
  refine⟨⟨va5,va5⟩,?_⟩;conv=>whnf
  rw[show Int.toNat (k:Int)=k from rfl];(repeat' (first|(refine⟨_,by exact c1,?_⟩;(conv=>whnf))|(refine Or.inl ?_;(conv=>whnf);refine⟨_,by exact c1,?_⟩;(conv=>whnf))|(refine Or.inl ?_;(conv=>whnf);refine⟨false,?_⟩;(conv=>whnf);refine⟨_,by exact c1,?_⟩;(conv=>whnf))|(refine⟨va4,?_⟩;(conv=>whnf))|fail));refine⟨fun q1=>?_,fun q1=>?_⟩
  ·(conv=>whnf);refine congrArg i64 ?_;have ha:l.any p=true:=List.any_eq_true.2 ⟨_,I2 L7,q1⟩;unfold Tf;rw[if_pos ha];have e:l.findIdx p=k:=by
    rcases Nat.lt_trichotomy (l.findIdx p) k with z|z|z
    ·have a:=List.findIdx_getElem (p:=p) (xs:=l) (w:=by omega);rw[<- x9 (d:=n4),hn _ z]at a;cases a
    ·exact z
    ·have b:=List.not_of_lt_findIdx z;rw[<- x9 (d:=n4),q1]at b;simp at b
   rw[e]
  ·refine⟨k+1,?_⟩;conv=>whnf
   refine kK ⟨⟨?_,?_,fun j hj=>?_⟩,?_,rfl,rfl⟩
   ·show l.length-(k+1)<l.length-k;omega
   ·show k+1<=l.length;omega
   ·by_cases z:j=k
    ·subst z;exact q1
    ·exact hn j (by have hj:j<k+1:=hj;omega)
   ·rw[C7 _ va5 va5];rfl
 ·have h:=zA0 h;have ek:k=l.length:=by omega
  rw[ek]at hn;conv=>whnf
  unfold Tf;rw[if_neg (by rw[LI hn];decide)]
theorem OJ(p:x7->Bool)(l:List x7):decide (0<=Tf p l)=l.any p:=by
 unfold Tf;cases h:l.any p
 ·rfl
 ·rw[if_pos rfl];exact zA4 va5
theorem Sj(b:G3)(c x n:Int)(q:List x7)(p:x7->Bool)(l:List x7)(hp:∀ s,s ∈ l->va6 306 (.agg (I1 s) :: [.pt [OI b c x (U1 q)] 0,.pt [i64 n] 0]) (.bool (p s)))(hl:l.length<2^20):va6 305 [U1 l,.fn (.func 306) [] [.pt [OI b c x (U1 q)] 0,.pt [i64 n] 0]] (.bool (l.any p)):=by
 refine pF Tryz.func305 ?_;conv=>whnf
 (repeat' (first|(refine⟨_,by exact DP b c x n q p l hp hl,?_⟩;(conv=>whnf))|(refine Or.inl ?_;(conv=>whnf);refine⟨_,by exact DP b c x n q p l hp hl,?_⟩;(conv=>whnf))|(refine Or.inl ?_;(conv=>whnf);refine⟨false,?_⟩;(conv=>whnf);refine⟨_,by exact DP b c x n q p l hp hl,?_⟩;(conv=>whnf))|(refine⟨va4,?_⟩;(conv=>whnf))|fail));show AV.bool (decide (0<=Tf p l))=_
 rw[OJ]
theorem Bh(t:TrackT)(hb:O2 t.n8=true)(hl:t.k9.length<2^20)(hp:∀ x,x ∈ t.k9->0<=x.cnt/\x.cnt<=1099511627776)(c x n:Int):va6 267 [OI t.n8 c x (U1 t.k9),i64 n] (.bool (cH t n)):=by
 have c1:=Sj t.n8 c x n t.k9 (fun x => !decide (x.o6=1) && aG t.n8 x n) t.k9 (fun s hs=>HZ t.n8 hb c x t.k9 s (hp s hs) n) hl;refine pF Tryz.func267 ?_;conv=>whnf
 try exact va1
theorem vH(t:TrackT)(hb:O2 t.n8=true)(hl:t.k9.length<2^20):va7 266 [sL t] [] (.ptr 0 0 0 0) [.cells 334 (Fw t.n8 t.count t.next (.own 1)),.vec 78 4 n4 I1 t.k9]:=by
 have bl:=G1.1 hb;have c2:=jd t.n8 hb;have c3:=fO t.n8 hb t.n8.y9 bl.2.2.1.1 bl.2.2.1.2;refine pW Tryz.func266 ⟨va4,?_⟩;conv=>whnf
 (refine va2 [] [7] ?_;(conv=>whnf);refine va3 [] (vF t.k9 va5) ?_);conv=>whnf
 refine vb7 ?_;(repeat intro hh);refine⟨[23,7],va4,?_⟩;conv=>whnf
 exact⟨rfl,rfl⟩
theorem UM(t:TrackT)(hb:O2 t.n8=true)(hl:t.k9.length<2^20):va6 266 [sL t] (OI t.n8 t.count t.next (U1 t.k9)):=(vH t hb hl).toPC 6 va4
theorem Fx(t:TrackT)(hv:eT t=0):va6 217 [sL t] (.tup [.bool (cH t (t.count+1)),i64 0]):=by
 have g:=L3.1 hv;have sz:=dX hv;have c:=K9 t va5;rw[hv]at c;have w1:IntKind.i64.wrap (t.count+1)=t.count+1:=C7 _ va5 va5;have c2:=Bh t g.bl va5 (fun x hx=>by have:=(g.sn x hx).2;omega) t.count t.next (IntKind.i64.wrap (t.count+1));refine pF Tryz.func217 ?_;conv=>whnf
 (repeat' ((first|refine va0 (fun hh=>?_) fun hh=>?_|refine kR ?_|((try refine .inl ?_;conv=>whnf);(try refine⟨false,?_⟩;conv=>whnf);refine⟨_,by first|assumption|exact UM t g.bl va5,?_⟩)|fail)<;>first|exact hh.elim|conv=>whnf));all_goals (first|(rw[w1];done))
theorem OK(b:G3)(hb:O2 b=true)(c x:Int)(l:List x7)(s:x7)(hs:0<=s.cnt/\s.cnt<=1099511627776):va6 270 [.agg (I1 s),.pt [OI b c x (U1 l)] 0] (.bool (decide (s.cnt+N7 b b.y9=c))):=by
 have w:=LH hb hs;rw[<- w.2];refine pF Tryz.func270 ?_;conv=>whnf
 try exact va1
 all_goals rfl
theorem vI{l:List x7}{k:Nat}(hk:k<l.length):l.take (k+1)=l.take k++[l.getD k n4]:=by
 rw[List.take_add_one,zA6 hk,x9 hk];rfl
theorem sX(p:x7->Bool)(l:List x7)(k:Nat):((l.take k).filter p).length<=k:=Nat.le_trans (List.length_filter_le _ _) (by rw[zB1];omega)
theorem DQ{p:x7->Bool}{l:List x7}{k:Nat}(hk:k<l.length)(h:p (l.getD k n4)=true):(l.take (k+1)).filter p=(l.take k).filter p++[l.getD k n4]/\(l.take (k+1)).filter (fun x => !p x)=(l.take k).filter (fun x => !p x):=by
 rw[vI hk,List.filter_append,List.filter_append];simp only[List.filter_cons,List.filter_nil,h,if_true,Bool.not_true,zB0,if_false,List.append_nil,and_self]
theorem Ia{p:x7->Bool}{l:List x7}{k:Nat}(hk:k<l.length)(h:p (l.getD k n4)=false):(l.take (k+1)).filter (fun x => !p x)=(l.take k).filter (fun x => !p x)++[l.getD k n4]/\(l.take (k+1)).filter p=(l.take k).filter p:=by
 rw[vI hk,List.filter_append,List.filter_append];simp only[List.filter_cons,List.filter_nil,h,if_true,Bool.not_false,zB0,if_false,List.append_nil,and_self]
def UN(b:G3)(c x:Int)(l:List x7):List Row:=[.cells 334 (Fw b c x (.own 1)),.vec 78 4 n4 I1 l]
def Bi(b:G3)(c x:Int)(l:List x7):List Row:=[.cells 331 [.ptr 1 0 0 0],.cells 334 (Fw b c x (.own 2)),.vec 78 4 n4 I1 l]
theorem Bj(t:TrackT)(hb:O2 t.n8=true)(hl:t.k9.length<2^20)(hp:∀ x,x ∈ t.k9->0<=x.cnt/\x.cnt<=1099511627776)(c x n:Int):va7 267 [.ptr 0 0 0 0,i64 n] (UN t.n8 c x t.k9) (.bool (cH t n)) (UN t.n8 c x t.k9) :=
 (Bh t hb hl hp c x n).toPWk Tryz.func267 va4 rfl va4 (rC _) rfl
theorem OL(b:G3)(hb:O2 b=true)(c x:Int)(l:List x7)(s:x7)(hs:0<=s.cnt/\s.cnt<=1099511627776):va7 270 [.agg (I1 s),.ptr 0 0 0 0] (Bi b c x l) (.bool (decide (s.cnt+N7 b b.y9=c))) (Bi b c x l) :=
 (OK b hb c x l s hs).toPWk Tryz.func270 va4 rfl va4 (rC _) rfl
theorem Bk(b:G3)(hb:O2 b=true)(c x:Int)(l:List x7)(hp:∀ s,s ∈ l->0<=s.cnt/\s.cnt<=1099511627776)(hl:l.length<2^20)(p:x7->Bool)(hpp:p=fun s=>decide (s.cnt+N7 b b.y9=c)):va7 269 [.own 2,.fn (.func 270) [] [.ptr 0 0 0 0]] (Bi b c x l) (.tup [.own 3,.own 4]) (Bi b c x l++[.vec 78 4 n4 I1 (l.filter p),.vec 78 4 n4 I1 (l.filter fun x => !p x)]):=by
 unfold Bi;refine pW Tryz.func269 ⟨va4,?_⟩;conv=>whnf
 refine Or.inr ⟨Nat,[10],[],[(4,⟨x7,78,4,n4,I1⟩),(5,⟨x7,78,4,n4,I1⟩)],fun k=>[i64 k],fun _=>[],fun k=>[.vec 78 4 n4 I1 ((l.take k).filter p),.vec 78 4 n4 I1 ((l.take k).filter fun x => !p x)],fun k=>l.length-k,fun k=>k<=l.length,?_⟩;conv=>whnf
 refine⟨⟨0,?_⟩,?_⟩
 ·(conv=>whnf);exact kK ⟨zB4 _,rfl,rfl,rfl⟩
 intro k hk;conv=>whnf
 refine⟨fun h=>?_,fun h=>?_⟩
 ·have h:=zA1 h;have L7:k<l.length:=by omega
  have c1:=OL b hb c x l (l.getD k n4) (hp _ (I2 (d:=n4) L7));have l1:=sX p l k;have l2:=sX (fun x => !p x) l k;have hpx:decide ((l.getD k n4).cnt+N7 b b.y9=c)=p (l.getD k n4):=by rw[hpp]
  rw[hpx]at c1;cases VE:p (l.getD k n4)
  ·have sg:=Ia L7 VE;rw[VE]at c1;conv=>whnf
   refine vc0 ?_;(repeat intro hh);(refine va2 [] [] ?_;(conv=>whnf);refine va3 [28,29,30] c1 ?_);conv=>whnf
   refine vc0 ?_;(repeat intro hh);refine⟨⟨x7,4,n4,I1,(l.take k).filter fun x => !p x⟩,[l.getD k n4],rfl,rfl,⟨rfl,rfl⟩,?_,?_,fun y _=>⟨rfl,rfl,rfl⟩,?_⟩
   ·show(((l.take k).filter fun x => !p x).length+1)*24<=_;omega
   ·show((l.take k).filter fun x => !p x).length+1<=_;omega
   refine vc0 ?_;(repeat intro hh);refine⟨k+1,?_⟩;conv=>whnf
   refine kK ⟨⟨?_,?_⟩,?_,rfl,?_⟩
   ·show l.length-(k+1)<l.length-k;omega
   ·show k+1<=l.length;omega
   ·rw[C7 _ va5 va5];rfl
   ·show _=[Row.vec 78 4 n4 I1 ((l.take (k+1)).filter p),Row.vec 78 4 n4 I1 ((l.take (k+1)).filter fun x => !p x)]
    rw[sg.1,sg.2]<;>rfl
  ·have sg:=DQ L7 VE;rw[VE]at c1;conv=>whnf
   refine vc0 ?_;(repeat intro hh);(refine va2 [] [] ?_;(conv=>whnf);refine va3 [28,29,30] c1 ?_);conv=>whnf
   refine vc0 ?_;(repeat intro hh);refine⟨⟨x7,4,n4,I1,(l.take k).filter p⟩,[l.getD k n4],rfl,rfl,⟨rfl,rfl⟩,?_,?_,fun y _=>⟨rfl,rfl,rfl⟩,?_⟩
   ·show(((l.take k).filter p).length+1)*24<=_;omega
   ·show((l.take k).filter p).length+1<=_;omega
   refine vc0 ?_;(repeat intro hh);refine⟨k+1,?_⟩;conv=>whnf
   refine kK ⟨⟨?_,?_⟩,?_,rfl,?_⟩
   ·show l.length-(k+1)<l.length-k;omega
   ·show k+1<=l.length;omega
   ·rw[C7 _ va5 va5];rfl
   ·show _=[Row.vec 78 4 n4 I1 ((l.take (k+1)).filter p),Row.vec 78 4 n4 I1 ((l.take (k+1)).filter fun x => !p x)]
    rw[sg.1,sg.2]<;>rfl
 ·have h:=zA0 h;have ek:l.take k=l:=List.take_of_length_le va5;rw[ek];conv=>whnf
  refine vc0 ?_;(repeat intro hh);refine⟨[4,5],va4,?_⟩;conv=>whnf
  exact⟨rfl,rfl⟩
theorem vJ{α:Type}(f:α->α)(d:α)(l:List α):∀ k i,i<k->i<l.length->(pK f d l k).getD i d=f (l.getD i d)
 | 0,_,h,_=>absurd h (zB3 _)
 | k+1,i,h,hl=>by
  show((pK f d l k).set k _).getD i d=_
  by_cases e:i=k
  ·subst e;rw[V3 (by rw[gI];exact hl),xB f d l i i (Nat.le_refl i)]
  ·rw[List.getD,List.getElem?_set_ne va5];exact vJ f d l k i va5 hl
theorem Fy{α:Type}(f:α->α)(d:α)(l:List α):pK f d l l.length=l.map f:=by
 apply List.ext_getElem?;intro i;by_cases h:i<l.length
 ·have e:=vJ f d l l.length i h h;rw[List.getElem?_map,zA6 h,zA6 (by rw[gI];exact h)];rw[List.getD,List.getD,zA6 h,zA6 (by rw[gI];exact h)]at e;simp only[Option.getD_some]at e;rw[e];rfl
 ·rw[zA7 (by rw[gI];omega),zA7 (by rw[List.length_map];omega)]
theorem Bl(b:G3)(n:Int)(l:List x7):l.map (S9 b false n)=l:=by
 have e:∀ x:x7,S9 b false n x=x:=fun x=>by unfold S9;simp
 rw[show S9 b false n=id from funext e,List.map_id]
theorem Fz(b:G3)(n x:Int):gP ⟨b,n,x,[]⟩=⟨b,n+1,x,[]⟩/\nX ⟨b,n,x,[]⟩=[]:=by
 have e:N2 ⟨b,n,x,[]⟩=false:=zA5 fun h=>absurd h.1 (Nat.lt_irrefl 0)
 unfold gP nX;rw[e];exact⟨rfl,rfl⟩
theorem Bm(b:G3)(n x:Int)(hv:eT ⟨b,n,x,[]⟩=0)(hc:n<1099511627776):va6 218 [sL ⟨b,n,x,[]⟩,i64 1] (.tup [sL (gP ⟨b,n,x,[]⟩),AH (nX ⟨b,n,x,[]⟩),i64 0]):=by
 have g:=L3.1 hv;have sz:=dX hv;have c:=K9 ⟨b,n,x,[]⟩ (show 0<2^40 by decide);rw[hv]at c;have sz:=sz.1;simp only at sz;have w1:IntKind.i64.wrap (n+1)=n+1:=C7 _ va5 va5;have w0:IntKind.i64.wrap (1099511627776-1)=1099511627775:=by decide
 rw[(Fz b n x).1,(Fz b n x).2,<- w1];refine PC.sub (res := .tup [sL ⟨b,IntKind.i64.wrap (n+1),x,[]⟩,.nils,i64 0]) ?_ rfl (fun i hi => .refl _) ?_
 ·refine pF Tryz.func218 ?_;conv=>whnf
  refine vb7 ?_;(repeat intro hh);(refine va2 [] [37,1] ?_;(conv=>whnf);refine va3 [] (vH _ g.bl (show 0<2^20 by decide)) ?_);conv=>whnf
  refine Or.inl ⟨2,?_⟩;conv=>whnf
  try exact va1
 ·refine(Y0 (xs:=[sL ⟨b,IntKind.i64.wrap (n+1),x,[]⟩,.nils,i64 0]) (ys:=[sL ⟨b,IntKind.i64.wrap (n+1),x,[]⟩,AH [],i64 0]) rfl fun i hi=>?_).2
  match i with
  | 0=>exact .refl _
  | 1=>exact pV.nils _ _ _
  | 2=>exact .refl _
  | (n+3)=>exact .refl _
theorem Bn(t:TrackT)(hv:eT t=0)(hc:t.count<1099511627776)(dC:¬t.k9.length=0)(hg:N2 t=true):va6 218 [sL t,i64 1] (.tup [sL (gP t),AH (nX t),i64 0]):=by
 have g:=L3.1 hv;have sz:=dX hv;have c:=K9 t va5;rw[hv]at c;have w1:IntKind.i64.wrap (t.count+1)=t.count+1:=C7 _ va5 va5;have w0:IntKind.i64.wrap (1099511627776-1)=1099511627775:=by decide
 have Sk:∀ x,x ∈ t.k9->0<=x.cnt/\x.cnt<=1099511627776:=fun x hx=>by have:=(g.sn x hx).2;omega
 have hf:=bZ g;have Pv:=fN t;have Qt:∀ s,s ∈ hits t->0<=s.cnt/\s.cnt<=1099511627776:=fun s hs=>by
  obtain⟨m,hm,e2⟩:=List.getElem_of_mem hs;have e3:s=S9 t.n8 (cH t (t.count+1)) (t.count+1) (t.k9.getD m n4):=by rw[<- bI t m va5,x9 hm,e2]
  rw[e3];exact Sk (t.k9.getD m n4) (I2 va5)
 have LJ:=Bj t g.bl va5 Sk (IntKind.i64.wrap (t.count+1)) t.next (IntKind.i64.wrap (t.count+1));have eo:cH t (IntKind.i64.wrap (t.count+1))=cH t (t.count+1):=by rw[w1]
 rw[eo]at LJ;have LK:=Bk t.n8 g.bl (IntKind.i64.wrap (t.count+1)) t.next (hits t) Qt va5 (fun s=>decide (s.cnt+N7 t.n8 t.n8.y9=t.count+1)) (by rw[w1]);rw[hf.1,hf.2]at LK;rw[if_pos hg]at LK;have af:nX t=[ja ((hits t).getD 0 n4)]:=by unfold nX;rw[if_pos hg]
 cases lp:cH t (t.count+1)
 ·rw[lp]at LJ;have eh:hits t=t.k9:=by unfold hits;rw[lp,Bl]
  rw[eh]at LK;rw[eh]at af;refine cN hm Tryz.func218 va4 ?_;conv=>whnf
  refine Or.inl ?_;conv=>whnf
  refine vb7 ?_;(repeat intro hh);(refine va2 [] [37,1] ?_;(conv=>whnf);refine va3 [] (vH t g.bl va5) ?_);conv=>whnf
  refine Or.inl ?_;conv=>whnf
  refine Or.inl ⟨2,?_⟩;conv=>whnf
  refine vb8 ?_;(repeat intro hh);refine Or.inr ⟨false,[37,1],_,_,_,_,⟨LJ,rfl,rfl,va4⟩,?_⟩;conv=>whnf
  refine vb8 ?_;(repeat intro hh);(refine va2 [] [117,118] ?_;(conv=>whnf);refine va3 [8,37,1] LK ?_);conv=>whnf
  refine vb8 ?_;(repeat intro hh);refine Or.inl ⟨2,?_⟩;conv=>whnf
  refine vb4 ?_;(repeat intro hh);refine⟨Nat.zero_lt_one,?_⟩;conv=>whnf
  refine vc0 ?_;(repeat intro hh);refine⟨⟨km,3,Lh,AG,[]⟩,[ja (t.k9.getD 0 n4)],rfl,rfl,⟨rfl,rfl⟩,?_,?_,fun y _=>⟨rfl,rfl,rfl⟩,?_⟩
  ·show(0+1)*16<=1099511627776;decide
  ·show 0+1<=1099511627776;decide
  conv=>whnf
  refine vb4 ?_;(repeat intro hh);refine vc0 ?_;(repeat intro hh);rw[w1,af];rfl
 ·rw[lp]at LJ;have eh:pK (S9 t.n8 true (t.count+1)) n4 t.k9 t.k9.length=hits t:=by unfold hits;rw[lp,Fy]
  refine cN hm Tryz.func218 va4 ?_;conv=>whnf
  refine Or.inl ?_;conv=>whnf
  refine vb7 ?_;(repeat intro hh);(refine va2 [] [37,1] ?_;(conv=>whnf);refine va3 [] (vH t g.bl va5) ?_);conv=>whnf
  refine Or.inl ?_;conv=>whnf
  refine Or.inl ⟨2,?_⟩;conv=>whnf
  refine vb8 ?_;(repeat intro hh);refine Or.inr ⟨false,[37,1],_,_,_,_,⟨LJ,rfl,rfl,va4⟩,?_⟩;conv=>whnf
  refine vb8 ?_;(repeat intro hh);refine Or.inr ⟨Nat,[83],[1],[],fun k=>[i64 k],fun k=>[.vec 78 4 n4 I1 (pK (S9 t.n8 true (t.count+1)) n4 t.k9 k)],fun _=>[],fun k=>t.k9.length-k,fun k=>k<=t.k9.length,?_⟩;conv=>whnf
  refine⟨⟨0,?_⟩,?_⟩
  ·(conv=>whnf);exact kK ⟨zB4 _,rfl,rfl,rfl⟩
  intro k hk;have XR:=gI (S9 t.n8 true (t.count+1)) n4 t.k9 k;conv=>whnf
  refine⟨fun h=>?_,fun h=>?_⟩
  ·have h:=zA1 h;have L7:k<t.k9.length:=by omega
   have UO:=xB (S9 t.n8 true (t.count+1)) n4 t.k9 k k (Nat.le_refl k);have yw:pK (S9 t.n8 true (t.count+1)) n4 t.k9 (k+1)=(pK (S9 t.n8 true (t.count+1)) n4 t.k9 k).set k (S9 t.n8 true (t.count+1) ((pK (S9 t.n8 true (t.count+1)) n4 t.k9 k).getD k n4)):=rfl;generalize pK (S9 t.n8 true (t.count+1)) n4 t.k9 k=u at XR UO yw;have ch:=yf t.n8 g.bl (IntKind.i64.wrap (t.count+1)) t.next u (u.getD k n4) (by rw[UO];exact Sk _ (I2 L7)) (IntKind.i64.wrap (t.count+1));have hw:aG t.n8 (u.getD k n4) (IntKind.i64.wrap (t.count+1))=aG t.n8 (u.getD k n4) (t.count+1):=by rw[w1]
   rw[hw]at ch;conv=>whnf
   (repeat' ((first|refine va0 (fun hh=>?_) fun hh=>?_|refine kT ?_|((try refine .inl ?_;conv=>whnf);(try refine⟨false,?_⟩;conv=>whnf);refine⟨_,by assumption,?_⟩)|fail)<;>first|exact hh.elim|conv=>whnf))
   ·have NC:(u.getD k n4).hit=true:=hh;refine⟨⟨(u.getD k n4).id,(u.getD k n4).cnt,(u.getD k n4).o6,true⟩,rfl,va5,?_⟩;refine vc0 ?_;(repeat intro hh);have ey:(⟨(u.getD k n4).id,(u.getD k n4).cnt,(u.getD k n4).o6,true⟩:x7)=S9 t.n8 true (t.count+1) (u.getD k n4):=by
     unfold S9;rw[NC];rfl
    refine⟨k+1,?_⟩;conv=>whnf
    refine kK ⟨⟨?_,?_⟩,?_,?_,rfl⟩
    ·show t.k9.length-(k+1)<t.k9.length-k;omega
    ·show k+1<=t.k9.length;omega
    ·rw[C7 _ va5 va5];rfl
    ·show _=[Row.vec 78 4 n4 I1 (pK (S9 t.n8 true (t.count+1)) n4 t.k9 (k+1))]
     rw[yw,<- ey]<;>rfl
   ·have NC:(u.getD k n4).hit=false:=hh;refine⟨⟨(u.getD k n4).id,(u.getD k n4).cnt,(u.getD k n4).o6,aG t.n8 (u.getD k n4) (t.count+1)⟩,rfl,va5,?_⟩;refine vc0 ?_;(repeat intro hh);have ey:(⟨(u.getD k n4).id,(u.getD k n4).cnt,(u.getD k n4).o6,aG t.n8 (u.getD k n4) (t.count+1)⟩:x7)=S9 t.n8 true (t.count+1) (u.getD k n4):=by
     unfold S9;rw[NC];rfl
    refine⟨k+1,?_⟩;conv=>whnf
    refine kK ⟨⟨?_,?_⟩,?_,?_,rfl⟩
    ·show t.k9.length-(k+1)<t.k9.length-k;omega
    ·show k+1<=t.k9.length;omega
    ·rw[C7 _ va5 va5];rfl
    ·show _=[Row.vec 78 4 n4 I1 (pK (S9 t.n8 true (t.count+1)) n4 t.k9 (k+1))]
     rw[yw,<- ey]<;>rfl
  ·have h:=zA0 h;have ek:k=t.k9.length:=by omega
   subst ek;rw[eh];conv=>whnf
   refine vb8 ?_;(repeat intro hh);(refine va2 [] [117,118] ?_;(conv=>whnf);refine va3 [8,37,1] LK ?_);conv=>whnf
   refine vb8 ?_;(repeat intro hh);refine Or.inl ⟨2,?_⟩;conv=>whnf
   refine vb4 ?_;(repeat intro hh);refine⟨Nat.zero_lt_one,?_⟩;conv=>whnf
   refine vc0 ?_;(repeat intro hh);refine⟨⟨km,3,Lh,AG,[]⟩,[ja ((hits t).getD 0 n4)],rfl,rfl,⟨rfl,rfl⟩,?_,?_,fun y _=>⟨rfl,rfl,rfl⟩,?_⟩
   ·show(0+1)*16<=1099511627776;decide
   ·show 0+1<=1099511627776;decide
   conv=>whnf
   refine vb4 ?_;(repeat intro hh);refine vc0 ?_;(repeat intro hh);rw[w1,af];rfl
theorem Bo(t:TrackT)(hv:eT t=0)(hc:t.count<1099511627776)(dC:¬t.k9.length=0)(hg:¬N2 t=true):va6 218 [sL t,i64 1] (.tup [sL (gP t),.nils,i64 0]):=by
 have g:=L3.1 hv;have sz:=dX hv;have c:=K9 t va5;rw[hv]at c;have w1:IntKind.i64.wrap (t.count+1)=t.count+1:=C7 _ va5 va5;have w0:IntKind.i64.wrap (1099511627776-1)=1099511627775:=by decide
 have Sk:∀ x,x ∈ t.k9->0<=x.cnt/\x.cnt<=1099511627776:=fun x hx=>by have:=(g.sn x hx).2;omega
 have hf:=bZ g;have Pv:=fN t;have Qt:∀ s,s ∈ hits t->0<=s.cnt/\s.cnt<=1099511627776:=fun s hs=>by
  obtain⟨m,hm,e2⟩:=List.getElem_of_mem hs;have e3:s=S9 t.n8 (cH t (t.count+1)) (t.count+1) (t.k9.getD m n4):=by rw[<- bI t m va5,x9 hm,e2]
  rw[e3];exact Sk (t.k9.getD m n4) (I2 va5)
 have LJ:=Bj t g.bl va5 Sk (IntKind.i64.wrap (t.count+1)) t.next (IntKind.i64.wrap (t.count+1));have eo:cH t (IntKind.i64.wrap (t.count+1))=cH t (t.count+1):=by rw[w1]
 rw[eo]at LJ;have LK:=Bk t.n8 g.bl (IntKind.i64.wrap (t.count+1)) t.next (hits t) Qt va5 (fun s=>decide (s.cnt+N7 t.n8 t.n8.y9=t.count+1)) (by rw[w1]);rw[hf.1,hf.2]at LK;rw[if_neg hg]at LK;cases lp:cH t (t.count+1)
 ·rw[lp]at LJ;have eh:hits t=t.k9:=by unfold hits;rw[lp,Bl]
  rw[eh]at LK;refine cN hm Tryz.func218 va4 ?_;conv=>whnf
  refine Or.inl ?_;conv=>whnf
  refine vb7 ?_;(repeat intro hh);(refine va2 [] [37,1] ?_;(conv=>whnf);refine va3 [] (vH t g.bl va5) ?_);conv=>whnf
  refine Or.inl ?_;conv=>whnf
  refine Or.inl ⟨2,?_⟩;conv=>whnf
  refine vb8 ?_;(repeat intro hh);refine Or.inr ⟨false,[37,1],_,_,_,_,⟨LJ,rfl,rfl,va4⟩,?_⟩;conv=>whnf
  refine vb8 ?_;(repeat intro hh);(refine va2 [] [117,118] ?_;(conv=>whnf);refine va3 [8,37,1] LK ?_);conv=>whnf
  refine vb8 ?_;(repeat intro hh);refine Or.inl ⟨1,?_⟩;conv=>whnf
  refine vb4 ?_;(repeat intro hh);refine vc0 ?_;(repeat intro hh)
  repeat (refine Or.inl ?_;(conv=>whnf);(repeat' ((first|refine aU fun hh=>?_|refine aV fun hh=>?_|refine aS (fun hh=>?_) fun hh=>?_|refine kT ?_|fail)<;>conv=>whnf)))
  rw[w1];rfl
 ·rw[lp]at LJ;have eh:pK (S9 t.n8 true (t.count+1)) n4 t.k9 t.k9.length=hits t:=by unfold hits;rw[lp,Fy]
  refine cN hm Tryz.func218 va4 ?_;conv=>whnf
  refine Or.inl ?_;conv=>whnf
  refine vb7 ?_;(repeat intro hh);(refine va2 [] [37,1] ?_;(conv=>whnf);refine va3 [] (vH t g.bl va5) ?_);conv=>whnf
  refine Or.inl ?_;conv=>whnf
  refine Or.inl ⟨2,?_⟩;conv=>whnf
  refine vb8 ?_;(repeat intro hh);refine Or.inr ⟨false,[37,1],_,_,_,_,⟨LJ,rfl,rfl,va4⟩,?_⟩;conv=>whnf
  refine vb8 ?_;(repeat intro hh);refine Or.inr ⟨Nat,[83],[1],[],fun k=>[i64 k],fun k=>[.vec 78 4 n4 I1 (pK (S9 t.n8 true (t.count+1)) n4 t.k9 k)],fun _=>[],fun k=>t.k9.length-k,fun k=>k<=t.k9.length,?_⟩;conv=>whnf
  refine⟨⟨0,?_⟩,?_⟩
  ·(conv=>whnf);exact kK ⟨zB4 _,rfl,rfl,rfl⟩
  intro k hk;have XR:=gI (S9 t.n8 true (t.count+1)) n4 t.k9 k;conv=>whnf
  refine⟨fun h=>?_,fun h=>?_⟩
  ·have h:=zA1 h;have L7:k<t.k9.length:=by omega
   have UO:=xB (S9 t.n8 true (t.count+1)) n4 t.k9 k k (Nat.le_refl k);have yw:pK (S9 t.n8 true (t.count+1)) n4 t.k9 (k+1)=(pK (S9 t.n8 true (t.count+1)) n4 t.k9 k).set k (S9 t.n8 true (t.count+1) ((pK (S9 t.n8 true (t.count+1)) n4 t.k9 k).getD k n4)):=rfl;generalize pK (S9 t.n8 true (t.count+1)) n4 t.k9 k=u at XR UO yw;have ch:=yf t.n8 g.bl (IntKind.i64.wrap (t.count+1)) t.next u (u.getD k n4) (by rw[UO];exact Sk _ (I2 L7)) (IntKind.i64.wrap (t.count+1));have hw:aG t.n8 (u.getD k n4) (IntKind.i64.wrap (t.count+1))=aG t.n8 (u.getD k n4) (t.count+1):=by rw[w1]
   rw[hw]at ch;conv=>whnf
   (repeat' ((first|refine va0 (fun hh=>?_) fun hh=>?_|refine kT ?_|((try refine .inl ?_;conv=>whnf);(try refine⟨false,?_⟩;conv=>whnf);refine⟨_,by assumption,?_⟩)|fail)<;>first|exact hh.elim|conv=>whnf))
   ·have NC:(u.getD k n4).hit=true:=hh;refine⟨⟨(u.getD k n4).id,(u.getD k n4).cnt,(u.getD k n4).o6,true⟩,rfl,va5,?_⟩;refine vc0 ?_;(repeat intro hh);have ey:(⟨(u.getD k n4).id,(u.getD k n4).cnt,(u.getD k n4).o6,true⟩:x7)=S9 t.n8 true (t.count+1) (u.getD k n4):=by
     unfold S9;rw[NC];rfl
    refine⟨k+1,?_⟩;conv=>whnf
    refine kK ⟨⟨?_,?_⟩,?_,?_,rfl⟩
    ·show t.k9.length-(k+1)<t.k9.length-k;omega
    ·show k+1<=t.k9.length;omega
    ·rw[C7 _ va5 va5];rfl
    ·show _=[Row.vec 78 4 n4 I1 (pK (S9 t.n8 true (t.count+1)) n4 t.k9 (k+1))]
     rw[yw,<- ey]<;>rfl
   ·have NC:(u.getD k n4).hit=false:=hh;refine⟨⟨(u.getD k n4).id,(u.getD k n4).cnt,(u.getD k n4).o6,aG t.n8 (u.getD k n4) (t.count+1)⟩,rfl,va5,?_⟩;refine vc0 ?_;(repeat intro hh);have ey:(⟨(u.getD k n4).id,(u.getD k n4).cnt,(u.getD k n4).o6,aG t.n8 (u.getD k n4) (t.count+1)⟩:x7)=S9 t.n8 true (t.count+1) (u.getD k n4):=by
     unfold S9;rw[NC];rfl
    refine⟨k+1,?_⟩;conv=>whnf
    refine kK ⟨⟨?_,?_⟩,?_,?_,rfl⟩
    ·show t.k9.length-(k+1)<t.k9.length-k;omega
    ·show k+1<=t.k9.length;omega
    ·rw[C7 _ va5 va5];rfl
    ·show _=[Row.vec 78 4 n4 I1 (pK (S9 t.n8 true (t.count+1)) n4 t.k9 (k+1))]
     rw[yw,<- ey]<;>rfl
  ·have h:=zA0 h;have ek:k=t.k9.length:=by omega
   subst ek;rw[eh];conv=>whnf
   refine vb8 ?_;(repeat intro hh);(refine va2 [] [117,118] ?_;(conv=>whnf);refine va3 [8,37,1] LK ?_);conv=>whnf
   refine vb8 ?_;(repeat intro hh);refine Or.inl ⟨1,?_⟩;conv=>whnf
   refine vb4 ?_;(repeat intro hh);refine vc0 ?_;(repeat intro hh)
   repeat (refine Or.inl ?_;(conv=>whnf);(repeat' ((first|refine aU fun hh=>?_|refine aV fun hh=>?_|refine aS (fun hh=>?_) fun hh=>?_|refine kT ?_|fail)<;>conv=>whnf)))
   rw[w1];rfl
theorem sY(t:TrackT)(hv:eT t=0)(hc:t.count<1099511627776):va6 218 [sL t,i64 1] (.tup [sL (gP t),AH (nX t),i64 0]):=by
 by_cases dC:t.k9.length=0
 ·obtain⟨b,n,x,l⟩:=t;have e0:l=[]:=List.eq_nil_of_length_eq_zero dC;subst e0;exact Bm b n x hv hc
 ·by_cases hg:N2 t=true
  ·exact Bn t hv hc dC hg
  ·refine PC.sub (Bo t hv hc dC hg) rfl (fun i hi => .refl _) ?_;have e:nX t=[]:=by unfold nX;rw[if_neg hg]
   rw[e];refine(Y0 (xs:=[sL (gP t),.nils,i64 0]) (ys:=[sL (gP t),AH [],i64 0]) rfl fun i hi=>?_).2
   match i with
   | 0=>exact .refl _
   | 1=>exact pV.nils _ _ _
   | 2=>exact .refl _
   | (n+3)=>exact .refl _

end Go.Proofs.Tryz.My
