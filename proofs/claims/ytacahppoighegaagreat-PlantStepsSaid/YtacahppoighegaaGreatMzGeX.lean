/- Helper lemmas. -/
import Derived.Test.YtacahppoighegaaGreatMzGaX
set_option linter.unusedVariables false
set_option linter.unusedSimpArgs false
set_option maxRecDepth 100000
set_option maxHeartbeats 0
namespace Go.Proofs.Tryz.My
open Go Go.Ev
def W8(p:List Int)(thr a a8 d:Int):V3×Int:=if H8 p then(if eN p thr a a8 then Y7 p thr a a8 d else(zS,2))else(zS,50)
def J9(p:List Int)(thr a8:Int):V3×Int:=if H8 p then(if eN p thr 0 a8 then uc p thr a8 else(zS,2))else(zS,50)
theorem Hl(p:List Int)(thr a a8 d:Int)(hd:lR d)(hl:p.length<2^40):va6 233 [A9 p,i64 thr,i64 a,i64 a8,i64 d] (.tup [sp (W8 p thr a a8 d).1,i64 (W8 p thr a a8 d).2]):=by
 have ca:=Jn p thr a a8 hl;unfold W8;cases hp:H8 p
 ·rw[hp]at ca;refine vb4 Tryz.func233 ?_;refine vc6 ?_;(repeat intro hh);all_goals simp
 cases hq:eN p thr a a8
 ·rw[hp,hq]at ca;refine vb4 Tryz.func233 ?_;refine vc6 ?_;(repeat intro hh);all_goals simp
 rw[hp,hq]at ca;obtain⟨t1,t2,a1,a2,n1,n2⟩:=dW hq;have hlen:=M3 hp;have h0:p≠[]:=by rintro rfl;simp at hlen
 have w1:=xK p (-a8) h0 va5 (dV hp) va5 va5;have w2:=xK p a8 h0 va5 (dV hp) va5 va5;have b1:=uh (D8 p (-a8)) thr a d (N8 _ _) (by rw[x9];omega) a1 (by rw[x9];omega) hd t1 t2;have b2:=uh (D8 p a8) thr a d (N8 _ _) (by rw[x9];omega) a1 (by rw[x9];omega) hd t1 t2;have he:Y7 p thr a a8 d=xF (vX (D8 p (-a8)) thr a d) (vX (D8 p a8) thr a d) d:=rfl;rw[he];generalize vX (D8 p (-a8)) thr a d=L at *
 generalize vX (D8 p a8) thr a d=U at *
 generalize D8 p (-a8)=q1 at *
 generalize D8 p a8=q2 at *
 have wn:IntKind.i64.wrap (0-a8) = -a8:=by rw[z5 _ va5 va5];omega
 obtain⟨L,l⟩:=L;obtain⟨U,u⟩:=U;simp only[]at *
 cases l
 ·refine vb4 Tryz.func233 ?_;refine vc6 ?_;(repeat intro hh);rw[wn]
  (first|(refine Or.inl ?_;(conv=>whnf);refine⟨_,kf _,?_⟩)|refine⟨_,kf _,?_⟩)
  conv=>whnf
  refine va2 [] [31] (vb3 ?_);refine va3 [] w1 (vb3 ?_)
  (first|(refine Or.inl ?_;(conv=>whnf);refine⟨true,?_⟩)|refine⟨true,?_⟩)
  conv=>whnf
  refine⟨_,b1,vb3 ?_⟩;refine ve4 ?_;(repeat intro hh);all_goals simp[xF]
 ·refine vb4 Tryz.func233 ?_;refine vc6 ?_;(repeat intro hh);rw[wn]
  (first|(refine Or.inl ?_;(conv=>whnf);refine⟨_,kf _,?_⟩)|refine⟨_,kf _,?_⟩)
  conv=>whnf
  refine va2 [] [31] (vb3 ?_);refine va3 [] w1 (vb3 ?_)
  (first|(refine Or.inl ?_;(conv=>whnf);refine⟨true,?_⟩)|refine⟨true,?_⟩)
  conv=>whnf
  refine⟨_,b1,vb3 ?_⟩;refine vd4 kf ?_;(repeat intro hh);refine va2 [] [45] (vb3 ?_);refine va3 [] w2 (vb3 ?_)
  (first|(refine Or.inl ?_;(conv=>whnf);refine⟨true,?_⟩)|refine⟨true,?_⟩)
  conv=>whnf
  refine⟨_,b2,vb3 ?_⟩;refine ve5 ?_ ?_<;>(repeat intro hh)
  all_goals simp[xF,hh]
theorem Nu(p:List Int)(thr a a8:Int)(hl:p.length<2^40):va6 193 [A9 p,i64 thr,i64 a,i64 a8] (.tup [sp (W8 p thr a a8 1).1,i64 (W8 p thr a a8 1).2]):=by
 have c:=Hl p thr a a8 1 (.inl rfl) hl;generalize W8 p thr a a8 1=r at *
 refine pF Tryz.func193 ?_;conv=>whnf
 try exact va1
theorem Nv(p:List Int)(thr a a8:Int)(hl:p.length<2^40):va6 194 [A9 p,i64 thr,i64 a,i64 a8] (.tup [sp (W8 p thr a a8 (-1)).1,i64 (W8 p thr a a8 (-1)).2]):=by
 have c:=Hl p thr a a8 (-1) (.inr rfl) hl;generalize W8 p thr a a8 (-1)=r at *
 refine pF Tryz.func194 ?_;conv=>whnf
 try exact va1
theorem Jp(p:List Int)(thr a8:Int) :
  ((W8 p thr 0 a8 1).2≠0/\J9 p thr a8=(zS,(W8 p thr 0 a8 1).2)) ∨
  ((W8 p thr 0 a8 1).2=0/\(W8 p thr ((p.length:Int)-1) a8 (-1)).2=0/\Fe (W8 p thr ((p.length:Int)-1) a8 (-1)).1 (W8 p thr 0 a8 1).1=J9 p thr a8):=by
 unfold W8 J9;cases hp:H8 p
 ·left;simp
 cases hq:eN p thr 0 a8
 ·left;simp
 obtain⟨t1,t2,a1,a2,n1,n2⟩:=dW hq;have hlen:=M3 hp;have Ib:eN p thr ((p.length:Int)-1) a8=true:=by
  simp only[eN,zA2,zA3];omega
 rw[Ib];simp only[if_true];rcases zO (p:=p) va5 hlen.2 t1 t2 n1 with ⟨h1,h2⟩|⟨h1,h2,_,_,h3,_⟩
 ·left;rw[h1,h2];simp
 ·right;exact⟨h1,h2,h3⟩
theorem Jq(p:List Int)(thr a8:Int)(hl:p.length<2^40):va6 152 [A9 p,i64 thr,i64 a8] (.tup [sp (J9 p thr a8).1,i64 (J9 p thr a8).2]):=by
 have c1:=Nu p thr 0 a8 hl;have c2:=Nv p thr ((p.length:Int)-1) a8 hl;have c3:=Cw (W8 p thr ((p.length:Int)-1) a8 (-1)).1 (W8 p thr 0 a8 1).1;have wl:IntKind.i64.wrap ((p.length:Int)-1)=(p.length:Int)-1:=z5 _ va5 va5;rcases Jp p thr a8 with ⟨h1,h2⟩|⟨h1,h2,h3⟩
 ·rw[h2];generalize W8 p thr 0 a8 1=r at *
  refine pF Tryz.func152 ?_;conv=>whnf
  try exact va1
  all_goals simp[h1]
 ·rw[h3]at c3;generalize J9 p thr a8=w at *
  generalize W8 p thr 0 a8 1=r at *
  generalize W8 p thr ((p.length:Int)-1) a8 (-1)=s at *
  obtain⟨r,re⟩:=r;obtain⟨s,se⟩:=s;simp only[]at *
  subst h1;subst h2;refine vb4 Tryz.func152 ?_;refine vc6 ?_;intros;rw[wl];try exact va1
theorem Jr{a b:Int×Int}(ha:o7 a=true)(hb:o7 b=true)(h:qv b<=qv a):S7 a b=a:=by
 unfold S7;rw[if_neg (fun k=>by have:=(Hf hb ha).1 k;grind)]
theorem Js{a b:Int×Int}(ha:o7 a=true)(hb:o7 b=true)(h:qv a<=qv b):U7 a b=a:=by
 unfold U7;rw[if_neg (fun k=>by have:=(zM hb ha).1 k;grind)]
theorem Jt{p:List Int}{thr a a8 d:Int}(hd:lR d)(h:(W8 p thr a a8 d).2=0) :
  H8 p=true/\eN p thr a a8=true/\W8 p thr a a8 d=Y7 p thr a a8 d/\y9 (W8 p thr a a8 d).1=true /\
  ∃ k j,ub (D8 p (-a8)) thr a d=some k/\ub (D8 p a8) thr a d=some j /\
   (W8 p thr a a8 d).1=(if d<0 then(D5 (D8 p (-a8)) thr a d k,D5 (D8 p a8) thr a d j)else(D5 (D8 p a8) thr a d j,D5 (D8 p (-a8)) thr a d k)) /\
   qv (D5 (D8 p (-a8)) thr a d k)=(a:Rat)+(d:Rat)*cN (M7 (D8 p (-a8)) a d) thr k /\
   qv (D5 (D8 p a8) thr a d j)=(a:Rat)+(d:Rat)*cN (M7 (D8 p a8) a d) thr j:=by
 unfold W8 at h ⊢;cases hp:H8 p
 ·rw[hp]at h;simp at h
 cases hq:eN p thr a a8
 ·rw[hp,hq]at h;simp at h
 rw[hp,hq]at h;simp only[if_true]at h ⊢;obtain⟨t1,t2,a1,a2,n1,n2⟩:=dW hq;rcases mw (p:=p) (M3 hp).2 (thr:=thr) (a:=a) (a8:=a8) (d:=d) a1 a2 hd t1 t2 n1 with ⟨h1,h2⟩|⟨k,j,hk,hj,_,v1,v2,q1,q2,_,e,sp⟩
 ·rw[h2]at h;simp at h
 ·exact⟨trivial,trivial,trivial,sp,k,j,hk,hj,by rw[e],q1,q2⟩
theorem pP{p:List Int}{thr a8:Int}(h:(J9 p thr a8).2=0) :
  H8 p=true/\eN p thr 0 a8=true/\(W8 p thr 0 a8 1).2=0/\(W8 p thr ((p.length:Int)-1) a8 (-1)).2=0/\y9 (J9 p thr a8).1=true /\
   qv (J9 p thr a8).1.1=qv (W8 p thr ((p.length:Int)-1) a8 (-1)).1.1-qv (W8 p thr 0 a8 1).1.2/\qv (J9 p thr a8).1.2=qv (W8 p thr ((p.length:Int)-1) a8 (-1)).1.2-qv (W8 p thr 0 a8 1).1.1:=by
 unfold J9 at h ⊢;unfold W8;cases hp:H8 p
 ·rw[hp]at h;simp at h
 cases hq:eN p thr 0 a8
 ·rw[hp,hq]at h;simp at h
 rw[hp,hq]at h;obtain⟨t1,t2,a1,a2,n1,n2⟩:=dW hq;have hlen:=M3 hp;have Ib:eN p thr ((p.length:Int)-1) a8=true:=by
  simp only[eN,zA2,zA3];omega
 rw[Ib];simp only[if_true]at h ⊢;rcases zO (p:=p) va5 hlen.2 t1 t2 n1 with ⟨h1,h2⟩|⟨h1,h2,_,_,h3,h4,h5,h6,h7⟩
 ·rw[h2]at h;simp at h
 ·exact⟨trivial,trivial,h1,h2,h5,h6,h7⟩
abbrev u8(n:Int):AV := .int .u8 n
def mA(s t:V3):Int:=if (ud s t).2=0 then(if (ud s t).1=s then 1 else 3)else 2
def zY(s t:V3):Int×Int:=if y9 s && y9 t then(mA s t,0)else(0,2)
theorem Ju(s:V3)(lo hi:Int×Int):va6 156 [sp s,fr lo,fr hi] (.tup [u8 (zY s (lo,hi)).1,i64 (zY s (lo,hi)).2]):=by
 have c1:=dH s;have c2:=dH (lo,hi);have c3:=QT s (lo,hi);unfold zY mA;generalize ud s (lo,hi)=m at *
 cases h1:y9 s
 ·rw[h1]at c1;refine vb4 Tryz.func156 ?_;refine vc6 ?_;(repeat intro hh);all_goals simp
 cases h2:y9 (lo,hi)
 ·rw[h1]at c1;rw[h2]at c2;refine vb4 Tryz.func156 ?_;refine vc6 ?_;(repeat intro hh);all_goals simp
 rw[h1]at c1;rw[h2]at c2;obtain⟨⟨⟨m1,m2⟩,⟨m3,m4⟩⟩,me⟩:=m;obtain⟨⟨s1,s2⟩,⟨s3,s4⟩⟩:=s;by_cases h3:me=0
 ·by_cases h4:((m1,m2),(m3,m4))=((s1,s2),(s3,s4))
  ·obtain⟨rfl,rfl,rfl,rfl⟩:m1=s1/\m2=s2/\m3=s3/\m4=s4:=by simpa[and_assoc]using h4
   refine vb4 Tryz.func156 ?_;refine vc6 ?_;(repeat intro hh);all_goals simp[h3]
  ·have h5:¬ (m1=s1/\m2=s2/\m3=s3/\m4=s4):=fun h=>h4 (by simp[h])
   refine vb4 Tryz.func156 ?_;refine vc6 ?_;(repeat intro hh);all_goals first|(simp_all;done)|(exfalso;simp at hh;grind)
 ·refine vb4 Tryz.func156 ?_;refine vc6 ?_;(repeat intro hh);all_goals simp[h3]
abbrev v7:Type:=((((Int×Int)×V3)×(Int×Int))×(Int×Int))
abbrev G2(g:v7):Int:=g.1.1.1.1
abbrev E7(g:v7):Int:=g.1.1.1.2
abbrev I6(g:v7):V3:=g.1.1.2
abbrev pQ(g:v7):V3:=(g.1.2,g.2)
abbrev eG(g:v7):List AV:=[i64 (G2 g),i64 (E7 g),i64 (I6 g).1.1,i64 (I6 g).1.2,i64 (I6 g).2.1,i64 (I6 g).2.2,i64 g.1.2.1,i64 g.1.2.2,i64 g.2.1,i64 g.2.2]
abbrev PA(g:v7):AV := .agg (eG g)
def Be(a:Int×Int):Bool:=decide (-1000000<=a.1) && decide (a.1<=1000000) && decide (a.2<=1000000)
def N0(g:v7):Bool:=B6 (G2 g) 1 255 && B6 (E7 g) 0 64 && y9 (I6 g) && y9 (pQ g) && decide (0<(I6 g).1.1) && (Be (I6 g).1 && Be (I6 g).2 && Be g.1.2 && Be g.2)
theorem zZ(q:List Int)(thr:Int)(hq:ke q)(ao:0<q.length)(hl:q.length<=64)(t1:1<=thr)(t2:thr<=255):va6 181 [A9 q,i64 thr] (.tup [fr (cP q thr).1,.bool (cP q thr).2]):=by
 have b1:=Fk q thr 0 hq hl va5 va5 t1 t2;have b2:=Jo q thr ((q.length:Int)-1) hq hl va5 va5 t1 t2;have wl:IntKind.i64.wrap ((q.length:Int)-1)=(q.length:Int)-1:=z5 _ va5 va5;cases h1:ub q thr 0 1 with
 | none =>
  have e:cP q thr=((0,0),false):=by unfold cP;rw[cQ h1];rfl
  rw[e];rw[cQ h1]at b1;refine pF Tryz.func181 ?_;conv=>whnf
  try exact va1
 | some k =>
  cases h2:ub q thr ((q.length:Int)-1) (-1)with
  | none=>exact absurd ((Cz ao).2 h2) (by rw[h1];simp)
  | some j =>
   have v1:=(kI hq hl va5 va5 (.inl rfl) t1 t2 h1).1;have v2:=(kI hq hl va5 va5 (.inr rfl) t1 t2 h2).1;have e:cP q thr=((dK (D5 q thr ((q.length:Int)-1) (-1) j) (D5 q thr 0 1 k)).1,true):=by unfold cP;rw[M1 h1,M1 h2];rfl
   rw[e];rw[M1 h1]at b1;rw[M1 h2]at b2;generalize D5 q thr 0 1 k=x at *
   generalize D5 q thr ((q.length:Int)-1) (-1) j=y at *
   have c1:=QV x v1;have c2:=Nl y (tW x) v2 (rV v1).1;have es:iW y (tW x)=dK y x:=rfl;rw[es]at c2;generalize dK y x=r at *
   generalize tW x=n at *
   refine vb4 Tryz.func181 ?_;refine vc6 ?_;intros;rw[wl];try exact va1
theorem Fl(p:List Int)(thr a8:Int)(hl:p.length<2^40):va6 180 [A9 p,i64 thr,i64 a8] (.tup [sp (J9 p thr a8).1,i64 (J9 p thr a8).2]):=by
 have ca:=Fj p thr 0 a8 hl;unfold J9;cases hp:H8 p
 ·rw[hp]at ca;refine vb4 Tryz.func180 ?_;refine vc6 ?_;intros;all_goals simp
 cases hq:eN p thr 0 a8
 ·rw[hp,hq]at ca;refine vb4 Tryz.func180 ?_;refine vc6 ?_;intros;all_goals simp
 rw[hp,hq]at ca;obtain⟨t1,t2,a1,a2,n1,n2⟩:=dW hq;have hlen:=M3 hp;have w1:=uj p (-a8) va5 (dV hp) va5 va5;have w2:=uj p a8 va5 (dV hp) va5 va5;have b1:=zZ (D8 p (-a8)) thr (N8 _ _) (by rw[x9];omega) (by rw[x9];omega) t1 t2;have b2:=zZ (D8 p a8) thr (N8 _ _) (by rw[x9];omega) (by rw[x9];omega) t1 t2;have he:uc p thr a8=Jj (cP (D8 p (-a8)) thr) (cP (D8 p a8) thr):=rfl;rw[he];generalize cP (D8 p (-a8)) thr=L at *
 generalize cP (D8 p a8) thr=U at *
 generalize D8 p (-a8)=q1 at *
 generalize D8 p a8=q2 at *
 have wn:IntKind.i64.wrap (0-a8) = -a8:=by rw[z5 _ va5 va5];omega
 obtain⟨L,l⟩:=L;obtain⟨U,u⟩:=U;simp only[]at *
 cases l
 ·refine vb4 Tryz.func180 ?_;refine vc6 ?_;intros;rw[wn];refine vc6 ?_;intros;all_goals simp[Jj]
 ·refine vb4 Tryz.func180 ?_;refine vc6 ?_;intros;rw[wn];refine vc6 ?_;intros;all_goals simp[Jj]
theorem Rb{s t:V3}(hs:y9 s=true)(ht:y9 t=true):mA s t=if W6 t.1 s.1<=0/\W6 s.2 t.2<=0 then 1 else if W6 s.2 t.1<0∨W6 t.2 s.1<0 then 2 else 3:=by
 obtain⟨s1,s2,s3⟩:=Z5.1 hs;obtain⟨t1,t2,t3⟩:=Z5.1 ht;obtain⟨g1,g2,g3⟩:=Hh s1 t1;obtain⟨l1,l2,l3⟩:=Hg s2 t2;simp only[nT t1 s1,nT s2 t2,zM s2 t1,zM t2 s1];have hsp:y9 (S7 s.1 t.1,U7 s.2 t.2)=true↔qv (S7 s.1 t.1)<=qv (U7 s.2 t.2):=by
  rw[Z5];exact⟨fun h=>h.2.2,fun h=>⟨eH s1 t1,eE s2 t2,h⟩⟩
 unfold mA ud;rw[hs,ht];by_cases hA:qv t.1<=qv s.1/\qv s.2<=qv t.2
 ·rw[if_pos hA,Jr s1 t1 hA.1,Js s2 t2 hA.2,show((s.1,s.2):V3)=s from rfl,hs];simp
 ·rw[if_neg hA];by_cases hB:qv s.2<qv t.1∨qv t.2<qv s.1
  ·rw[if_pos hB];have hn:¬ y9 (S7 s.1 t.1,U7 s.2 t.2)=true:=fun h=>by
    have:=hsp.1 h;rcases hB with hB|hB<;>grind
   simp[hn]
  ·rw[if_neg hB];have hy:y9 (S7 s.1 t.1,U7 s.2 t.2)=true:=hsp.2 (by
    rcases g3 with e|e<;>rcases l3 with e' | e'<;>rw[e,e']<;>grind)
   have V8:(S7 s.1 t.1,U7 s.2 t.2)≠s:=fun e=>hA (by
    have e1:S7 s.1 t.1=s.1:=congrArg Prod.fst e;have e2:U7 s.2 t.2=s.2:=congrArg Prod.snd e;rw[e1]at g2;rw[e2]at l2
    exact⟨g2,l2⟩)
   simp[hy,V8]
theorem Fm(s:V3)(lo hi:Int×Int)(hs:y9 s=true)(ht:y9 (lo,hi)=true):va6 184 [sp s,fr lo,fr hi] (u8 (mA s (lo,hi))):=by
 obtain⟨s1,s2,s3⟩:=L3.1 hs;obtain⟨t1,t2,t3⟩:=L3.1 ht;have c1:=bT lo s.1 t1 s1;have c2:=bT s.2 hi s2 t2;have c3:=bT s.2 lo s2 t1;have c4:=bT hi s.1 t2 s1;rw[Rb hs ht];simp only[];generalize W6 lo s.1=x1 at *
 generalize W6 s.2 hi=x2 at *
 generalize W6 s.2 lo=x3 at *
 generalize W6 hi s.1=x4 at *
 clear s1 s2 s3 t1 t2 t3 hs ht;refine vb4 Tryz.func184 ?_;refine vd2 ?_ ?_ ?_ ?_ ?_ ?_ ?_<;>intros
 all_goals first|(simp_all;done)|(simp_all;omega)
theorem nY(a:Int×Int):va6 179 [fr a] (.bool (Be a)):=by
 have f:=bU a.1 (-1000000) 1000000;have e:Be a=(B6 a.1 (-1000000) 1000000 && decide (a.2<=1000000)):=rfl;rw[e];generalize B6 a.1 (-1000000) 1000000=w at *
 cases w
 ·refine vb4 Tryz.func179 ?_;refine vc6 ?_;intros;all_goals simp
 ·refine vb4 Tryz.func179 ?_;refine vc6 ?_;intros;all_goals simp_all
abbrev IG(g:v7):Prop:=A4 (G2 g)/\A4 (E7 g)/\I4 (I6 g)/\I4 (pQ g)
theorem gd(g:v7)(hI:IG g):va6 128 [PA g] (.bool (N0 g)):=by
 obtain⟨_,_,i3,i4⟩:=hI;obtain⟨⟨⟨⟨thr,a8⟩,sc⟩,lo⟩,hi⟩:=g;have c1:=cE sc i3.1 i3.2.1 i3.2.2.1 i3.2.2.2;have c2:=cE (lo,hi) i4.1 i4.2.1 i4.2.2.1 i4.2.2.2;have f1:=bU thr 1 255;have f2:=bU a8 0 64;have f3:=nY sc.1;have f4:=nY sc.2;have f5:=nY lo;have f6:=nY hi;unfold N0;simp only[];clear i3 i4;generalize y9 sc=s1 at *
 generalize y9 (lo,hi)=s2 at *
 generalize B6 thr 1 255=w1 at *
 generalize B6 a8 0 64=w2 at *
 generalize Be sc.1=w3 at *
 generalize Be sc.2=w4 at *
 generalize Be lo=w5 at *
 generalize Be hi=w6 at *
 cases w1
 ·refine vb4 Tryz.func128 ?_;refine vc6 ?_;intros;all_goals simp
 cases w2
 ·refine vb4 Tryz.func128 ?_;refine vc6 ?_;intros;all_goals simp
 cases s1
 ·refine vb4 Tryz.func128 ?_;refine vc6 ?_;intros;all_goals simp
 cases s2
 ·refine vb4 Tryz.func128 ?_;refine vc6 ?_;intros;all_goals simp
 refine vb4 Tryz.func128 ?_;refine vd0 ?_ ?_ ?_ ?_ ?_<;>intros
 all_goals first|(simp_all;done)|(simp_all;intros;omega)
theorem kg(g:v7)(hI:IG g):va6 141 [PA g] (i64 (if N0 g then 0 else 8)):=by
 have c:=gd g hI;cases h:N0 g
 ·rw[h]at c;refine vb4 Tryz.func141 ?_;refine vc6 ?_;intros;all_goals simp
 ·rw[h]at c;refine vb4 Tryz.func141 ?_;refine vc6 ?_;intros;all_goals simp

end Go.Proofs.Tryz.My
