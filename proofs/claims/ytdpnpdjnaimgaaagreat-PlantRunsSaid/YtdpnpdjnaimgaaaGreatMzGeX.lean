/- Helper lemmas. -/
import Derived.Test.YtdpnpdjnaimgaaaGreatMzGaX
set_option linter.unusedVariables false
set_option linter.unusedSimpArgs false
set_option maxRecDepth 100000
set_option maxHeartbeats 0
namespace Go.Proofs.Tryz.My
open Go Go.Ev
def N6(p:List Int)(thr a a8 d:Int):X2×Int:=if L2 p then(if dF p thr a a8 then X0 p thr a a8 d else(zS,2))else(zS,50)
def H6(p:List Int)(thr a8:Int):X2×Int:=if L2 p then(if dF p thr 0 a8 then tM p thr a8 else(zS,2))else(zS,50)
theorem ER(p:List Int)(thr a a8 d:Int)(hd:hC d)(hl:p.length<2^40):va6 195 [C8 p,i64 thr,i64 a,i64 a8,i64 d] (.tup [sp (N6 p thr a a8 d).1,i64 (N6 p thr a a8 d).2]):=by
 have ca:=GJ p thr a a8 hl;unfold N6;cases hp:L2 p
 ·rw[hp]at ca;refine pF Tryz.func195 ?_;conv=>whnf
  refine vb7 ?_;(repeat intro hh);all_goals simp
 cases hq:dF p thr a a8
 ·rw[hp,hq]at ca;refine pF Tryz.func195 ?_;conv=>whnf
  refine vb7 ?_;(repeat intro hh);all_goals simp
 rw[hp,hq]at ca;obtain⟨t1,t2,a1,a2,n1,n2⟩:=ag hq;have hlen:=M0 hp;have h0:p≠[]:=by rintro rfl;simp at hlen
 have w1:=a1N p (-a8) h0 va5 (jr hp) va5 va5;have w2:=a1N p a8 h0 va5 (jr hp) va5 va5;have b1:=rQ (C6 p (-a8)) thr a d (T7 _ _) (by rw[z8];omega) a1 (by rw[z8];omega) hd t1 t2;have b2:=rQ (C6 p a8) thr a d (T7 _ _) (by rw[z8];omega) a1 (by rw[z8];omega) hd t1 t2;have he:X0 p thr a a8 d=uX (Da (C6 p (-a8)) thr a d) (Da (C6 p a8) thr a d) d:=rfl;rw[he];generalize Da (C6 p (-a8)) thr a d=L at *
 generalize Da (C6 p a8) thr a d=U at *
 generalize C6 p (-a8)=q1 at *
 generalize C6 p a8=q2 at *
 have wn:IntKind.i64.wrap (0-a8) = -a8:=by rw[C7 _ va5 va5];omega
 obtain⟨L,l⟩:=L;obtain⟨U,u⟩:=U;simp only[]at *
 cases l
 ·refine pF Tryz.func195 ?_;conv=>whnf
  refine vb7 ?_;(repeat intro hh);rw[wn]
  (first|(refine Or.inl ?_;(conv=>whnf);refine⟨_,iS _,?_⟩)|refine⟨_,iS _,?_⟩)
  conv=>whnf
  (refine va2 [] [31] ?_;(conv=>whnf);refine va3 [] w1 ?_);conv=>whnf
  (first|(refine Or.inl ?_;(conv=>whnf);refine⟨true,?_⟩)|refine⟨true,?_⟩)
  conv=>whnf
  refine⟨_,b1,?_⟩;conv=>whnf
  refine vb8 ?_;(repeat intro hh);all_goals simp[uX]
 ·refine pF Tryz.func195 ?_;conv=>whnf
  refine vb7 ?_;(repeat intro hh);rw[wn]
  (first|(refine Or.inl ?_;(conv=>whnf);refine⟨_,iS _,?_⟩)|refine⟨_,iS _,?_⟩)
  conv=>whnf
  (refine va2 [] [31] ?_;(conv=>whnf);refine va3 [] w1 ?_);conv=>whnf
  (first|(refine Or.inl ?_;(conv=>whnf);refine⟨true,?_⟩)|refine⟨true,?_⟩)
  conv=>whnf
  refine⟨_,b1,?_⟩;conv=>whnf
  (repeat' ((first|refine va0 (fun hh=>?_) fun hh=>?_|refine kR ?_|((try refine .inl ?_;conv=>whnf);(try refine⟨false,?_⟩;conv=>whnf);refine⟨_,by exact iS _,?_⟩)|fail)<;>first|exact hh.elim|conv=>whnf));(refine va2 [] [45] ?_;(conv=>whnf);refine va3 [] w2 ?_);conv=>whnf
  (first|(refine Or.inl ?_;(conv=>whnf);refine⟨true,?_⟩)|refine⟨true,?_⟩)
  conv=>whnf
  refine⟨_,b2,?_⟩;conv=>whnf
  (repeat' ((first|refine va0 (fun hh=>?_) fun hh=>?_|refine kR ?_|fail)<;>first|exact hh.elim|conv=>whnf));all_goals simp[uX,hh]
theorem Ku(p:List Int)(thr a a8:Int)(hl:p.length<2^40):va6 142 [C8 p,i64 thr,i64 a,i64 a8] (.tup [sp (N6 p thr a a8 1).1,i64 (N6 p thr a a8 1).2]):=by
 have c:=ER p thr a a8 1 (.inl rfl) hl;generalize N6 p thr a a8 1=r at *
 refine pF Tryz.func142 ?_;conv=>whnf
 try exact va1
theorem Kv(p:List Int)(thr a a8:Int)(hl:p.length<2^40):va6 143 [C8 p,i64 thr,i64 a,i64 a8] (.tup [sp (N6 p thr a a8 (-1)).1,i64 (N6 p thr a a8 (-1)).2]):=by
 have c:=ER p thr a a8 (-1) (.inr rfl) hl;generalize N6 p thr a a8 (-1)=r at *
 refine pF Tryz.func143 ?_;conv=>whnf
 try exact va1
theorem GK(p:List Int)(thr a8:Int) :
  ((N6 p thr 0 a8 1).2≠0/\H6 p thr a8=(zS,(N6 p thr 0 a8 1).2)) ∨
  ((N6 p thr 0 a8 1).2=0/\(N6 p thr ((p.length:Int)-1) a8 (-1)).2=0/\CZ (N6 p thr ((p.length:Int)-1) a8 (-1)).1 (N6 p thr 0 a8 1).1=H6 p thr a8):=by
 unfold N6 H6;cases hp:L2 p
 ·left;simp
 cases hq:dF p thr 0 a8
 ·left;simp
 obtain⟨t1,t2,a1,a2,n1,n2⟩:=ag hq;have hlen:=M0 hp;have It:dF p thr ((p.length:Int)-1) a8=true:=by
  simp only[dF,zA2,zA3];omega
 rw[It];simp only[if_true];rcases qa (p:=p) va5 hlen.2 t1 t2 n1 with ⟨h1,h2⟩|⟨h1,h2,_,_,h3,_⟩
 ·left;rw[h1,h2];simp
 ·right;exact⟨h1,h2,h3⟩
theorem GL(p:List Int)(thr a8:Int)(hl:p.length<2^40):va6 90 [C8 p,i64 thr,i64 a8] (.tup [sp (H6 p thr a8).1,i64 (H6 p thr a8).2]):=by
 have c1:=Ku p thr 0 a8 hl;have c2:=Kv p thr ((p.length:Int)-1) a8 hl;have c3:=zO (N6 p thr ((p.length:Int)-1) a8 (-1)).1 (N6 p thr 0 a8 1).1;have wl:IntKind.i64.wrap ((p.length:Int)-1)=(p.length:Int)-1:=C7 _ va5 va5;rcases GK p thr a8 with ⟨h1,h2⟩|⟨h1,h2,h3⟩
 ·rw[h2];generalize N6 p thr 0 a8 1=r at *
  refine pF Tryz.func90 ?_;conv=>whnf
  try exact va1
  all_goals simp[h1]
 ·rw[h3]at c3;generalize H6 p thr a8=w at *
  generalize N6 p thr 0 a8 1=r at *
  generalize N6 p thr ((p.length:Int)-1) a8 (-1)=s at *
  obtain⟨r,re⟩:=r;obtain⟨s,se⟩:=s;simp only[]at *
  subst h1;subst h2;refine pF Tryz.func90 ?_;conv=>whnf
  refine vb7 ?_;(repeat intro hh);rw[wl];try exact va1
theorem GM{a b:Int×Int}(ha:r7 a=true)(hb:r7 b=true)(h:qv b<=qv a):X7 a b=a:=by
 unfold X7;rw[if_neg (fun k=>by have:=(EM hb ha).1 k;grind)]
theorem GN{a b:Int×Int}(ha:r7 a=true)(hb:r7 b=true)(h:qv a<=qv b):X6 a b=a:=by
 unfold X6;rw[if_neg (fun k=>by have:=(mf hb ha).1 k;grind)]
theorem js{p:List Int}{thr a a8 d:Int}(hd:hC d)(h:(N6 p thr a a8 d).2=0) :
  L2 p=true/\dF p thr a a8=true/\N6 p thr a a8 d=X0 p thr a a8 d/\z7 (N6 p thr a a8 d).1=true /\
  ∃ k j,tL (C6 p (-a8)) thr a d=some k/\tL (C6 p a8) thr a d=some j /\
   (N6 p thr a a8 d).1=(if d<0 then(E7 (C6 p (-a8)) thr a d k,E7 (C6 p a8) thr a d j)else(E7 (C6 p a8) thr a d j,E7 (C6 p (-a8)) thr a d k)) /\
   qv (E7 (C6 p (-a8)) thr a d k)=(a:Rat)+(d:Rat)*bT (R9 (C6 p (-a8)) a d) thr k /\
   qv (E7 (C6 p a8) thr a d j)=(a:Rat)+(d:Rat)*bT (R9 (C6 p a8) a d) thr j:=by
 unfold N6 at h ⊢;cases hp:L2 p
 ·rw[hp]at h;simp at h
 cases hq:dF p thr a a8
 ·rw[hp,hq]at h;simp at h
 rw[hp,hq]at h;simp only[if_true]at h ⊢;obtain⟨t1,t2,a1,a2,n1,n2⟩:=ag hq;rcases gF (p:=p) (M0 hp).2 (thr:=thr) (a:=a) (a8:=a8) (d:=d) a1 a2 hd t1 t2 n1 with ⟨h1,h2⟩|⟨k,j,hk,hj,_,v1,v2,q1,q2,_,e,sp⟩
 ·rw[h2]at h;simp at h
 ·exact⟨trivial,trivial,trivial,sp,k,j,hk,hj,by rw[e],q1,q2⟩
theorem jt{p:List Int}{thr a8:Int}(h:(H6 p thr a8).2=0) :
  L2 p=true/\dF p thr 0 a8=true/\(N6 p thr 0 a8 1).2=0/\(N6 p thr ((p.length:Int)-1) a8 (-1)).2=0/\z7 (H6 p thr a8).1=true /\
   qv (H6 p thr a8).1.1=qv (N6 p thr ((p.length:Int)-1) a8 (-1)).1.1-qv (N6 p thr 0 a8 1).1.2/\qv (H6 p thr a8).1.2=qv (N6 p thr ((p.length:Int)-1) a8 (-1)).1.2-qv (N6 p thr 0 a8 1).1.1:=by
 unfold H6 at h ⊢;unfold N6;cases hp:L2 p
 ·rw[hp]at h;simp at h
 cases hq:dF p thr 0 a8
 ·rw[hp,hq]at h;simp at h
 rw[hp,hq]at h;obtain⟨t1,t2,a1,a2,n1,n2⟩:=ag hq;have hlen:=M0 hp;have It:dF p thr ((p.length:Int)-1) a8=true:=by
  simp only[dF,zA2,zA3];omega
 rw[It];simp only[if_true]at h ⊢;rcases qa (p:=p) va5 hlen.2 t1 t2 n1 with ⟨h1,h2⟩|⟨h1,h2,_,_,h3,h4,h5,h6,h7⟩
 ·rw[h2]at h;simp at h
 ·exact⟨trivial,trivial,h1,h2,h5,h6,h7⟩
theorem a19(q:List Int)(thr:Int)(hq:rK q)(dC:0<q.length)(hl:q.length<=64)(t1:1<=thr)(t2:thr<=255):va6 212 [C8 q,i64 thr] (.tup [fr (EP q thr).1,.bool (EP q thr).2]):=by
 have b1:=a2E q thr 0 hq hl va5 va5 t1 t2;have b2:=a29 q thr ((q.length:Int)-1) hq hl va5 va5 t1 t2;have wl:IntKind.i64.wrap ((q.length:Int)-1)=(q.length:Int)-1:=C7 _ va5 va5;cases h1:tL q thr 0 1 with
 | none =>
  have e:EP q thr=((0,0),false):=by unfold EP;rw[rM h1];rfl
  rw[e];rw[rM h1]at b1;refine pF Tryz.func212 ?_;conv=>whnf
  try exact va1
 | some k =>
  cases h2:tL q thr ((q.length:Int)-1) (-1)with
  | none=>exact absurd ((Kr dC).2 h2) (by rw[h1];simp)
  | some j =>
   have v1:=(uV hq hl va5 va5 (.inl rfl) t1 t2 h1).1;have v2:=(uV hq hl va5 va5 (.inr rfl) t1 t2 h2).1;have e:EP q thr=((eH (E7 q thr ((q.length:Int)-1) (-1) j) (E7 q thr 0 1 k)).1,true):=by unfold EP;rw[bU h1,bU h2];rfl
   rw[e];rw[bU h1]at b1;rw[bU h2]at b2;generalize E7 q thr 0 1 k=x at *
   generalize E7 q thr ((q.length:Int)-1) (-1) j=y at *
   have c1:=a4f x v1;have c2:=a3D y (CY x) v2 (xj v1).1;have es:lZ y (CY x)=eH y x:=rfl;rw[es]at c2;generalize eH y x=r at *
   generalize CY x=n at *
   refine pF Tryz.func212 ?_;conv=>whnf
   refine vb7 ?_;(repeat intro hh);rw[wl];try exact va1
theorem a2F(p:List Int)(thr a8:Int)(hl:p.length<2^40):va6 211 [C8 p,i64 thr,i64 a8] (.tup [sp (H6 p thr a8).1,i64 (H6 p thr a8).2]):=by
 have ca:=a2D p thr 0 a8 hl;unfold H6;cases hp:L2 p
 ·rw[hp]at ca;refine pF Tryz.func211 ?_;conv=>whnf
  refine vb7 ?_;(repeat intro hh);all_goals simp
 cases hq:dF p thr 0 a8
 ·rw[hp,hq]at ca;refine pF Tryz.func211 ?_;conv=>whnf
  refine vb7 ?_;(repeat intro hh);all_goals simp
 rw[hp,hq]at ca;obtain⟨t1,t2,a1,a2,n1,n2⟩:=ag hq;have hlen:=M0 hp;have w1:=a1o p (-a8) va5 (jr hp) va5 va5;have w2:=a1o p a8 va5 (jr hp) va5 va5;have b1:=a19 (C6 p (-a8)) thr (T7 _ _) (by rw[z8];omega) (by rw[z8];omega) t1 t2;have b2:=a19 (C6 p a8) thr (T7 _ _) (by rw[z8];omega) (by rw[z8];omega) t1 t2;have he:tM p thr a8=QZ (EP (C6 p (-a8)) thr) (EP (C6 p a8) thr):=rfl;rw[he];generalize EP (C6 p (-a8)) thr=L at *
 generalize EP (C6 p a8) thr=U at *
 generalize C6 p (-a8)=q1 at *
 generalize C6 p a8=q2 at *
 have wn:IntKind.i64.wrap (0-a8) = -a8:=by rw[C7 _ va5 va5];omega
 obtain⟨L,l⟩:=L;obtain⟨U,u⟩:=U;simp only[]at *
 cases l
 ·refine pF Tryz.func211 ?_;conv=>whnf
  refine vb7 ?_;(repeat intro hh);rw[wn];refine vb7 ?_;(repeat intro hh);all_goals simp[QZ]
 ·refine pF Tryz.func211 ?_;conv=>whnf
  refine vb7 ?_;(repeat intro hh);rw[wn];refine vb7 ?_;(repeat intro hh);all_goals simp[QZ]

end Go.Proofs.Tryz.My
