/- Helper lemmas. -/
import Derived.Test.YtdpnpdjnaimgaaaGreatMzGeX
set_option linter.unusedVariables false
set_option linter.unusedSimpArgs false
set_option maxRecDepth 100000
set_option maxHeartbeats 0
namespace Go.Proofs.Tryz.My
open Go Go.Ev
abbrev u8(n:Int):AV := .int .u8 n
def mr(s t:X2):Int:=if (rN s t).2=0 then(if (rN s t).1=s then 1 else 3)else 2
def xl(s t:X2):Int×Int:=if z7 s && z7 t then(mr s t,0)else(0,2)
theorem GQ(s:X2)(lo hi:Int×Int):va6 94 [sp s,fr lo,fr hi] (.tup [u8 (xl s (lo,hi)).1,i64 (xl s (lo,hi)).2]):=by
 have c1:=cL s;have c2:=cL (lo,hi);have c3:=NN s (lo,hi);unfold xl mr;generalize rN s (lo,hi)=m at *
 cases h1:z7 s
 ·rw[h1]at c1;refine pF Tryz.func94 ?_;conv=>whnf
  refine vb7 ?_;(repeat intro hh);all_goals simp
 cases h2:z7 (lo,hi)
 ·rw[h1]at c1;rw[h2]at c2;refine pF Tryz.func94 ?_;conv=>whnf
  refine vb7 ?_;(repeat intro hh);all_goals simp
 rw[h1]at c1;rw[h2]at c2;obtain⟨⟨⟨m1,m2⟩,⟨m3,m4⟩⟩,me⟩:=m;obtain⟨⟨s1,s2⟩,⟨s3,s4⟩⟩:=s;by_cases h3:me=0
 ·by_cases h4:((m1,m2),(m3,m4))=((s1,s2),(s3,s4))
  ·obtain⟨rfl,rfl,rfl,rfl⟩:m1=s1/\m2=s2/\m3=s3/\m4=s4:=by simpa[and_assoc]using h4
   refine pF Tryz.func94 ?_;conv=>whnf
   refine vb7 ?_;(repeat intro hh);all_goals simp[h3]
  ·have h5:¬ (m1=s1/\m2=s2/\m3=s3/\m4=s4):=fun h=>h4 (by simp[h])
   refine pF Tryz.func94 ?_;conv=>whnf
   refine vb7 ?_;(repeat intro hh);all_goals first|(simp_all;done)|(exfalso;simp at hh;grind)
 ·refine pF Tryz.func94 ?_;conv=>whnf
  refine vb7 ?_;(repeat intro hh);all_goals simp[h3]
abbrev x8:Type:=((((Int×Int)×X2)×(Int×Int))×(Int×Int))
abbrev H8(g:x8):Int:=g.1.1.1.1
abbrev D9(g:x8):Int:=g.1.1.1.2
abbrev J5(g:x8):X2:=g.1.1.2
abbrev kV(g:x8):X2:=(g.1.2,g.2)
abbrev eG(g:x8):List AV:=[i64 (H8 g),i64 (D9 g),i64 (J5 g).1.1,i64 (J5 g).1.2,i64 (J5 g).2.1,i64 (J5 g).2.2,i64 g.1.2.1,i64 g.1.2.2,i64 g.2.1,i64 g.2.2]
abbrev Ta(g:x8):AV := .agg (eG g)
def Iw(a:Int×Int):Bool:=decide (-1000000<=a.1) && decide (a.1<=1000000) && decide (a.2<=1000000)
def S6(g:x8):Bool:=D1 (H8 g) 1 255 && D1 (D9 g) 0 64 && z7 (J5 g) && z7 (kV g) && decide (0<(J5 g).1.1) && (Iw (J5 g).1 && Iw (J5 g).2 && Iw g.1.2 && Iw g.2)
theorem NQ{s t:X2}(hs:z7 s=true)(ht:z7 t=true):mr s t=if bR t.1 s.1<=0/\bR s.2 t.2<=0 then 1 else if bR s.2 t.1<0∨bR t.2 s.1<0 then 2 else 3:=by
 obtain⟨s1,s2,s3⟩:=P1.1 hs;obtain⟨t1,t2,t3⟩:=P1.1 ht;obtain⟨g1,g2,g3⟩:=EO s1 t1;obtain⟨l1,l2,l3⟩:=EN s2 t2;simp only[gE t1 s1,gE s2 t2,mf s2 t1,mf t2 s1];have YL:z7 (X7 s.1 t.1,X6 s.2 t.2)=true↔qv (X7 s.1 t.1)<=qv (X6 s.2 t.2):=by
  rw[P1];exact⟨fun h=>h.2.2,fun h=>⟨kS s1 t1,kQ s2 t2,h⟩⟩
 unfold mr rN;rw[hs,ht];by_cases hA:qv t.1<=qv s.1/\qv s.2<=qv t.2
 ·rw[if_pos hA,GM s1 t1 hA.1,GN s2 t2 hA.2,show((s.1,s.2):X2)=s from rfl,hs];simp
 ·rw[if_neg hA];by_cases hB:qv s.2<qv t.1∨qv t.2<qv s.1
  ·rw[if_pos hB];have hn:¬ z7 (X7 s.1 t.1,X6 s.2 t.2)=true:=fun h=>by
    have:=YL.1 h;rcases hB with hB|hB<;>grind
   simp[hn]
  ·rw[if_neg hB];have hy:z7 (X7 s.1 t.1,X6 s.2 t.2)=true:=YL.2 (by
    rcases g3 with e|e<;>rcases l3 with e' | e'<;>rw[e,e']<;>grind)
   have aW:(X7 s.1 t.1,X6 s.2 t.2)≠s:=fun e=>hA (by
    have e1:X7 s.1 t.1=s.1:=congrArg Prod.fst e;have e2:X6 s.2 t.2=s.2:=congrArg Prod.snd e;rw[e1]at g2;rw[e2]at l2
    exact⟨g2,l2⟩)
   simp[hy,aW]
theorem a2G(s:X2)(lo hi:Int×Int)(hs:z7 s=true)(ht:z7 (lo,hi)=true):va6 215 [sp s,fr lo,fr hi] (u8 (mr s (lo,hi))):=by
 obtain⟨s1,s2,s3⟩:=T6.1 hs;obtain⟨t1,t2,t3⟩:=T6.1 ht;have c1:=dn lo s.1 t1 s1;have c2:=dn s.2 hi s2 t2;have c3:=dn s.2 lo s2 t1;have c4:=dn hi s.1 t2 s1;rw[NQ hs ht];simp only[];generalize bR lo s.1=x1 at *
 generalize bR s.2 hi=x2 at *
 generalize bR s.2 lo=x3 at *
 generalize bR hi s.1=x4 at *
 clear s1 s2 s3 t1 t2 t3 hs ht;refine pF Tryz.func215 ?_;conv=>whnf
 (repeat' ((first|refine va0 (fun hh=>?_) fun hh=>?_|refine kR ?_|((try refine .inl ?_;conv=>whnf);(try refine⟨false,?_⟩;conv=>whnf);refine⟨_,by assumption,?_⟩)|fail)<;>first|exact hh.elim|conv=>whnf));all_goals first|(simp_all;done)|(simp_all;omega)
theorem a0A(a:Int×Int):va6 210 [fr a] (.bool (Iw a)):=by
 have f:=eu a.1 (-1000000) 1000000;have e:Iw a=(D1 a.1 (-1000000) 1000000 && decide (a.2<=1000000)):=rfl;rw[e];generalize D1 a.1 (-1000000) 1000000=w at *
 cases w
 ·refine pF Tryz.func210 ?_;conv=>whnf
  refine vb7 ?_;(repeat intro hh);all_goals simp
 ·refine pF Tryz.func210 ?_;conv=>whnf
  refine vb7 ?_;(repeat intro hh);all_goals simp_all
abbrev IG(g:x8):Prop:=G7 (H8 g)/\G7 (D9 g)/\I4 (J5 g)/\I4 (kV g)
theorem te(g:x8)(hI:IG g):va6 162 [Ta g] (.bool (S6 g)):=by
 obtain⟨_,_,i3,i4⟩:=hI;obtain⟨⟨⟨⟨thr,a8⟩,sc⟩,lo⟩,hi⟩:=g;have c1:=kG sc i3.1 i3.2.1 i3.2.2.1 i3.2.2.2;have c2:=kG (lo,hi) i4.1 i4.2.1 i4.2.2.1 i4.2.2.2;have f1:=eu thr 1 255;have f2:=eu a8 0 64;have f3:=a0A sc.1;have f4:=a0A sc.2;have f5:=a0A lo;have f6:=a0A hi;unfold S6;simp only[];clear i3 i4;generalize z7 sc=s1 at *
 generalize z7 (lo,hi)=s2 at *
 generalize D1 thr 1 255=w1 at *
 generalize D1 a8 0 64=w2 at *
 generalize Iw sc.1=w3 at *
 generalize Iw sc.2=w4 at *
 generalize Iw lo=w5 at *
 generalize Iw hi=w6 at *
 cases w1
 ·refine pF Tryz.func162 ?_;conv=>whnf
  refine vb7 ?_;(repeat intro hh);all_goals simp
 cases w2
 ·refine pF Tryz.func162 ?_;conv=>whnf
  refine vb7 ?_;(repeat intro hh);all_goals simp
 cases s1
 ·refine pF Tryz.func162 ?_;conv=>whnf
  refine vb7 ?_;(repeat intro hh);all_goals simp
 cases s2
 ·refine pF Tryz.func162 ?_;conv=>whnf
  refine vb7 ?_;(repeat intro hh);all_goals simp
 refine pF Tryz.func162 ?_;conv=>whnf
 (repeat' ((first|refine va0 (fun hh=>?_) fun hh=>?_|refine kR ?_|((try refine .inl ?_;conv=>whnf);(try refine⟨false,?_⟩;conv=>whnf);refine⟨_,by assumption,?_⟩)|fail)<;>first|exact hh.elim|conv=>whnf));all_goals first|(simp_all;done)|(simp_all;intros;omega)
theorem a0g(g:x8)(hI:IG g):va6 242 [Ta g] (i64 (if S6 g then 0 else 8)):=by
 have c:=te g hI;cases h:S6 g
 ·rw[h]at c;refine pF Tryz.func242 ?_;conv=>whnf
  refine vb7 ?_;(repeat intro hh);all_goals simp
 ·rw[h]at c;refine pF Tryz.func242 ?_;conv=>whnf
  refine vb7 ?_;(repeat intro hh);all_goals simp

end Go.Proofs.Tryz.My
