/- Helper lemmas. -/
import Derived.Test.YtdpnpdjnaimgaaaGreatMzWxE
set_option linter.unusedVariables false
set_option linter.unusedSimpArgs false
set_option maxRecDepth 100000
set_option maxHeartbeats 0
namespace Go.Proofs.Tryz.My
open Go Go.Ev
abbrev a0K(w:n9):AV := .agg ((eW w).set 25 (.own 1))
theorem a2P(w:n9)(g:I6 w)(hI:G7 w.o8.n8.step)(n:Int)(h:ir w n=0)(hg:¬N2 (v8 w)=true):va7 134 [bp w,i64 n] [rp w.n6] (.tup [a0K (X4 w n),.agg [i64 0,i64 ((v8 w).count+1),.own 2]]) [.none,rp (X4 w n).n6,.vec 83 5 K4 bE (aH w n)]:=by
 obtain⟨h1,h2⟩:=fQ h;obtain⟨gt,sm⟩:=ak g;obtain⟨k1,k2,k3,k4,k5⟩:=sm;have Pv:w.n6.length<=32:=by rw[g.lt];exact g.tk.ln
 have ct:=g.tk.ct;have bl:=G1.1 g.tk.bl;rw[g.bl]at bl;have wa:IntKind.i64.wrap (w.line.n8.step-w.line.n8.A0)=w.line.n8.step-w.line.n8.A0:=C7 _ va5 va5;have wb:IntKind.i64.wrap (w.line.n8.step+w.line.n8.A0)=w.line.n8.step+w.line.n8.A0:=C7 _ va5 va5;have c1:=u5 n (IntKind.i64.wrap (w.line.n8.step-w.line.n8.A0)) (IntKind.i64.wrap (w.line.n8.step+w.line.n8.A0));have e1:(decide (IntKind.i64.wrap (w.line.n8.step-w.line.n8.A0)<=n) && decide (n<=IntKind.i64.wrap (w.line.n8.step+w.line.n8.A0)))=true:=by rw[wa,wb,zA4 h1.1,zA4 h1.2];rfl
 rw[e1]at c1;have c2:=a1Y w va5 g.tk hI;have hIt:G7 (v8 w).n8.step:=by rw[k1];exact hI
 have c3:=a2u (v8 w) hIt (L3.2 gt);have c4:=a03 (v8 w) hIt (L3.2 gt) va5;have af:nX (v8 w)=[]:=by unfold nX;rw[if_neg hg]
 have eo:cH (v8 w) ((v8 w).count+1)=cH (v8 w) (w.o8.count+1):=by rw[k2]
 rw[af]at c4;rw[eo]at c3;have so:∀ k,mo w n k=[]:=fun k=>by unfold mo aH;rw[if_neg hg];split<;>rfl
 generalize lp:cH (v8 w) (w.o8.count+1)=op at c3;refine pW Tryz.func134 ⟨va4,?_⟩;conv=>whnf
 (repeat' ((first|refine va0 (fun hh=>?_) fun hh=>?_|refine kR ?_|((try refine Or.inl ?_;conv=>whnf);(try refine⟨false,?_⟩;conv=>whnf);refine⟨_,by exact c1,?_⟩)|fail)<;>first|exact hh.elim|conv=>whnf))
 ((first|refine Or.inl ?_|skip);(conv=>whnf);refine⟨true,?_⟩;(conv=>whnf);refine⟨_,c2,?_⟩;(conv=>whnf))
 refine vb7 ?_;(repeat intro hh);refine Or.inr ⟨Nat,[13],[],[(11,⟨B6,76,7,n5,J6⟩),(12,⟨V5,83,5,K4,bE⟩)],fun k=>[i64 k],fun _=>[],fun k=>[.vec 76 7 n5 J6 (m0 w n k),.vec 83 5 K4 bE (mo w n k)],fun k=>w.n6.length-k,fun k=>k<=w.n6.length,?_⟩;conv=>whnf
 refine⟨⟨0,?_⟩,?_⟩
 ·(conv=>whnf);refine kK ⟨zB4 _,rfl,rfl,?_⟩;show _=[Row.vec 76 7 n5 J6 (m0 w n 0),Row.vec 83 5 K4 bE (mo w n 0)]
  unfold m0;rw[if_neg hg,so]<;>rfl
 intro k hk;conv=>whnf
 refine⟨fun h=>?_,fun h=>?_⟩
 ·have h:(k:Int)<(w.n6.length:Nat):=zA1 h;have L7:k<w.n6.length:=by omega
  have fr:=AQ g L7;have th:=g.th k L7;have wf:IntKind.i64.wrap ((w.n6.getD k n5).front+n)=(w.n6.getD k n5).front+n:=C7 _ va5 va5;have st:=a1T (n:=n) L7 (fun q=>hg q.1);rw[lp]at st;have ll:=a2p w n k;have hkI:(k:Int)<((AP w (v8 w)).n6.length:Nat):=h;have wgl:IntKind.i64.wrap (w.line.n8.y9+(w.n6.getD k n5).len)=w.line.n8.y9+(w.n6.getD k n5).len:=C7 _ (by have:=th.2.1;omega) (by have:=th.2.1;omega);cases op
  ·have hB:((w.n6.getD k n5).out || (false && (decide (w.line.n8.y9<=(w.n6.getD k n5).front+n) && decide ((w.n6.getD k n5).front<=w.line.n8.y9+(w.n6.getD k n5).len))))=(w.n6.getD k n5).out:=by simp
   have st:m0 w n (k+1)=m0 w n k++[⟨(w.n6.getD k n5).id,IntKind.i64.wrap ((w.n6.getD k n5).front+n),(w.n6.getD k n5).len,(w.n6.getD k n5).o6,(w.n6.getD k n5).due,(w.n6.getD k n5).seq,(w.n6.getD k n5).out⟩]:=by rw[st,wf];unfold nZ;rw[hB]
   conv=>whnf
   refine vc0 ?_;(repeat intro hh);refine⟨⟨B6,7,n5,J6,m0 w n k⟩,[⟨(w.n6.getD k n5).id,IntKind.i64.wrap ((w.n6.getD k n5).front+n),(w.n6.getD k n5).len,(w.n6.getD k n5).o6,(w.n6.getD k n5).due,(w.n6.getD k n5).seq,(w.n6.getD k n5).out⟩],rfl,rfl,⟨rfl,rfl⟩,?_,?_,fun y _=>⟨rfl,rfl,rfl⟩,?_⟩
   ·show((m0 w n k).length+1)*56<=_;omega
   ·show(m0 w n k).length+1<=_;omega
   refine vc0 ?_;(repeat intro hh);refine⟨k+1,?_⟩;conv=>whnf
   refine kK ⟨⟨?_,?_⟩,?_,rfl,?_⟩
   ·show w.n6.length-(k+1)<w.n6.length-k;omega
   ·show k+1<=w.n6.length;omega
   ·rw[C7 _ va5 va5];rfl
   ·show _=[Row.vec 76 7 n5 J6 (m0 w n (k+1)),Row.vec 83 5 K4 bE (mo w n (k+1))]
    rw[st,so (k+1),so k]<;>rfl
  ·by_cases q:(AP w (v8 w)).line.n8.y9<=IntKind.i64.wrap (((AP w (v8 w)).n6.getD (Int.toNat (k:Int)) n5).front+n)/\((AP w (v8 w)).n6.getD (Int.toNat (k:Int)) n5).front<=IntKind.i64.wrap ((AP w (v8 w)).line.n8.y9+((AP w (v8 w)).n6.getD (Int.toNat (k:Int)) n5).len)
   ·have q2:w.line.n8.y9<=IntKind.i64.wrap ((w.n6.getD k n5).front+n)/\(w.n6.getD k n5).front<=IntKind.i64.wrap (w.line.n8.y9+(w.n6.getD k n5).len):=q;have hB:((w.n6.getD k n5).out || (true && (decide (w.line.n8.y9<=(w.n6.getD k n5).front+n) && decide ((w.n6.getD k n5).front<=w.line.n8.y9+(w.n6.getD k n5).len))))=true:=by
     rw[zA4 va5,zA4 va5];simp
    have st:m0 w n (k+1)=m0 w n k++[⟨(w.n6.getD k n5).id,IntKind.i64.wrap ((w.n6.getD k n5).front+n),(w.n6.getD k n5).len,(w.n6.getD k n5).o6,(w.n6.getD k n5).due,(w.n6.getD k n5).seq,true⟩]:=by rw[st,wf];unfold nZ;rw[hB]
    conv=>whnf
    refine vc0 ?_;(repeat intro hh);refine⟨⟨B6,7,n5,J6,m0 w n k⟩,[⟨(w.n6.getD k n5).id,IntKind.i64.wrap ((w.n6.getD k n5).front+n),(w.n6.getD k n5).len,(w.n6.getD k n5).o6,(w.n6.getD k n5).due,(w.n6.getD k n5).seq,true⟩],rfl,rfl,⟨rfl,rfl⟩,?_,?_,fun y _=>⟨rfl,rfl,rfl⟩,?_⟩
    ·show((m0 w n k).length+1)*56<=_;omega
    ·show(m0 w n k).length+1<=_;omega
    refine vc0 ?_;(repeat intro hh);refine⟨k+1,?_⟩;conv=>whnf
    refine kK ⟨⟨?_,?_⟩,?_,rfl,?_⟩
    ·show w.n6.length-(k+1)<w.n6.length-k;omega
    ·show k+1<=w.n6.length;omega
    ·rw[C7 _ va5 va5];rfl
    ·show _=[Row.vec 76 7 n5 J6 (m0 w n (k+1)),Row.vec 83 5 K4 bE (mo w n (k+1))]
     rw[st,so (k+1),so k]<;>rfl
   ·have q2:¬(w.line.n8.y9<=IntKind.i64.wrap ((w.n6.getD k n5).front+n)/\(w.n6.getD k n5).front<=IntKind.i64.wrap (w.line.n8.y9+(w.n6.getD k n5).len)):=q;have hB:((w.n6.getD k n5).out || (true && (decide (w.line.n8.y9<=(w.n6.getD k n5).front+n) && decide ((w.n6.getD k n5).front<=w.line.n8.y9+(w.n6.getD k n5).len))))=(w.n6.getD k n5).out:=by
     rw[<- Bool.decide_and,zA5 va5];simp
    have st:m0 w n (k+1)=m0 w n k++[⟨(w.n6.getD k n5).id,IntKind.i64.wrap ((w.n6.getD k n5).front+n),(w.n6.getD k n5).len,(w.n6.getD k n5).o6,(w.n6.getD k n5).due,(w.n6.getD k n5).seq,(w.n6.getD k n5).out⟩]:=by rw[st,wf];unfold nZ;rw[hB]
    conv=>whnf
    (repeat' ((first|refine va0 (fun hh=>?_) fun hh=>?_|refine kT ?_|fail)<;>first|exact hh.elim|conv=>whnf));all_goals
     refine⟨⟨B6,7,n5,J6,m0 w n k⟩,[⟨(w.n6.getD k n5).id,IntKind.i64.wrap ((w.n6.getD k n5).front+n),(w.n6.getD k n5).len,(w.n6.getD k n5).o6,(w.n6.getD k n5).due,(w.n6.getD k n5).seq,(w.n6.getD k n5).out⟩],rfl,rfl,⟨rfl,rfl⟩,?_,?_,fun y _=>⟨rfl,rfl,rfl⟩,?_⟩
     ·show((m0 w n k).length+1)*56<=_;omega
     ·show(m0 w n k).length+1<=_;omega
     (repeat' ((first|refine va0 (fun hh=>?_) fun hh=>?_|refine kT ?_|fail)<;>first|exact hh.elim|conv=>whnf));refine⟨k+1,?_⟩;conv=>whnf
     refine kK ⟨⟨?_,?_⟩,?_,rfl,?_⟩
     ·show w.n6.length-(k+1)<w.n6.length-k;omega
     ·show k+1<=w.n6.length;omega
     ·rw[C7 _ va5 va5];rfl
     ·show _=[Row.vec 76 7 n5 J6 (m0 w n (k+1)),Row.vec 83 5 K4 bE (mo w n (k+1))]
      rw[st,so (k+1),so k]<;>rfl
 ·have h:¬(k:Int)<(w.n6.length:Nat):=zA0 h;have ek:k=w.n6.length:=by omega
  subst ek;rw[a2q,so];have eO:aH w n=[]:=by unfold aH;rw[if_neg hg]
  rw[eO];conv=>whnf
  refine vc0 ?_;(repeat intro hh);refine⟨[11,12],va4,?_⟩;conv=>whnf
  exact⟨rfl,rfl⟩
theorem a2x(w:n9)(g:I6 w)(hI:G7 w.o8.n8.step)(n:Int)(h:ir w n=0)(hg:N2 (v8 w)=true):va7 134 [bp w,i64 n] [rp w.n6] (.tup [a0K (X4 w n),.agg [i64 0,i64 ((v8 w).count+1),.own 2]]) [.none,rp (X4 w n).n6,.vec 83 5 K4 bE (aH w n)]:=by
 obtain⟨h1,h2⟩:=fQ h;obtain⟨gt,sm⟩:=ak g;obtain⟨k1,k2,k3,k4,k5⟩:=sm;have Pv:w.n6.length<=32:=by rw[g.lt];exact g.tk.ln
 have ct:=g.tk.ct;have bl:=G1.1 g.tk.bl;rw[g.bl]at bl;have wa:IntKind.i64.wrap (w.line.n8.step-w.line.n8.A0)=w.line.n8.step-w.line.n8.A0:=C7 _ va5 va5;have wb:IntKind.i64.wrap (w.line.n8.step+w.line.n8.A0)=w.line.n8.step+w.line.n8.A0:=C7 _ va5 va5;have c1:=u5 n (IntKind.i64.wrap (w.line.n8.step-w.line.n8.A0)) (IntKind.i64.wrap (w.line.n8.step+w.line.n8.A0));have e1:(decide (IntKind.i64.wrap (w.line.n8.step-w.line.n8.A0)<=n) && decide (n<=IntKind.i64.wrap (w.line.n8.step+w.line.n8.A0)))=true:=by rw[wa,wb,zA4 h1.1,zA4 h1.2];rfl
 rw[e1]at c1;have c2:=a1Y w va5 g.tk hI;have hIt:G7 (v8 w).n8.step:=by rw[k1];exact hI
 have c3:=a2u (v8 w) hIt (L3.2 gt);have c4:=a03 (v8 w) hIt (L3.2 gt) va5;have af:nX (v8 w)=[ja ((hits (v8 w)).getD 0 n4)]:=by unfold nX;rw[if_pos hg]
 have eo:cH (v8 w) ((v8 w).count+1)=cH (v8 w) (w.o8.count+1):=by rw[k2]
 rw[af]at c4;rw[eo]at c3;have Us:0<w.n6.length:=by
  unfold N2 at hg;have:=(zA1 hg).1;rw[g.lt,<- k4];exact this
 have JU:(ja ((hits (v8 w)).getD 0 n4)).id=(w.n6.getD 0 n5).id:=by
  show((hits (v8 w)).getD 0 n4).id=_
  rw[bI _ _ (by rw[k4,<- g.lt];exact Us),a4t,(k5 0).1,(g.th 0 Us).1]
 generalize hF:ja ((hits (v8 w)).getD 0 n4)=f0 at c4 JU;have hlen:((([f0]:List km).length:Nat):Int)=1:=rfl;generalize lp:cH (v8 w) (w.o8.count+1)=op at c3;refine pW Tryz.func134 ⟨va4,?_⟩;conv=>whnf
 (repeat' ((first|refine va0 (fun hh=>?_) fun hh=>?_|refine kR ?_|((try refine Or.inl ?_;conv=>whnf);(try refine⟨false,?_⟩;conv=>whnf);refine⟨_,by exact c1,?_⟩)|fail)<;>first|exact hh.elim|conv=>whnf))
 ((first|refine Or.inl ?_|skip);(conv=>whnf);refine⟨true,?_⟩;(conv=>whnf);refine⟨_,c2,?_⟩;(conv=>whnf))
 refine vb7 ?_;(repeat intro hh);refine Or.inr ⟨Nat,[13],[],[(11,⟨B6,76,7,n5,J6⟩),(12,⟨V5,83,5,K4,bE⟩)],fun k=>[i64 k],fun _=>[],fun k=>[.vec 76 7 n5 J6 (m0 w n k),.vec 83 5 K4 bE (mo w n k)],fun k=>w.n6.length-k,fun k=>k<=w.n6.length,?_⟩;conv=>whnf
 refine⟨⟨0,?_⟩,?_⟩
 ·(conv=>whnf);refine kK ⟨zB4 _,rfl,rfl,?_⟩;show _=[Row.vec 76 7 n5 J6 (m0 w n 0),Row.vec 83 5 K4 bE (mo w n 0)]
  unfold m0;rw[if_pos hg]<;>rfl
 intro k hk;conv=>whnf
 refine⟨fun h=>?_,fun h=>?_⟩
 ·have h:(k:Int)<(w.n6.length:Nat):=zA1 h;have L7:k<w.n6.length:=by omega
  have fr:=AQ g L7;have th:=g.th k L7;have wf:IntKind.i64.wrap ((w.n6.getD k n5).front+n)=(w.n6.getD k n5).front+n:=C7 _ va5 va5;have ll:=a2p w n k;have hkI:(k:Int)<((AP w (v8 w)).n6.length:Nat):=h;have wgl:IntKind.i64.wrap (w.line.n8.y9+(w.n6.getD k n5).len)=w.line.n8.y9+(w.n6.getD k n5).len:=C7 _ (by have:=th.2.1;omega) (by have:=th.2.1;omega);by_cases Uc:k=0
  ·subst Uc;have BZ:(([f0]:List km).getD (Int.toNat 0) Lh).id=((AP w (v8 w)).n6.getD (Int.toNat ((0:Nat):Int)) n5).id:=JU;cases op
   ·have hB:(((w.n6.getD 0 n5).out || (false && (decide (w.line.n8.y9<=(w.n6.getD 0 n5).front+n) && decide ((w.n6.getD 0 n5).front<=w.line.n8.y9+(w.n6.getD 0 n5).len))))=(w.n6.getD 0 n5).out):=by simp
    have sO:mo w n (0+1)=[⟨(w.n6.getD 0 n5).id,(w.n6.getD 0 n5).seq,f0.o6,f0.hit,(w.n6.getD 0 n5).out⟩]:=by
     show aH w n=_
     unfold aH;rw[if_pos hg,hF,gQ L7,lp];unfold Rv nZ;rw[hB]
    conv=>whnf
    refine vc0 ?_;(repeat intro hh);all_goals
     refine⟨⟨V5,5,K4,bE,mo w n 0⟩,[⟨(w.n6.getD 0 n5).id,(w.n6.getD 0 n5).seq,f0.o6,f0.hit,(w.n6.getD 0 n5).out⟩],rfl,rfl,⟨rfl,rfl⟩,?_,?_,fun y _=>⟨rfl,rfl,rfl⟩,?_⟩
     ·show(0+1)*24<=1099511627776;decide
     ·show 0+1<=1099511627776;decide
     refine vc0 ?_;(repeat intro hh);refine⟨0+1,?_⟩;conv=>whnf
     refine kK ⟨⟨?_,?_⟩,?_,rfl,?_⟩
     ·show w.n6.length-(0+1)<w.n6.length-0;omega
     ·show 0+1<=w.n6.length;omega
     ·rw[C7 _ va8 va8];rfl
     ·show _=[Row.vec 76 7 n5 J6 (m0 w n (0+1)),Row.vec 83 5 K4 bE (mo w n (0+1))]
      rw[sO,a2c L7 hg]<;>rfl
   ·by_cases q:(AP w (v8 w)).line.n8.y9<=IntKind.i64.wrap (((AP w (v8 w)).n6.getD (Int.toNat ((0:Nat):Int)) n5).front+n)/\((AP w (v8 w)).n6.getD (Int.toNat ((0:Nat):Int)) n5).front<=IntKind.i64.wrap ((AP w (v8 w)).line.n8.y9+((AP w (v8 w)).n6.getD (Int.toNat ((0:Nat):Int)) n5).len)
    ·have q2:w.line.n8.y9<=IntKind.i64.wrap ((w.n6.getD 0 n5).front+n)/\(w.n6.getD 0 n5).front<=IntKind.i64.wrap (w.line.n8.y9+(w.n6.getD 0 n5).len):=q;have hB:(((w.n6.getD 0 n5).out || (true && (decide (w.line.n8.y9<=(w.n6.getD 0 n5).front+n) && decide ((w.n6.getD 0 n5).front<=w.line.n8.y9+(w.n6.getD 0 n5).len))))=true):=by
      rw[zA4 va5,zA4 va5];simp
     have sO:mo w n (0+1)=[⟨(w.n6.getD 0 n5).id,(w.n6.getD 0 n5).seq,f0.o6,f0.hit,true⟩]:=by
      show aH w n=_
      unfold aH;rw[if_pos hg,hF,gQ L7,lp];unfold Rv nZ;rw[hB]
     conv=>whnf
     refine vc0 ?_;(repeat intro hh);all_goals
      refine⟨⟨V5,5,K4,bE,mo w n 0⟩,[⟨(w.n6.getD 0 n5).id,(w.n6.getD 0 n5).seq,f0.o6,f0.hit,true⟩],rfl,rfl,⟨rfl,rfl⟩,?_,?_,fun y _=>⟨rfl,rfl,rfl⟩,?_⟩
      ·show(0+1)*24<=1099511627776;decide
      ·show 0+1<=1099511627776;decide
      refine vc0 ?_;(repeat intro hh);refine⟨0+1,?_⟩;conv=>whnf
      refine kK ⟨⟨?_,?_⟩,?_,rfl,?_⟩
      ·show w.n6.length-(0+1)<w.n6.length-0;omega
      ·show 0+1<=w.n6.length;omega
      ·rw[C7 _ va8 va8];rfl
      ·show _=[Row.vec 76 7 n5 J6 (m0 w n (0+1)),Row.vec 83 5 K4 bE (mo w n (0+1))]
       rw[sO,a2c L7 hg]<;>rfl
    ·have q2:¬(w.line.n8.y9<=IntKind.i64.wrap ((w.n6.getD 0 n5).front+n)/\(w.n6.getD 0 n5).front<=IntKind.i64.wrap (w.line.n8.y9+(w.n6.getD 0 n5).len)):=q;have hB:(((w.n6.getD 0 n5).out || (true && (decide (w.line.n8.y9<=(w.n6.getD 0 n5).front+n) && decide ((w.n6.getD 0 n5).front<=w.line.n8.y9+(w.n6.getD 0 n5).len))))=(w.n6.getD 0 n5).out):=by
      rw[<- Bool.decide_and,zA5 va5];simp
     have sO:mo w n (0+1)=[⟨(w.n6.getD 0 n5).id,(w.n6.getD 0 n5).seq,f0.o6,f0.hit,(w.n6.getD 0 n5).out⟩]:=by
      show aH w n=_
      unfold aH;rw[if_pos hg,hF,gQ L7,lp];unfold Rv nZ;rw[hB]
     conv=>whnf
     (repeat' ((first|refine va0 (fun hh=>?_) fun hh=>?_|refine kT ?_|fail)<;>first|exact hh.elim|conv=>whnf));all_goals
      refine⟨⟨V5,5,K4,bE,mo w n 0⟩,[⟨(w.n6.getD 0 n5).id,(w.n6.getD 0 n5).seq,f0.o6,f0.hit,(w.n6.getD 0 n5).out⟩],rfl,rfl,⟨rfl,rfl⟩,?_,?_,fun y _=>⟨rfl,rfl,rfl⟩,?_⟩
      ·show(0+1)*24<=1099511627776;decide
      ·show 0+1<=1099511627776;decide
      (repeat' ((first|refine va0 (fun hh=>?_) fun hh=>?_|refine kT ?_|fail)<;>first|exact hh.elim|conv=>whnf));refine⟨0+1,?_⟩;conv=>whnf
      refine kK ⟨⟨?_,?_⟩,?_,rfl,?_⟩
      ·show w.n6.length-(0+1)<w.n6.length-0;omega
      ·show 0+1<=w.n6.length;omega
      ·rw[C7 _ va8 va8];rfl
      ·show _=[Row.vec 76 7 n5 J6 (m0 w n (0+1)),Row.vec 83 5 K4 bE (mo w n (0+1))]
       rw[sO,a2c L7 hg]<;>rfl
  ·have st:=a1T (n:=n) L7 (fun q=>Uc q.2);rw[lp]at st;have so1:mo w n (k+1)=aH w n:=if_neg va5;have so0:mo w n k=aH w n:=if_neg Uc;have BZ:¬(([f0]:List km).getD (Int.toNat 0) Lh).id=((AP w (v8 w)).n6.getD (Int.toNat (k:Int)) n5).id:=by
    show ¬f0.id=(w.n6.getD k n5).id
    rw[JU,(g.th 0 Us).1,th.1];have:=(aj (d:=n4) g.tk.up (Nat.pos_of_ne_zero Uc) (by rw[<- g.lt];exact L7)).1;omega
   cases op
   ·have hB:(((w.n6.getD k n5).out || (false && (decide (w.line.n8.y9<=(w.n6.getD k n5).front+n) && decide ((w.n6.getD k n5).front<=w.line.n8.y9+(w.n6.getD k n5).len))))=(w.n6.getD k n5).out):=by simp
    have st:m0 w n (k+1)=m0 w n k++[⟨(w.n6.getD k n5).id,IntKind.i64.wrap ((w.n6.getD k n5).front+n),(w.n6.getD k n5).len,(w.n6.getD k n5).o6,(w.n6.getD k n5).due,(w.n6.getD k n5).seq,(w.n6.getD k n5).out⟩]:=by rw[st,wf];unfold nZ;rw[hB]
    conv=>whnf
    refine vc0 ?_;(repeat intro hh);all_goals
     refine⟨⟨B6,7,n5,J6,m0 w n k⟩,[⟨(w.n6.getD k n5).id,IntKind.i64.wrap ((w.n6.getD k n5).front+n),(w.n6.getD k n5).len,(w.n6.getD k n5).o6,(w.n6.getD k n5).due,(w.n6.getD k n5).seq,(w.n6.getD k n5).out⟩],rfl,rfl,⟨rfl,rfl⟩,?_,?_,fun y _=>⟨rfl,rfl,rfl⟩,?_⟩
     ·show((m0 w n k).length+1)*56<=_;omega
     ·show(m0 w n k).length+1<=_;omega
     refine vc0 ?_;(repeat intro hh);refine⟨k+1,?_⟩;conv=>whnf
     refine kK ⟨⟨?_,?_⟩,?_,rfl,?_⟩
     ·show w.n6.length-(k+1)<w.n6.length-k;omega
     ·show k+1<=w.n6.length;omega
     ·rw[C7 _ va5 va5];rfl
     ·show _=[Row.vec 76 7 n5 J6 (m0 w n (k+1)),Row.vec 83 5 K4 bE (mo w n (k+1))]
      rw[st,so1,so0]<;>rfl
   ·by_cases q:(AP w (v8 w)).line.n8.y9<=IntKind.i64.wrap (((AP w (v8 w)).n6.getD (Int.toNat (k:Int)) n5).front+n)/\((AP w (v8 w)).n6.getD (Int.toNat (k:Int)) n5).front<=IntKind.i64.wrap ((AP w (v8 w)).line.n8.y9+((AP w (v8 w)).n6.getD (Int.toNat (k:Int)) n5).len)
    ·have q2:w.line.n8.y9<=IntKind.i64.wrap ((w.n6.getD k n5).front+n)/\(w.n6.getD k n5).front<=IntKind.i64.wrap (w.line.n8.y9+(w.n6.getD k n5).len):=q;have hB:(((w.n6.getD k n5).out || (true && (decide (w.line.n8.y9<=(w.n6.getD k n5).front+n) && decide ((w.n6.getD k n5).front<=w.line.n8.y9+(w.n6.getD k n5).len))))=true):=by
      rw[zA4 va5,zA4 va5];simp
     have st:m0 w n (k+1)=m0 w n k++[⟨(w.n6.getD k n5).id,IntKind.i64.wrap ((w.n6.getD k n5).front+n),(w.n6.getD k n5).len,(w.n6.getD k n5).o6,(w.n6.getD k n5).due,(w.n6.getD k n5).seq,true⟩]:=by rw[st,wf];unfold nZ;rw[hB]
     conv=>whnf
     refine vc0 ?_;(repeat intro hh);all_goals
      refine⟨⟨B6,7,n5,J6,m0 w n k⟩,[⟨(w.n6.getD k n5).id,IntKind.i64.wrap ((w.n6.getD k n5).front+n),(w.n6.getD k n5).len,(w.n6.getD k n5).o6,(w.n6.getD k n5).due,(w.n6.getD k n5).seq,true⟩],rfl,rfl,⟨rfl,rfl⟩,?_,?_,fun y _=>⟨rfl,rfl,rfl⟩,?_⟩
      ·show((m0 w n k).length+1)*56<=_;omega
      ·show(m0 w n k).length+1<=_;omega
      refine vc0 ?_;(repeat intro hh);refine⟨k+1,?_⟩;conv=>whnf
      refine kK ⟨⟨?_,?_⟩,?_,rfl,?_⟩
      ·show w.n6.length-(k+1)<w.n6.length-k;omega
      ·show k+1<=w.n6.length;omega
      ·rw[C7 _ va5 va5];rfl
      ·show _=[Row.vec 76 7 n5 J6 (m0 w n (k+1)),Row.vec 83 5 K4 bE (mo w n (k+1))]
       rw[st,so1,so0]<;>rfl
    ·have q2:¬(w.line.n8.y9<=IntKind.i64.wrap ((w.n6.getD k n5).front+n)/\(w.n6.getD k n5).front<=IntKind.i64.wrap (w.line.n8.y9+(w.n6.getD k n5).len)):=q;have hB:(((w.n6.getD k n5).out || (true && (decide (w.line.n8.y9<=(w.n6.getD k n5).front+n) && decide ((w.n6.getD k n5).front<=w.line.n8.y9+(w.n6.getD k n5).len))))=(w.n6.getD k n5).out):=by
      rw[<- Bool.decide_and,zA5 va5];simp
     have st:m0 w n (k+1)=m0 w n k++[⟨(w.n6.getD k n5).id,IntKind.i64.wrap ((w.n6.getD k n5).front+n),(w.n6.getD k n5).len,(w.n6.getD k n5).o6,(w.n6.getD k n5).due,(w.n6.getD k n5).seq,(w.n6.getD k n5).out⟩]:=by rw[st,wf];unfold nZ;rw[hB]
     conv=>whnf
     (repeat' ((first|refine va0 (fun hh=>?_) fun hh=>?_|refine kT ?_|fail)<;>first|exact hh.elim|conv=>whnf));all_goals
      refine⟨⟨B6,7,n5,J6,m0 w n k⟩,[⟨(w.n6.getD k n5).id,IntKind.i64.wrap ((w.n6.getD k n5).front+n),(w.n6.getD k n5).len,(w.n6.getD k n5).o6,(w.n6.getD k n5).due,(w.n6.getD k n5).seq,(w.n6.getD k n5).out⟩],rfl,rfl,⟨rfl,rfl⟩,?_,?_,fun y _=>⟨rfl,rfl,rfl⟩,?_⟩
      ·show((m0 w n k).length+1)*56<=_;omega
      ·show(m0 w n k).length+1<=_;omega
      (repeat' ((first|refine va0 (fun hh=>?_) fun hh=>?_|refine kT ?_|fail)<;>first|exact hh.elim|conv=>whnf));refine⟨k+1,?_⟩;conv=>whnf
      refine kK ⟨⟨?_,?_⟩,?_,rfl,?_⟩
      ·show w.n6.length-(k+1)<w.n6.length-k;omega
      ·show k+1<=w.n6.length;omega
      ·rw[C7 _ va5 va5];rfl
      ·show _=[Row.vec 76 7 n5 J6 (m0 w n (k+1)),Row.vec 83 5 K4 bE (mo w n (k+1))]
       rw[st,so1,so0]<;>rfl
 ·have h:¬(k:Int)<(w.n6.length:Nat):=zA0 h;have ek:k=w.n6.length:=by omega
  subst ek;have so1:mo w n w.n6.length=aH w n:=if_neg va5;rw[a2q,so1];conv=>whnf
  refine vc0 ?_;(repeat intro hh);refine⟨[11,12],va4,?_⟩;conv=>whnf
  exact⟨rfl,rfl⟩

end Go.Proofs.Tryz.My
