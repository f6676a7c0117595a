/- Helper lemmas. -/
import Derived.Test.YtacahppoighegaaGreatMzWxE
set_option linter.unusedVariables false
set_option linter.unusedSimpArgs false
set_option maxRecDepth 100000
set_option maxHeartbeats 0
namespace Go.Proofs.Tryz.My
open Go Go.Ev
abbrev oU(w:n8):AV := .agg ((eW w).set 25 (.own 1))
theorem Gk(w:n8)(g:C9 w)(hI:A4 w.o6.m0.step)(n:Int)(h:bz w n=0)(hg:¬I9 (s7 w)=true):va7 46 [X0 w,i64 n] [fN w.k8] (.tup [oU (gz w n),.agg [i64 0,i64 ((s7 w).count+1),.own 2]]) [.none,fN (gz w n).k8,.vec 88 5 aa fi (cj w n)]:=by
 obtain⟨h1,h2⟩:=cn h;obtain⟨gt,sm⟩:=V5 g;obtain⟨k1,k2,k3,k4,k5⟩:=sm;have DY:w.k8.length<=32:=by rw[g.lt];exact g.tk.ln
 have ct:=g.tk.ct;have bl:=D3.1 g.tk.bl;rw[g.bl]at bl;have wa:IntKind.i64.wrap (w.line.m0.step-w.line.m0.v8)=w.line.m0.step-w.line.m0.v8:=z5 _ va5 va5;have wb:IntKind.i64.wrap (w.line.m0.step+w.line.m0.v8)=w.line.m0.step+w.line.m0.v8:=z5 _ va5 va5;have c1:=N6 n (IntKind.i64.wrap (w.line.m0.step-w.line.m0.v8)) (IntKind.i64.wrap (w.line.m0.step+w.line.m0.v8));have e1:(decide (IntKind.i64.wrap (w.line.m0.step-w.line.m0.v8)<=n) && decide (n<=IntKind.i64.wrap (w.line.m0.step+w.line.m0.v8)))=true:=by rw[wa,wb,zA4 h1.1,zA4 h1.2];rfl
 rw[e1]at c1;have c2:=yx w va5 g.tk hI;have YS:A4 (s7 w).m0.step:=by rw[k1];exact hI
 have c3:=Dt (s7 w) YS (C7.2 gt);have c4:=ri (s7 w) YS (C7.2 gt) va5;have af:aW (s7 w)=[]:=by unfold aW;rw[if_neg hg]
 have eo:N5 (s7 w) ((s7 w).count+1)=N5 (s7 w) (w.o6.count+1):=by rw[k2]
 rw[af]at c4;rw[eo]at c3;have so:∀ k,dP w n k=[]:=fun k=>by unfold dP cj;rw[if_neg hg];split<;>rfl
 generalize bf:N5 (s7 w) (w.o6.count+1)=op at c3;refine vb5 Tryz.func46 ?_;(repeat' ((first|refine va0 (fun hh=>?_) fun hh=>?_|refine kR ?_|((try refine Or.inl ?_;conv=>whnf);(try refine⟨false,?_⟩;conv=>whnf);refine⟨_,by exact c1,?_⟩)|fail)<;>first|exact hh.elim|conv=>whnf))
 ((first|refine Or.inl ?_|skip);(conv=>whnf);refine⟨true,?_⟩;(conv=>whnf);refine⟨_,c2,?_⟩;(conv=>whnf))
 refine vc6 ?_;intros;refine Or.inr ⟨Nat,[13],[],[(11,⟨B7,67,7,l5,B4⟩),(12,⟨dO,88,5,aa,fi⟩)],fun k=>[i64 k],fun _=>[],fun k=>[.vec 67 7 l5 B4 (L5 w n k),.vec 88 5 aa fi (dP w n k)],fun k=>w.k8.length-k,fun k=>k<=w.k8.length,vb3 ?_⟩;refine⟨⟨0,?_⟩,?_⟩
 ·(conv=>whnf);refine kK ⟨zB4 _,rfl,rfl,?_⟩;show _=[Row.vec 67 7 l5 B4 (L5 w n 0),Row.vec 88 5 aa fi (dP w n 0)]
  unfold L5;rw[if_neg hg,so]<;>rfl
 intro k hk;conv=>whnf
 refine⟨fun h=>?_,fun h=>?_⟩
 ·have h:(k:Int)<(w.k8.length:Nat):=zA1 h;have L4:k<w.k8.length:=by omega
  have fr:=kr g L4;have th:=g.th k L4;have wf:IntKind.i64.wrap ((w.k8.getD k l5).front+n)=(w.k8.getD k l5).front+n:=z5 _ va5 va5;have st:=yd (n:=n) L4 (fun q=>hg q.1);rw[bf]at st;have ll:=Di w n k;have hkI:(k:Int)<((U0 w (s7 w)).k8.length:Nat):=h;have wgl:IntKind.i64.wrap (w.line.m0.w9+(w.k8.getD k l5).len)=w.line.m0.w9+(w.k8.getD k l5).len:=z5 _ (by have:=th.2.1;omega) (by have:=th.2.1;omega);cases op
  ·have hB:((w.k8.getD k l5).out || (false && (decide (w.line.m0.w9<=(w.k8.getD k l5).front+n) && decide ((w.k8.getD k l5).front<=w.line.m0.w9+(w.k8.getD k l5).len))))=(w.k8.getD k l5).out:=by simp
   have st:L5 w n (k+1)=L5 w n k++[⟨(w.k8.getD k l5).id,IntKind.i64.wrap ((w.k8.getD k l5).front+n),(w.k8.getD k l5).len,(w.k8.getD k l5).o5,(w.k8.getD k l5).due,(w.k8.getD k l5).seq,(w.k8.getD k l5).out⟩]:=by rw[st,wf];unfold dy;rw[hB]
   conv=>whnf
   refine vf2 ?_;intros;refine⟨⟨B7,7,l5,B4,L5 w n k⟩,[⟨(w.k8.getD k l5).id,IntKind.i64.wrap ((w.k8.getD k l5).front+n),(w.k8.getD k l5).len,(w.k8.getD k l5).o5,(w.k8.getD k l5).due,(w.k8.getD k l5).seq,(w.k8.getD k l5).out⟩],rfl,rfl,⟨rfl,rfl⟩,?_,?_,fun y _=>⟨rfl,rfl,rfl⟩,?_⟩
   ·show((L5 w n k).length+1)*56<=_;omega
   ·show(L5 w n k).length+1<=_;omega
   refine vf2 ?_;intros;refine⟨k+1,vb3 ?_⟩;refine kK ⟨⟨?_,?_⟩,?_,rfl,?_⟩
   ·show w.k8.length-(k+1)<w.k8.length-k;omega
   ·show k+1<=w.k8.length;omega
   ·rw[z5 _ va5 va5];rfl
   ·show _=[Row.vec 67 7 l5 B4 (L5 w n (k+1)),Row.vec 88 5 aa fi (dP w n (k+1))]
    rw[st,so (k+1),so k]<;>rfl
  ·by_cases q:(U0 w (s7 w)).line.m0.w9<=IntKind.i64.wrap (((U0 w (s7 w)).k8.getD (Int.toNat (k:Int)) l5).front+n)/\((U0 w (s7 w)).k8.getD (Int.toNat (k:Int)) l5).front<=IntKind.i64.wrap ((U0 w (s7 w)).line.m0.w9+((U0 w (s7 w)).k8.getD (Int.toNat (k:Int)) l5).len)
   ·have q2:w.line.m0.w9<=IntKind.i64.wrap ((w.k8.getD k l5).front+n)/\(w.k8.getD k l5).front<=IntKind.i64.wrap (w.line.m0.w9+(w.k8.getD k l5).len):=q;have hB:((w.k8.getD k l5).out || (true && (decide (w.line.m0.w9<=(w.k8.getD k l5).front+n) && decide ((w.k8.getD k l5).front<=w.line.m0.w9+(w.k8.getD k l5).len))))=true:=by
     rw[zA4 va5,zA4 va5];simp
    have st:L5 w n (k+1)=L5 w n k++[⟨(w.k8.getD k l5).id,IntKind.i64.wrap ((w.k8.getD k l5).front+n),(w.k8.getD k l5).len,(w.k8.getD k l5).o5,(w.k8.getD k l5).due,(w.k8.getD k l5).seq,true⟩]:=by rw[st,wf];unfold dy;rw[hB]
    conv=>whnf
    refine vf2 ?_;intros;refine⟨⟨B7,7,l5,B4,L5 w n k⟩,[⟨(w.k8.getD k l5).id,IntKind.i64.wrap ((w.k8.getD k l5).front+n),(w.k8.getD k l5).len,(w.k8.getD k l5).o5,(w.k8.getD k l5).due,(w.k8.getD k l5).seq,true⟩],rfl,rfl,⟨rfl,rfl⟩,?_,?_,fun y _=>⟨rfl,rfl,rfl⟩,?_⟩
    ·show((L5 w n k).length+1)*56<=_;omega
    ·show(L5 w n k).length+1<=_;omega
    refine vf2 ?_;intros;refine⟨k+1,vb3 ?_⟩;refine kK ⟨⟨?_,?_⟩,?_,rfl,?_⟩
    ·show w.k8.length-(k+1)<w.k8.length-k;omega
    ·show k+1<=w.k8.length;omega
    ·rw[z5 _ va5 va5];rfl
    ·show _=[Row.vec 67 7 l5 B4 (L5 w n (k+1)),Row.vec 88 5 aa fi (dP w n (k+1))]
     rw[st,so (k+1),so k]<;>rfl
   ·have q2:¬(w.line.m0.w9<=IntKind.i64.wrap ((w.k8.getD k l5).front+n)/\(w.k8.getD k l5).front<=IntKind.i64.wrap (w.line.m0.w9+(w.k8.getD k l5).len)):=q;have hB:((w.k8.getD k l5).out || (true && (decide (w.line.m0.w9<=(w.k8.getD k l5).front+n) && decide ((w.k8.getD k l5).front<=w.line.m0.w9+(w.k8.getD k l5).len))))=(w.k8.getD k l5).out:=by
     rw[<- Bool.decide_and,zA5 va5];simp
    have st:L5 w n (k+1)=L5 w n k++[⟨(w.k8.getD k l5).id,IntKind.i64.wrap ((w.k8.getD k l5).front+n),(w.k8.getD k l5).len,(w.k8.getD k l5).o5,(w.k8.getD k l5).due,(w.k8.getD k l5).seq,(w.k8.getD k l5).out⟩]:=by rw[st,wf];unfold dy;rw[hB]
    conv=>whnf
    refine vf3 ?_ ?_<;>intros
    all_goals
     refine⟨⟨B7,7,l5,B4,L5 w n k⟩,[⟨(w.k8.getD k l5).id,IntKind.i64.wrap ((w.k8.getD k l5).front+n),(w.k8.getD k l5).len,(w.k8.getD k l5).o5,(w.k8.getD k l5).due,(w.k8.getD k l5).seq,(w.k8.getD k l5).out⟩],rfl,rfl,⟨rfl,rfl⟩,?_,?_,fun y _=>⟨rfl,rfl,rfl⟩,?_⟩
     ·show((L5 w n k).length+1)*56<=_;omega
     ·show(L5 w n k).length+1<=_;omega
     refine vf2 ?_;intros;refine⟨k+1,vb3 ?_⟩;refine kK ⟨⟨?_,?_⟩,?_,rfl,?_⟩
     ·show w.k8.length-(k+1)<w.k8.length-k;omega
     ·show k+1<=w.k8.length;omega
     ·rw[z5 _ va5 va5];rfl
     ·show _=[Row.vec 67 7 l5 B4 (L5 w n (k+1)),Row.vec 88 5 aa fi (dP w n (k+1))]
      rw[st,so (k+1),so k]<;>rfl
 ·have h:¬(k:Int)<(w.k8.length:Nat):=zA0 h;have ek:k=w.k8.length:=by omega
  subst ek;rw[Dj,so];have eO:cj w n=[]:=by unfold cj;rw[if_neg hg]
  rw[eO];conv=>whnf
  refine vf2 ?_;intros;refine⟨[11,12],va4,vb3 ?_⟩;exact⟨rfl,rfl⟩
theorem DJ(w:n8)(g:C9 w)(hI:A4 w.o6.m0.step)(n:Int)(h:bz w n=0)(hg:I9 (s7 w)=true):va7 46 [X0 w,i64 n] [fN w.k8] (.tup [oU (gz w n),.agg [i64 0,i64 ((s7 w).count+1),.own 2]]) [.none,fN (gz w n).k8,.vec 88 5 aa fi (cj w n)]:=by
 obtain⟨h1,h2⟩:=cn h;obtain⟨gt,sm⟩:=V5 g;obtain⟨k1,k2,k3,k4,k5⟩:=sm;have DY:w.k8.length<=32:=by rw[g.lt];exact g.tk.ln
 have ct:=g.tk.ct;have bl:=D3.1 g.tk.bl;rw[g.bl]at bl;have wa:IntKind.i64.wrap (w.line.m0.step-w.line.m0.v8)=w.line.m0.step-w.line.m0.v8:=z5 _ va5 va5;have wb:IntKind.i64.wrap (w.line.m0.step+w.line.m0.v8)=w.line.m0.step+w.line.m0.v8:=z5 _ va5 va5;have c1:=N6 n (IntKind.i64.wrap (w.line.m0.step-w.line.m0.v8)) (IntKind.i64.wrap (w.line.m0.step+w.line.m0.v8));have e1:(decide (IntKind.i64.wrap (w.line.m0.step-w.line.m0.v8)<=n) && decide (n<=IntKind.i64.wrap (w.line.m0.step+w.line.m0.v8)))=true:=by rw[wa,wb,zA4 h1.1,zA4 h1.2];rfl
 rw[e1]at c1;have c2:=yx w va5 g.tk hI;have YS:A4 (s7 w).m0.step:=by rw[k1];exact hI
 have c3:=Dt (s7 w) YS (C7.2 gt);have c4:=ri (s7 w) YS (C7.2 gt) va5;have af:aW (s7 w)=[bH ((hits (s7 w)).getD 0 l9)]:=by unfold aW;rw[if_pos hg]
 have eo:N5 (s7 w) ((s7 w).count+1)=N5 (s7 w) (w.o6.count+1):=by rw[k2]
 rw[af]at c4;rw[eo]at c3;have QF:0<w.k8.length:=by
  unfold I9 at hg;have:=(zA1 hg).1;rw[g.lt,<- k4];exact this
 have Ch:(bH ((hits (s7 w)).getD 0 l9)).id=(w.k8.getD 0 l5).id:=by
  show((hits (s7 w)).getD 0 l9).id=_
  rw[Y5 _ _ (by rw[k4,<- g.lt];exact QF),We,(k5 0).1,(g.th 0 QF).1]
 generalize hF:bH ((hits (s7 w)).getD 0 l9)=f0 at c4 Ch;have hlen:((([f0]:List Z9).length:Nat):Int)=1:=rfl;generalize bf:N5 (s7 w) (w.o6.count+1)=op at c3;refine vb5 Tryz.func46 ?_;(repeat' ((first|refine va0 (fun hh=>?_) fun hh=>?_|refine kR ?_|((try refine Or.inl ?_;conv=>whnf);(try refine⟨false,?_⟩;conv=>whnf);refine⟨_,by exact c1,?_⟩)|fail)<;>first|exact hh.elim|conv=>whnf))
 ((first|refine Or.inl ?_|skip);(conv=>whnf);refine⟨true,?_⟩;(conv=>whnf);refine⟨_,c2,?_⟩;(conv=>whnf))
 refine vc6 ?_;intros;refine Or.inr ⟨Nat,[13],[],[(11,⟨B7,67,7,l5,B4⟩),(12,⟨dO,88,5,aa,fi⟩)],fun k=>[i64 k],fun _=>[],fun k=>[.vec 67 7 l5 B4 (L5 w n k),.vec 88 5 aa fi (dP w n k)],fun k=>w.k8.length-k,fun k=>k<=w.k8.length,vb3 ?_⟩;refine⟨⟨0,?_⟩,?_⟩
 ·(conv=>whnf);refine kK ⟨zB4 _,rfl,rfl,?_⟩;show _=[Row.vec 67 7 l5 B4 (L5 w n 0),Row.vec 88 5 aa fi (dP w n 0)]
  unfold L5;rw[if_pos hg]<;>rfl
 intro k hk;conv=>whnf
 refine⟨fun h=>?_,fun h=>?_⟩
 ·have h:(k:Int)<(w.k8.length:Nat):=zA1 h;have L4:k<w.k8.length:=by omega
  have fr:=kr g L4;have th:=g.th k L4;have wf:IntKind.i64.wrap ((w.k8.getD k l5).front+n)=(w.k8.getD k l5).front+n:=z5 _ va5 va5;have ll:=Di w n k;have hkI:(k:Int)<((U0 w (s7 w)).k8.length:Nat):=h;have wgl:IntKind.i64.wrap (w.line.m0.w9+(w.k8.getD k l5).len)=w.line.m0.w9+(w.k8.getD k l5).len:=z5 _ (by have:=th.2.1;omega) (by have:=th.2.1;omega);by_cases LW:k=0
  ·subst LW;have DS:(([f0]:List Z9).getD (Int.toNat 0) aP).id=((U0 w (s7 w)).k8.getD (Int.toNat ((0:Nat):Int)) l5).id:=Ch;cases op
   ·have hB:(((w.k8.getD 0 l5).out || (false && (decide (w.line.m0.w9<=(w.k8.getD 0 l5).front+n) && decide ((w.k8.getD 0 l5).front<=w.line.m0.w9+(w.k8.getD 0 l5).len))))=(w.k8.getD 0 l5).out):=by simp
    have sO:dP w n (0+1)=[⟨(w.k8.getD 0 l5).id,(w.k8.getD 0 l5).seq,f0.o5,f0.hit,(w.k8.getD 0 l5).out⟩]:=by
     show cj w n=_
     unfold cj;rw[if_pos hg,hF,cu L4,bf];unfold Od dy;rw[hB]
    conv=>whnf
    refine vf2 ?_;intros;all_goals
     refine⟨⟨dO,5,aa,fi,dP w n 0⟩,[⟨(w.k8.getD 0 l5).id,(w.k8.getD 0 l5).seq,f0.o5,f0.hit,(w.k8.getD 0 l5).out⟩],rfl,rfl,⟨rfl,rfl⟩,?_,?_,fun y _=>⟨rfl,rfl,rfl⟩,?_⟩
     ·show(0+1)*24<=1099511627776;decide
     ·show 0+1<=1099511627776;decide
     refine vf2 ?_;intros;refine⟨0+1,vb3 ?_⟩;refine kK ⟨⟨?_,?_⟩,?_,rfl,?_⟩
     ·show w.k8.length-(0+1)<w.k8.length-0;omega
     ·show 0+1<=w.k8.length;omega
     ·rw[z5 _ va8 va8];rfl
     ·show _=[Row.vec 67 7 l5 B4 (L5 w n (0+1)),Row.vec 88 5 aa fi (dP w n (0+1))]
      rw[sO,AL L4 hg]<;>rfl
   ·by_cases q:(U0 w (s7 w)).line.m0.w9<=IntKind.i64.wrap (((U0 w (s7 w)).k8.getD (Int.toNat ((0:Nat):Int)) l5).front+n)/\((U0 w (s7 w)).k8.getD (Int.toNat ((0:Nat):Int)) l5).front<=IntKind.i64.wrap ((U0 w (s7 w)).line.m0.w9+((U0 w (s7 w)).k8.getD (Int.toNat ((0:Nat):Int)) l5).len)
    ·have q2:w.line.m0.w9<=IntKind.i64.wrap ((w.k8.getD 0 l5).front+n)/\(w.k8.getD 0 l5).front<=IntKind.i64.wrap (w.line.m0.w9+(w.k8.getD 0 l5).len):=q;have hB:(((w.k8.getD 0 l5).out || (true && (decide (w.line.m0.w9<=(w.k8.getD 0 l5).front+n) && decide ((w.k8.getD 0 l5).front<=w.line.m0.w9+(w.k8.getD 0 l5).len))))=true):=by
      rw[zA4 va5,zA4 va5];simp
     have sO:dP w n (0+1)=[⟨(w.k8.getD 0 l5).id,(w.k8.getD 0 l5).seq,f0.o5,f0.hit,true⟩]:=by
      show cj w n=_
      unfold cj;rw[if_pos hg,hF,cu L4,bf];unfold Od dy;rw[hB]
     conv=>whnf
     refine vf2 ?_;intros;all_goals
      refine⟨⟨dO,5,aa,fi,dP w n 0⟩,[⟨(w.k8.getD 0 l5).id,(w.k8.getD 0 l5).seq,f0.o5,f0.hit,true⟩],rfl,rfl,⟨rfl,rfl⟩,?_,?_,fun y _=>⟨rfl,rfl,rfl⟩,?_⟩
      ·show(0+1)*24<=1099511627776;decide
      ·show 0+1<=1099511627776;decide
      refine vf2 ?_;intros;refine⟨0+1,vb3 ?_⟩;refine kK ⟨⟨?_,?_⟩,?_,rfl,?_⟩
      ·show w.k8.length-(0+1)<w.k8.length-0;omega
      ·show 0+1<=w.k8.length;omega
      ·rw[z5 _ va8 va8];rfl
      ·show _=[Row.vec 67 7 l5 B4 (L5 w n (0+1)),Row.vec 88 5 aa fi (dP w n (0+1))]
       rw[sO,AL L4 hg]<;>rfl
    ·have q2:¬(w.line.m0.w9<=IntKind.i64.wrap ((w.k8.getD 0 l5).front+n)/\(w.k8.getD 0 l5).front<=IntKind.i64.wrap (w.line.m0.w9+(w.k8.getD 0 l5).len)):=q;have hB:(((w.k8.getD 0 l5).out || (true && (decide (w.line.m0.w9<=(w.k8.getD 0 l5).front+n) && decide ((w.k8.getD 0 l5).front<=w.line.m0.w9+(w.k8.getD 0 l5).len))))=(w.k8.getD 0 l5).out):=by
      rw[<- Bool.decide_and,zA5 va5];simp
     have sO:dP w n (0+1)=[⟨(w.k8.getD 0 l5).id,(w.k8.getD 0 l5).seq,f0.o5,f0.hit,(w.k8.getD 0 l5).out⟩]:=by
      show cj w n=_
      unfold cj;rw[if_pos hg,hF,cu L4,bf];unfold Od dy;rw[hB]
     conv=>whnf
     refine vf3 ?_ ?_<;>intros
     all_goals
      refine⟨⟨dO,5,aa,fi,dP w n 0⟩,[⟨(w.k8.getD 0 l5).id,(w.k8.getD 0 l5).seq,f0.o5,f0.hit,(w.k8.getD 0 l5).out⟩],rfl,rfl,⟨rfl,rfl⟩,?_,?_,fun y _=>⟨rfl,rfl,rfl⟩,?_⟩
      ·show(0+1)*24<=1099511627776;decide
      ·show 0+1<=1099511627776;decide
      refine vf2 ?_;intros;refine⟨0+1,vb3 ?_⟩;refine kK ⟨⟨?_,?_⟩,?_,rfl,?_⟩
      ·show w.k8.length-(0+1)<w.k8.length-0;omega
      ·show 0+1<=w.k8.length;omega
      ·rw[z5 _ va8 va8];rfl
      ·show _=[Row.vec 67 7 l5 B4 (L5 w n (0+1)),Row.vec 88 5 aa fi (dP w n (0+1))]
       rw[sO,AL L4 hg]<;>rfl
  ·have st:=yd (n:=n) L4 (fun q=>LW q.2);rw[bf]at st;have YT:dP w n (k+1)=cj w n:=if_neg va5;have so0:dP w n k=cj w n:=if_neg LW;have DS:¬(([f0]:List Z9).getD (Int.toNat 0) aP).id=((U0 w (s7 w)).k8.getD (Int.toNat (k:Int)) l5).id:=by
    show ¬f0.id=(w.k8.getD k l5).id
    rw[Ch,(g.th 0 QF).1,th.1];have:=(ck (d:=l9) g.tk.up (Nat.pos_of_ne_zero LW) (by rw[<- g.lt];exact L4)).1;omega
   cases op
   ·have hB:(((w.k8.getD k l5).out || (false && (decide (w.line.m0.w9<=(w.k8.getD k l5).front+n) && decide ((w.k8.getD k l5).front<=w.line.m0.w9+(w.k8.getD k l5).len))))=(w.k8.getD k l5).out):=by simp
    have st:L5 w n (k+1)=L5 w n k++[⟨(w.k8.getD k l5).id,IntKind.i64.wrap ((w.k8.getD k l5).front+n),(w.k8.getD k l5).len,(w.k8.getD k l5).o5,(w.k8.getD k l5).due,(w.k8.getD k l5).seq,(w.k8.getD k l5).out⟩]:=by rw[st,wf];unfold dy;rw[hB]
    conv=>whnf
    refine vf2 ?_;intros;all_goals
     refine⟨⟨B7,7,l5,B4,L5 w n k⟩,[⟨(w.k8.getD k l5).id,IntKind.i64.wrap ((w.k8.getD k l5).front+n),(w.k8.getD k l5).len,(w.k8.getD k l5).o5,(w.k8.getD k l5).due,(w.k8.getD k l5).seq,(w.k8.getD k l5).out⟩],rfl,rfl,⟨rfl,rfl⟩,?_,?_,fun y _=>⟨rfl,rfl,rfl⟩,?_⟩
     ·show((L5 w n k).length+1)*56<=_;omega
     ·show(L5 w n k).length+1<=_;omega
     refine vf2 ?_;intros;refine⟨k+1,vb3 ?_⟩;refine kK ⟨⟨?_,?_⟩,?_,rfl,?_⟩
     ·show w.k8.length-(k+1)<w.k8.length-k;omega
     ·show k+1<=w.k8.length;omega
     ·rw[z5 _ va5 va5];rfl
     ·show _=[Row.vec 67 7 l5 B4 (L5 w n (k+1)),Row.vec 88 5 aa fi (dP w n (k+1))]
      rw[st,YT,so0]<;>rfl
   ·by_cases q:(U0 w (s7 w)).line.m0.w9<=IntKind.i64.wrap (((U0 w (s7 w)).k8.getD (Int.toNat (k:Int)) l5).front+n)/\((U0 w (s7 w)).k8.getD (Int.toNat (k:Int)) l5).front<=IntKind.i64.wrap ((U0 w (s7 w)).line.m0.w9+((U0 w (s7 w)).k8.getD (Int.toNat (k:Int)) l5).len)
    ·have q2:w.line.m0.w9<=IntKind.i64.wrap ((w.k8.getD k l5).front+n)/\(w.k8.getD k l5).front<=IntKind.i64.wrap (w.line.m0.w9+(w.k8.getD k l5).len):=q;have hB:(((w.k8.getD k l5).out || (true && (decide (w.line.m0.w9<=(w.k8.getD k l5).front+n) && decide ((w.k8.getD k l5).front<=w.line.m0.w9+(w.k8.getD k l5).len))))=true):=by
      rw[zA4 va5,zA4 va5];simp
     have st:L5 w n (k+1)=L5 w n k++[⟨(w.k8.getD k l5).id,IntKind.i64.wrap ((w.k8.getD k l5).front+n),(w.k8.getD k l5).len,(w.k8.getD k l5).o5,(w.k8.getD k l5).due,(w.k8.getD k l5).seq,true⟩]:=by rw[st,wf];unfold dy;rw[hB]
     conv=>whnf
     refine vf2 ?_;intros;all_goals
      refine⟨⟨B7,7,l5,B4,L5 w n k⟩,[⟨(w.k8.getD k l5).id,IntKind.i64.wrap ((w.k8.getD k l5).front+n),(w.k8.getD k l5).len,(w.k8.getD k l5).o5,(w.k8.getD k l5).due,(w.k8.getD k l5).seq,true⟩],rfl,rfl,⟨rfl,rfl⟩,?_,?_,fun y _=>⟨rfl,rfl,rfl⟩,?_⟩
      ·show((L5 w n k).length+1)*56<=_;omega
      ·show(L5 w n k).length+1<=_;omega
      refine vf2 ?_;intros;refine⟨k+1,vb3 ?_⟩;refine kK ⟨⟨?_,?_⟩,?_,rfl,?_⟩
      ·show w.k8.length-(k+1)<w.k8.length-k;omega
      ·show k+1<=w.k8.length;omega
      ·rw[z5 _ va5 va5];rfl
      ·show _=[Row.vec 67 7 l5 B4 (L5 w n (k+1)),Row.vec 88 5 aa fi (dP w n (k+1))]
       rw[st,YT,so0]<;>rfl
    ·have q2:¬(w.line.m0.w9<=IntKind.i64.wrap ((w.k8.getD k l5).front+n)/\(w.k8.getD k l5).front<=IntKind.i64.wrap (w.line.m0.w9+(w.k8.getD k l5).len)):=q;have hB:(((w.k8.getD k l5).out || (true && (decide (w.line.m0.w9<=(w.k8.getD k l5).front+n) && decide ((w.k8.getD k l5).front<=w.line.m0.w9+(w.k8.getD k l5).len))))=(w.k8.getD k l5).out):=by
      rw[<- Bool.decide_and,zA5 va5];simp
     have st:L5 w n (k+1)=L5 w n k++[⟨(w.k8.getD k l5).id,IntKind.i64.wrap ((w.k8.getD k l5).front+n),(w.k8.getD k l5).len,(w.k8.getD k l5).o5,(w.k8.getD k l5).due,(w.k8.getD k l5).seq,(w.k8.getD k l5).out⟩]:=by rw[st,wf];unfold dy;rw[hB]
     conv=>whnf
     refine vf3 ?_ ?_<;>intros
     all_goals
      refine⟨⟨B7,7,l5,B4,L5 w n k⟩,[⟨(w.k8.getD k l5).id,IntKind.i64.wrap ((w.k8.getD k l5).front+n),(w.k8.getD k l5).len,(w.k8.getD k l5).o5,(w.k8.getD k l5).due,(w.k8.getD k l5).seq,(w.k8.getD k l5).out⟩],rfl,rfl,⟨rfl,rfl⟩,?_,?_,fun y _=>⟨rfl,rfl,rfl⟩,?_⟩
      ·show((L5 w n k).length+1)*56<=_;omega
      ·show(L5 w n k).length+1<=_;omega
      refine vf2 ?_;intros;refine⟨k+1,vb3 ?_⟩;refine kK ⟨⟨?_,?_⟩,?_,rfl,?_⟩
      ·show w.k8.length-(k+1)<w.k8.length-k;omega
      ·show k+1<=w.k8.length;omega
      ·rw[z5 _ va5 va5];rfl
      ·show _=[Row.vec 67 7 l5 B4 (L5 w n (k+1)),Row.vec 88 5 aa fi (dP w n (k+1))]
       rw[st,YT,so0]<;>rfl
 ·have h:¬(k:Int)<(w.k8.length:Nat):=zA0 h;have ek:k=w.k8.length:=by omega
  subst ek;have YT:dP w n w.k8.length=cj w n:=if_neg va5;rw[Dj,YT];conv=>whnf
  refine vf2 ?_;intros;refine⟨[11,12],va4,vb3 ?_⟩;exact⟨rfl,rfl⟩
theorem DK(w:n8)(g:C9 w)(hI:A4 w.o6.m0.step)(kind k7 a7 n n4:Int)(j9:v7)(o8 a8:List Int)(ht:o8.length<2^40)(hn:a8.length<2^40)(h:¬mM w ⟨kind,k7,a7,n,n4,j9,o8,a8⟩=0) :
  va7 47 [X0 w,I2 kind k7 a7 n n4 j9 o8 a8] [fN w.k8] (.tup [X0 w,lY (mM w ⟨kind,k7,a7,n,n4,j9,o8,a8⟩)]) [fN w.k8]:=by
 unfold mM at h ⊢;simp only[]at h ⊢;have c0:=N6 n 0 w.line.m0.len;have c1:=N9 o8 ht;have c2:=xZ o8 a8 ht hn;by_cases hN:0<=n/\n<=w.line.m0.len
 ·rw[zA4 hN.1,zA4 hN.2]at c0;by_cases ho:fg o8 a8
  ·rw[if_neg (fun q=>q ⟨ho,hN⟩)]at h ⊢;obtain⟨h1,h2,h3⟩:=ho;rw[h1]at c1;rw[zA4 h2,h3]at c2;by_cases ha:w.drift.alarm=true
   ·rw[if_pos ha];refine pW Tryz.func47 ⟨va4,?_⟩;conv=>whnf
    try exact va1
   ·rw[if_neg ha]at h ⊢;have ha:w.drift.alarm=false:=by simpa using ha
    have c3:=wJ w.o6 hI (C7.2 g.tk) h;generalize jA w.o6=e at h c3;refine pW Tryz.func47 ⟨va4,?_⟩;conv=>whnf
    try exact va1
  ·rw[if_pos (fun q=>ho q.1)];cases h1:H8 o8 with
   | false =>
    rw[h1]at c1;refine pW Tryz.func47 ⟨va4,?_⟩;conv=>whnf
    try exact va1
   | true =>
    rw[h1]at c1;have e:(decide (o8.length=a8.length) && !a8.any cU)=false:=by
     cases q:(decide (o8.length=a8.length) && !a8.any cU)with
     | false=>rfl
     | true =>
      rw[zA2,zA3]at q;exact absurd ⟨h1,q.1,by simpa using q.2⟩ ho
    rw[e]at c2;refine pW Tryz.func47 ⟨va4,?_⟩;conv=>whnf
    try exact va1
 ·rw[if_pos (fun q=>hN q.2)];have e1:(decide (0<=n) && decide (n<=w.line.m0.len))=false:=by rw[<- Bool.decide_and,zA5 hN]
  rw[e1]at c0;refine pW Tryz.func47 ⟨va4,?_⟩;conv=>whnf
  try exact va1
theorem Gl(w:n8)(g:C9 w)(hb:C8 w.n6)(hI:A4 w.o6.m0.step)(hA:A4 w.line.al.1/\A4 w.line.al.2)(hG:∀ i,IG (w.n6.j8.getD i p9).j9)(kind k7 a7 n n4:Int)(j9:v7)(o8 a8:List Int)(h:mM w ⟨kind,k7,a7,n,n4,j9,o8,a8⟩=0) :
  va7 47 [X0 w,I2 kind k7 a7 n n4 j9 o8 a8] [fN w.k8] (.tup [oU (jB w ⟨kind,k7,a7,n,n4,j9,o8,a8⟩),.agg [i64 0,i64 w.o6.next,.nils]]) [.none,fN (jB w ⟨kind,k7,a7,n,n4,j9,o8,a8⟩).k8]:=by
 obtain⟨ho,h2,h3,h4⟩:=lf h;have ho:fg o8 a8:=ho;have h2:0<=n/\n<=w.line.m0.len:=h2;have yK:(K8 o8 a8).length<2^20:=by rw[jc];have:=M3 ho.1;omega
 have ji:=M3 ho.1;have c6:=JM o8 a8 ho.2.1 va5 (uf ho.1) ho.2.2;have c0:=N6 n 0 w.line.m0.len;have c1:=N9 o8 va5;have c2:=xZ o8 a8 va5 (by rw[<- ho.2.1];omega);rw[zA4 h2.1,zA4 h2.2]at c0;rw[ho.1]at c1;rw[zA4 ho.2.1,ho.2.2]at c2;have c3:=Ku w.o6 hI (C7.2 g.tk) h4;have w1:IntKind.i64.wrap (w.o6.count+w.line.lag)=w.o6.count+w.line.lag:=z5 _ (by have:=g.tk.ct;have:=mN g.ln;omega) (by have:=g.tk.ct;have:=mN g.ln;omega);have DY:w.k8.length<=32:=by rw[g.lt];exact g.tk.ln
 by_cases hr:wG w ⟨kind,k7,a7,n,n4,j9,o8,a8⟩
 ·have c4:va6 87 [R5 w.n6,i64 w.o6.next,A9 (K8 o8 a8)] (.tup [R5 (lE w.n6 w.o6.next (K8 o8 a8)),.agg [i64 w.n6.next,i64 (C6 w.n6.j8),i64 w.o6.next,A9 (K8 o8 a8),u8 (E8 (gj w.n6) (K8 o8 a8)).2.1,.ff],i64 0]):=vg w.n6 hb hG w.o6.next (K8 o8 a8) yK hr;have e:jB w ⟨kind,k7,a7,n,n4,j9,o8,a8⟩=⟨w.line,oF w.o6,lE w.n6 w.o6.next (K8 o8 a8),wF w.line (qe w.drift) (!decide ((E8 (gj w.n6) (K8 o8 a8)).2.1=1)),w.k8++[⟨w.o6.next,0,n,(E8 (gj w.n6) (K8 o8 a8)).2.1,IntKind.i64.wrap (w.o6.count+w.line.lag),w.n6.next,false⟩]⟩:=by
   unfold jB;rw[if_pos hr,w1];rfl
  rw[e];clear e;generalize (E8 (gj w.n6) (K8 o8 a8)).2.1=V at c4 ⊢;generalize lE w.n6 w.o6.next (K8 o8 a8)=B at c4 ⊢;have hT:=(aA g.ln).2.2;by_cases hd:w.drift.rounds=500
  ·have c5:va6 89 [PD w.line,.agg [i64 0,i64 0,.ff],.bool (!decide (V=1))] (.tup [.agg (dw (wF w.line fj (!decide (V=1)))),i64 0]):=by
    refine(Dn w.line hT hA fj qn va8 (!decide (V=1))).sub rfl (fun i hi=>?_) (.refl _)
    match i with
    | 0=>exact .refl _
    | 1 =>
     refine(cS (xs:=[i64 0,i64 0,.ff]) (ys:=[i64 0,i64 0,.bool false]) rfl fun j hj=>?_).1
     match j with
     | 0=>exact .refl _
     | 1=>exact .refl _
     | 2=>exact FC
     | (m+3)=>exact .refl _
    | 2=>exact .refl _
    | (m+3)=>exact .refl _
   have ed:qe w.drift=fj:=by unfold qe;rw[if_pos hd]
   rw[ed];refine vb5 Tryz.func47 ?_;refine vf0 ?_;intros;refine⟨⟨B7,7,l5,B4,w.k8⟩,[⟨w.o6.next,0,n,V,IntKind.i64.wrap (w.o6.count+w.line.lag),w.n6.next,false⟩],rfl,rfl,⟨rfl,rfl⟩,?_,?_,fun y _=>⟨rfl,rfl,rfl⟩,?_⟩
   ·show(w.k8.length+1)*56<=_;omega
   ·show w.k8.length+1<=_;omega
   refine vf2 ?_;intros;refine⟨[112],va4,vb3 ?_⟩;exact⟨rfl,rfl⟩
  ·have c5:=Dn w.line hT hA w.drift g.df hd (!decide (V=1));have ed:qe w.drift=w.drift:=by unfold qe;rw[if_neg hd]
   rw[ed];refine vb5 Tryz.func47 ?_;refine vf0 ?_;intros;refine⟨⟨B7,7,l5,B4,w.k8⟩,[⟨w.o6.next,0,n,V,IntKind.i64.wrap (w.o6.count+w.line.lag),w.n6.next,false⟩],rfl,rfl,⟨rfl,rfl⟩,?_,?_,fun y _=>⟨rfl,rfl,rfl⟩,?_⟩
   ·show(w.k8.length+1)*56<=_;omega
   ·show w.k8.length+1<=_;omega
   refine vf2 ?_;intros;refine⟨[112],va4,vb3 ?_⟩;exact⟨rfl,rfl⟩
 ·have c4:=rH w.n6 hb hG w.o6.next (K8 o8 a8) yK hr;have e:jB w ⟨kind,k7,a7,n,n4,j9,o8,a8⟩=⟨w.line,oF w.o6,w.n6,w.drift,w.k8++[⟨w.o6.next,0,n,0,IntKind.i64.wrap (w.o6.count+w.line.lag),-1,false⟩]⟩:=by
   unfold jB Vk;rw[if_neg hr,w1]
  rw[e];clear e;have hr:¬ij w.n6 w.o6.next (K8 o8 a8)=0:=hr;generalize ij w.n6 w.o6.next (K8 o8 a8)=e at c4 hr;refine vb5 Tryz.func47 ?_;refine vf0 ?_;intros;refine⟨⟨B7,7,l5,B4,w.k8⟩,[⟨w.o6.next,0,n,0,IntKind.i64.wrap (w.o6.count+w.line.lag),-1,false⟩],rfl,rfl,⟨rfl,rfl⟩,?_,?_,fun y _=>⟨rfl,rfl,rfl⟩,?_⟩
  ·show(w.k8.length+1)*56<=_;omega
  ·show w.k8.length+1<=_;omega
  refine vf2 ?_;intros;refine⟨[112],va4,vb3 ?_⟩;exact⟨rfl,rfl⟩
theorem Pd{xs:List AV}{j:Nat}{a b:AV}(h:jw a b):jw (.agg (xs.set j a)) (.agg (xs.set j b)):=by
 refine(bR (xs:=xs.set j a) (ys:=xs.set j b) va9 fun i hi=>?_).1;simp only[List.getD,List.getElem?_set];split
 ·split
  ·exact h
  ·exact .refl _
 ·exact .refl _
theorem KP{a b:AV}{l:List AV}(h:jw a b):jw (.tup (a :: l)) (.tup (b :: l)):=by
 refine(bR (xs:=a :: l) (ys:=b :: l) rfl fun i hi=>?_).2;cases i with
 | zero=>exact h
 | succ n=>exact .refl _
theorem KQ(w:n8)(hl:w.n6.n5.length<2^20)(k7:Int):va7 48 [X0 w,i64 k7] [fN w.k8] (.tup [X0 (if fw w k7=0 then Dg w else w),lY (fw w k7)]) [fN w.k8]:=by
 have w1:IntKind.i64.wrap ((w.n6.n5.length:Int)-1)=(w.n6.n5.length:Int)-1:=z5 _ va5 va5;have c1:=N6 k7 0 (IntKind.i64.wrap ((w.n6.n5.length:Int)-1));by_cases h1:0<=k7/\k7<=(w.n6.n5.length:Int)-1
 ·have e1:(decide (0<=k7) && decide (k7<=IntKind.i64.wrap ((w.n6.n5.length:Int)-1)))=true:=by rw[w1,zA4 h1.1,zA4 h1.2];rfl
  rw[e1]at c1;by_cases h2:w.n6.n5.getD k7.toNat 0=3
  ·have hr:fw w k7=0:=by unfold fw;rw[if_neg (fun f=>f h1),if_neg (fun f=>f h2)]
   rw[hr,if_pos rfl];refine PW.sub (res := .tup [.agg (((eW (Dg w)).set 25 (.own 0)).set 24 .ff),lY 0]) ?_ (KP (Pd (xs:=(eW (Dg w)).set 25 (.own 0)) (j:=24) .ff));refine pW Tryz.func48 ⟨va4,?_⟩;conv=>whnf
   try exact rt
  ·have hr:fw w k7=100:=by unfold fw;rw[if_neg (fun f=>f h1),if_pos h2]
   rw[hr,if_neg va8];refine pW Tryz.func48 ⟨va4,?_⟩;conv=>whnf
   try exact rt
 ·have hr:fw w k7=6:=by unfold fw;rw[if_pos h1]
  rw[hr,if_neg va8];have e1:(decide (0<=k7) && decide (k7<=IntKind.i64.wrap ((w.n6.n5.length:Int)-1)))=false:=by
   rw[w1];cases h:(decide (0<=k7) && decide (k7<=(w.n6.n5.length:Int)-1))
   ·rfl
   ·rw[zA2,zA3,zA3]at h;exact absurd h h1
  rw[e1]at c1;refine pW Tryz.func48 ⟨va4,?_⟩;conv=>whnf
  try exact rt
theorem DL(w:n8)(g:C9 w)(n:Int)(h:¬bz w n=0):va7 46 [X0 w,i64 n] [fN w.k8] (.tup [X0 w,lY (bz w n)]) [fN w.k8]:=by
 have bl:=D3.1 g.tk.bl;rw[g.bl]at bl;have wa:IntKind.i64.wrap (w.line.m0.step-w.line.m0.v8)=w.line.m0.step-w.line.m0.v8:=z5 _ va5 va5;have wb:IntKind.i64.wrap (w.line.m0.step+w.line.m0.v8)=w.line.m0.step+w.line.m0.v8:=z5 _ va5 va5;have c1:=N6 n (IntKind.i64.wrap (w.line.m0.step-w.line.m0.v8)) (IntKind.i64.wrap (w.line.m0.step+w.line.m0.v8));by_cases h1:w.line.m0.step-w.line.m0.v8<=n/\n<=w.line.m0.step+w.line.m0.v8
 ·have e1:(decide (IntKind.i64.wrap (w.line.m0.step-w.line.m0.v8)<=n) && decide (n<=IntKind.i64.wrap (w.line.m0.step+w.line.m0.v8)))=true:=by rw[wa,wb,zA4 h1.1,zA4 h1.2];rfl
  rw[e1]at c1;by_cases h2:w.o6.count=1099511627776
  ·have er:bz w n=9:=by unfold bz;rw[if_neg (fun q=>q h1),if_pos h2]
   rw[er];refine pW Tryz.func46 ⟨va4,?_⟩;conv=>whnf
   try exact va1
  ·exact absurd (by unfold bz;rw[if_neg (fun q=>q h1),if_neg h2]) h
 ·have er:bz w n=2:=by unfold bz;rw[if_pos h1]
  have e1:(decide (IntKind.i64.wrap (w.line.m0.step-w.line.m0.v8)<=n) && decide (n<=IntKind.i64.wrap (w.line.m0.step+w.line.m0.v8)))=false:=by
   rw[wa,wb,<- Bool.decide_and,zA5 h1]
  rw[e1]at c1;rw[er];refine pW Tryz.func46 ⟨va4,?_⟩;conv=>whnf
  try exact va1
def is2(i:Nat):Bool:=Nat.beq i 2
theorem Pe(w:n8)(g:C9 w)(hI:A4 w.o6.m0.step)(n:Int)(h:bz w n=0):va7 46 [X0 w,i64 n] [fN w.k8] (.tup [oU (gz w n),.agg [i64 0,i64 (w.o6.count+1),o9 (cj w n)]]) [.none,fN (gz w n).k8]:=by
 have k2:=(V5 g).2.2.1;rw[<- k2];by_cases hg:I9 (s7 w)=true
 ·exact((DJ w g hI n h hg).frz is2 rfl).rows fun k=>by
   match k with
   | 0=>rfl
   | 1=>rfl
   | 2=>rfl
   | (k+3)=>rfl
 ·exact((Gk w g hI n h hg).frz is2 rfl).rows fun k=>by
   match k with
   | 0=>rfl
   | 1=>rfl
   | 2=>rfl
   | (k+3)=>rfl
theorem KR(w w':n8)(e:Int)(k7 a7 n n4:Int)(j9:v7)(o8 a8:List Int)(c:va7 46 [X0 w,i64 n] [fN w.k8] (.tup [X0 w',lY e]) [fN w.k8]) :
  va7 22 [X0 w,I2 1 k7 a7 n n4 j9 o8 a8] [fN w.k8] (.tup [X0 w',lY e]) [fN w.k8]:=by
 refine vb5 Tryz.func22 ?_;refine ve4 ?_;intros;refine va2 [] [] (vb3 ?_);refine va3 [36] c ?_;conv=>whnf
 try exact va1
theorem KS(w w':n8)(N:Int)(l:List dO)(k7 a7 n n4:Int)(j9:v7)(o8 a8:List Int)(c:va7 46 [X0 w,i64 n] [fN w.k8] (.tup [oU w',.agg [i64 0,i64 N,o9 l]]) [.none,fN w'.k8]) :
  va7 22 [X0 w,I2 1 k7 a7 n n4 j9 o8 a8] [fN w.k8] (.tup [oU w',.agg [i64 0,i64 N,o9 l]]) [.none,fN w'.k8]:=by
 refine vb5 Tryz.func22 ?_;refine ve4 ?_;intros;refine va2 [] [13] (vb3 ?_);refine va3 [36] c (vb3 ?_);refine⟨[13],va4,vb3 ?_⟩;exact⟨rfl,rfl⟩
theorem KT(w w':n8)(e:Int)(k7 a7 n n4:Int)(j9:v7)(o8 a8:List Int)(c:va7 47 [X0 w,I2 2 k7 a7 n n4 j9 o8 a8] [fN w.k8] (.tup [X0 w',lY e]) [fN w.k8]) :
  va7 22 [X0 w,I2 2 k7 a7 n n4 j9 o8 a8] [fN w.k8] (.tup [X0 w',lY e]) [fN w.k8]:=by
 refine vb5 Tryz.func22 ?_;refine ve4 ?_;intros;refine va2 [] [] (vb3 ?_);refine va3 [36] c ?_;conv=>whnf
 try exact va1
theorem KU(w w':n8)(N:Int)(k7 a7 n n4:Int)(j9:v7)(o8 a8:List Int)(c:va7 47 [X0 w,I2 2 k7 a7 n n4 j9 o8 a8] [fN w.k8] (.tup [oU w',.agg [i64 0,i64 N,.nils]]) [.none,fN w'.k8]) :
  va7 22 [X0 w,I2 2 k7 a7 n n4 j9 o8 a8] [fN w.k8] (.tup [oU w',.agg [i64 0,i64 N,.nils]]) [.none,fN w'.k8]:=by
 refine vb5 Tryz.func22 ?_;refine ve4 ?_;intros;refine va2 [] [20] (vb3 ?_);refine va3 [36] c (vb3 ?_);refine⟨[20],va4,vb3 ?_⟩;exact⟨rfl,rfl⟩
theorem vE(w w':n8)(e:Int)(k7 a7 n n4:Int)(j9:v7)(o8 a8:List Int)(c:va7 48 [X0 w,i64 k7] [fN w.k8] (.tup [X0 w',lY e]) [fN w.k8]) :
  va7 22 [X0 w,I2 10 k7 a7 n n4 j9 o8 a8] [fN w.k8] (.tup [X0 w',lY e]) [fN w.k8]:=by
 refine vb5 Tryz.func22 ?_;refine ve4 ?_;intros;refine va2 [] [] (vb3 ?_);refine va3 [36] c ?_;conv=>whnf
 try exact va1
theorem Sj(w:n8)(o:C8 w.n6)(k7 a7 n n4:Int)(j9:v7)(o8 a8:List Int):va7 22 [X0 w,I2 10 k7 a7 n n4 j9 o8 a8] [fN w.k8] (.tup [X0 (R9 w ⟨10,k7,a7,n,n4,j9,o8,a8⟩),bw (Q6 w ⟨10,k7,a7,n,n4,j9,o8,a8⟩)]) [fN (R9 w ⟨10,k7,a7,n,n4,j9,o8,a8⟩).k8]:=by
 have e:I7 w ⟨10,k7,a7,n,n4,j9,o8,a8⟩=fw w k7:=rfl;have c:=KQ w o.u k7;by_cases h:fw w k7=0
 ·obtain⟨e1,e2⟩:=AJ (e.trans h);rw[e1,e2];rw[if_pos h,h]at c;exact(vE w (Dg w) _ k7 a7 n n4 j9 o8 a8 c).sub (cz (fM _ _))
 ·obtain⟨e1,e2⟩:=sx (show ¬I7 w ⟨10,k7,a7,n,n4,j9,o8,a8⟩=0 by rw[e];exact h);rw[e1,e2,e];rw[if_neg h]at c;exact(vE w w _ k7 a7 n n4 j9 o8 a8 c).sub (cz (fM _ _))
theorem Pf(w:n8)(g:C9 w)(hI:A4 w.o6.m0.step)(o:B5)(hG:IG o.j9)(ho:K9 o=true)(ht:o.o8.length<2^40)(hn:o.a8.length<2^40)(h:uY w o=true):va7 22 [X0 w,ord o] [fN w.k8] (.tup [X0 (R9 w o),bw (Q6 w o)]) [fN (R9 w o).k8]:=by
 have hk:1<=o.kind/\o.kind<=10:=by
  unfold K9 at ho;simp only[zA2,zA3]at ho;exact ho.1.1
 have hs:¬(I7 w o=0/\o.kind<=2):=by
  intro q;unfold uY at h;rw[zA4 q.1,zA4 q.2]at h;cases h
 have hb:=Bf g.bk;obtain⟨kind,k7,a7,n,n4,j9,o8,a8⟩:=o;simp only[]at hk ht hn hs hG;have cs:kind=1∨kind=2∨kind=3∨kind=4∨kind=5∨kind=6∨kind=7∨kind=8∨kind=9∨kind=10:=by omega
 rcases cs with rfl|rfl|rfl|rfl|rfl|rfl|rfl|rfl|rfl|rfl
 ·have he:¬I7 w ⟨1,k7,a7,n,n4,j9,o8,a8⟩=0:=fun q=>hs ⟨q,va8⟩
  have e:I7 w ⟨1,k7,a7,n,n4,j9,o8,a8⟩=bz w n:=rfl;obtain⟨e1,e2⟩:=sx he;rw[e1,e2,e];exact(KR w w _ k7 a7 n n4 j9 o8 a8 (DL w g n he)).sub (cz (fM _ _))
 ·have he:¬I7 w ⟨2,k7,a7,n,n4,j9,o8,a8⟩=0:=fun q=>hs ⟨q,va8⟩
  have e:I7 w ⟨2,k7,a7,n,n4,j9,o8,a8⟩=mM w ⟨2,k7,a7,n,n4,j9,o8,a8⟩:=rfl;obtain⟨e1,e2⟩:=sx he;rw[e1,e2,e];exact(KT w w _ k7 a7 n n4 j9 o8 a8 (DK w g hI 2 k7 a7 n n4 j9 o8 a8 ht hn he)).sub (cz (fM _ _))
 ·exact cA w g 3 k7 a7 n n4 j9 hG o8 a8 va8
 ·exact cA w g 4 k7 a7 n n4 j9 hG o8 a8 va8
 ·exact cA w g 5 k7 a7 n n4 j9 hG o8 a8 va8
 ·exact cA w g 6 k7 a7 n n4 j9 hG o8 a8 va8
 ·exact cA w g 7 k7 a7 n n4 j9 hG o8 a8 va8
 ·exact cA w g 8 k7 a7 n n4 j9 hG o8 a8 va8
 ·exact cA w g 9 k7 a7 n n4 j9 hG o8 a8 va8
 ·exact Sj w hb k7 a7 n n4 j9 o8 a8
theorem Pg(w:n8)(g:C9 w)(hI:A4 w.o6.m0.step)(hA:A4 w.line.al.1/\A4 w.line.al.2)(o:B5)(ho:K9 o=true)(h:uY w o=false):va7 22 [X0 w,ord o] [fN w.k8] (.tup [oU (R9 w o),bw (Q6 w o)]) [.none,fN (R9 w o).k8]:=by
 have hk:1<=o.kind/\o.kind<=10:=by
  unfold K9 at ho;simp only[zA2,zA3]at ho;exact ho.1.1
 have hs:I7 w o=0/\o.kind<=2:=by
  unfold uY at h;simpa using h
 obtain⟨kind,k7,a7,n,n4,j9,o8,a8⟩:=o;simp only[]at hk hs;have cs:kind=1∨kind=2:=by omega
 rcases cs with rfl|rfl
 ·obtain⟨e1,e2⟩:=AJ hs.1;rw[e1,e2];exact KS w (gz w n) _ _ k7 a7 n n4 j9 o8 a8 (Pe w g hI n hs.1)
 ·obtain⟨e1,e2⟩:=AJ hs.1;rw[e1,e2];exact(KU w (jB w ⟨2,k7,a7,n,n4,j9,o8,a8⟩) _ k7 a7 n n4 j9 o8 a8 (Gl w g (Bf g.bk) hI hA (U2 g.bk) 2 k7 a7 n n4 j9 o8 a8 hs.1)).sub (cz (fM _ _))

end Go.Proofs.Tryz.My
