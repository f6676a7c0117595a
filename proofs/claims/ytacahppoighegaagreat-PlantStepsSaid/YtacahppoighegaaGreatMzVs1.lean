/- Helper lemmas. -/
import Derived.Test.YtacahppoighegaaGreatMzWaA
import Derived.Test.YtacahppoighegaaGreatEvNine
set_option linter.unusedVariables false
set_option linter.unusedSimpArgs false
set_option maxRecDepth 100000
set_option maxHeartbeats 0
namespace Go.Proofs.Tryz.My
open Go Go.Ev
def PE(x:B7):B7:=⟨-7,x.front,x.len,x.o5,x.due,x.seq,x.out⟩
def YA(x:u6):u6:=⟨-7,x.cnt,x.o5,x.hit⟩
def ye(x:A2):A2:=CR x x.n7.length
theorem Kl(w w':n8)(o:B5)(a:oE)
  (hT:w'.k8.length<2^20) (hP:w'.o6.k9.length<2^20) (hL:w'.n6.log.length<2^20) (hp:∀ i,(w'.n6.log.getD i s9).n7.length<2^20) (ht:o.o8.length<2^20)
  (c0:va6 4 [ai w] (.bool false)) (cg:va6 5 [ord o] (.bool false)) (ct:va6 6 [ai w] (ai w))
  (c1:va7 7 [ai w,ord o] [] (.tup [.agg ((((eW w').set 25 (.own 0)).set 16 (.own 1)).set 21 (.own 2)),bw a,i64 0]) [.vec 67 7 l5 B4 w'.k8,.vec 69 4 l9 C2 w'.o6.k9,.nest 71 6 3 3 s9 K6 A2.n7 none w'.n6.log])
  (c2:va6 8 [ai w,ord o] (.tup [ai w',bw a,i64 0]))
  (c3:va6 9 [ai w',ai w'] (.bool true)) (c4:va6 10 [bw a,bw a] (.bool true))
  (c5:va6 11 [ord o] (i64 0)) (c6:va6 12 [ord o] (i64 0)) (c7:va6 13 [ord o,ord o] (.bool true))
  (c8:va6 9 [ai w,ai w] (.bool true)) :
  va6 3 [ai w,ord o] (.bool true):=by
 refine vb4 Tryz.func3 ?_;refine vc0 ?_;intros;refine⟨⟨Int,1,0,eI,[]⟩,o.o8,rfl,⟨rfl,rfl⟩,rfl,?_,?_,fun y _=>⟨rfl,rfl,rfl⟩,?_⟩
 ·show(0+o.o8.length)*8<=_;omega
 ·show 0+o.o8.length<=_;omega
 conv=>whnf
 refine va2 [30] [36,37,38] (vb3 ?_);refine va3 [] c1 (vb3 ?_);refine vc0 ?_;intros;refine vc6 ?_;intros;refine Or.inr ⟨Nat,[74],[36],[],fun k=>[i64 k],fun k=>[.vec 67 7 l5 B4 (Z0 PE l5 w'.k8 k)],fun _=>[],fun k=>w'.k8.length-k,fun k=>k<=w'.k8.length,vb3 ?_⟩;refine⟨⟨0,?_⟩,?_⟩
 ·(conv=>whnf);exact kK ⟨zB4 _,rfl,rfl,rfl⟩
 intro k hk;have IE:=R0 PE l5 w'.k8 k;conv=>whnf
 refine⟨fun h=>?_,fun h=>?_⟩
 ·have h:=zA1 h;conv=>whnf
  refine⟨⟨va5,va5⟩,vb3 ?_⟩;refine⟨PE ((Z0 PE l5 w'.k8 k).getD k l5),rfl,by show k<(Z0 PE l5 w'.k8 k).length;omega,vb3 ?_⟩;refine⟨k+1,vb3 ?_⟩;refine kK ⟨⟨?_,?_⟩,?_,rfl,rfl⟩
  ·show w'.k8.length-(k+1)<w'.k8.length-k;omega
  ·show k+1<=w'.k8.length;omega
  ·rw[z5 _ va5 va5];rfl
 have h:=zA0 h;have ek:k=w'.k8.length:=by omega
 subst ek;clear h hk IE;conv=>whnf
 refine Or.inr ⟨Nat,[87],[37],[],fun k=>[i64 k],fun k=>[.vec 69 4 l9 C2 (Z0 YA l9 w'.o6.k9 k)],fun _=>[],fun k=>w'.o6.k9.length-k,fun k=>k<=w'.o6.k9.length,vb3 ?_⟩;refine⟨⟨0,?_⟩,?_⟩
 ·(conv=>whnf);exact kK ⟨zB4 _,rfl,rfl,rfl⟩
 intro k hk;have IE:=R0 YA l9 w'.o6.k9 k;conv=>whnf
 refine⟨fun h=>?_,fun h=>?_⟩
 ·have h:=zA1 h;conv=>whnf
  refine⟨⟨va5,va5⟩,vb3 ?_⟩;refine⟨YA ((Z0 YA l9 w'.o6.k9 k).getD k l9),rfl,by show k<(Z0 YA l9 w'.o6.k9 k).length;omega,vb3 ?_⟩;refine⟨k+1,vb3 ?_⟩;refine kK ⟨⟨?_,?_⟩,?_,rfl,rfl⟩
  ·show w'.o6.k9.length-(k+1)<w'.o6.k9.length-k;omega
  ·show k+1<=w'.o6.k9.length;omega
  ·rw[z5 _ va5 va5];rfl
 have h:=zA0 h;have ek:k=w'.o6.k9.length:=by omega
 subst ek;clear h hk IE;conv=>whnf
 refine Or.inr ⟨Nat,[101],[38],[],fun k=>[i64 k],fun k=>[.nest 71 6 3 3 s9 K6 A2.n7 none (Z0 ye s9 w'.n6.log k)],fun _=>[],fun k=>w'.n6.log.length-k,fun k=>k<=w'.n6.log.length,vb3 ?_⟩;refine⟨⟨0,?_⟩,?_⟩
 ·(conv=>whnf);exact kK ⟨zB4 _,rfl,rfl,rfl⟩
 intro j hj;have IE:=R0 ye s9 w'.n6.log j;conv=>whnf
 refine⟨fun h=>?_,fun h=>?_⟩
 ·have h:=zA1 h;have DX:j<(Z0 ye s9 w'.n6.log j).length:=by omega
  conv=>whnf
  refine⟨⟨va5,va5⟩,vb3 ?_⟩;refine⟨DX,vb3 ?_⟩;have vO:((Z0 ye s9 w'.n6.log j).getD j s9).n7.length<2^20:=by rw[kj _ _ _ j j (Nat.le_refl j)];exact hp j
  rw[show Int.toNat (j:Int)=j from rfl];have hE:Z0 ye s9 w'.n6.log (j+1)=(Z0 ye s9 w'.n6.log j).set j (ye ((Z0 ye s9 w'.n6.log j).getD j s9)):=rfl;generalize Z0 ye s9 w'.n6.log j=L at vO hE IE DX;generalize hx:L.getD j s9=x at vO hE;refine Or.inr ⟨Nat,[112],[38],[],fun m=>[i64 m],fun m=>[.nest 71 6 3 3 s9 K6 A2.n7 none (L.set j (CR x m))],fun _=>[],fun m=>x.n7.length-m,fun m=>m<=x.n7.length,vb3 ?_⟩;refine⟨⟨0,?_⟩,?_⟩
  ·(conv=>whnf);refine kK ⟨zB4 _,rfl,?_,rfl⟩;have e0:CR x 0=x:=rfl;show _=[Row.nest 71 6 3 3 s9 K6 A2.n7 none (L.set j (CR x 0))]
   rw[e0,<- hx,N7]
  intro m hm;have hy:(L.set j (CR x m)).getD j s9=CR x m:=aM DX;have Wv:(CR x m).n7.length=x.n7.length:=R0 _ _ _ _;have hj3:j<(L.set j (CR x m)).length:=by rw[List.length_set];exact DX
  conv=>whnf
  refine⟨fun q=>?_,fun q=>?_⟩
  ·have q:=zA1 q;conv=>whnf
   refine⟨⟨va5,va5⟩,vb3 ?_⟩;refine⟨hj3,vb3 ?_⟩;rw[show Int.toNat (j:Int)=j from rfl,hy];refine⟨⟨va5,va5⟩,vb3 ?_⟩;rw[show Int.toNat (m:Int)=m from rfl,hy];refine⟨CR x (m+1),⟨rfl,rfl⟩,vb3 ?_⟩;refine⟨m+1,vb3 ?_⟩;refine kK ⟨⟨?_,?_⟩,?_,?_,rfl⟩
   ·show x.n7.length-(m+1)<x.n7.length-m;omega
   ·show m+1<=x.n7.length;omega
   ·rw[z5 _ va5 va5];rfl
   ·rw[List.set_set]
  have q:=zA0 q;have em:m=x.n7.length:=by omega
  subst em;conv=>whnf
  refine⟨j+1,vb3 ?_⟩;refine kK ⟨⟨?_,?_⟩,?_,?_,rfl⟩
  ·show w'.n6.log.length-(j+1)<w'.n6.log.length-j;omega
  ·show j+1<=w'.n6.log.length;omega
  ·rw[z5 _ va5 va5];rfl
  ·show _=[Row.nest 71 6 3 3 s9 K6 A2.n7 none (Z0 ye s9 w'.n6.log (j+1))]
   rw[hE];rfl
 have h:=zA0 h;have ej:j=w'.n6.log.length:=by omega
 subst ej;clear h hj IE;conv=>whnf
 try exact va1
 all_goals rfl
theorem Km(w w':n8)(o:B5)(a:oE)
  (hT:w'.k8.length<2^20) (hP:w'.o6.k9=[]) (hL:w'.n6.log.length<2^20) (hp:∀ i,(w'.n6.log.getD i s9).n7.length<2^20) (ht:o.o8.length<2^20)
  (c0:va6 4 [ai w] (.bool false)) (cg:va6 5 [ord o] (.bool false)) (ct:va6 6 [ai w] (ai w))
  (c1:va7 7 [ai w,ord o] [] (.tup [.agg (((eW w').set 25 (.own 0)).set 21 (.own 1)),bw a,i64 0]) [.vec 67 7 l5 B4 w'.k8,.nest 71 6 3 3 s9 K6 A2.n7 none w'.n6.log])
  (c2:va6 8 [ai w,ord o] (.tup [ai w',bw a,i64 0]))
  (c3:va6 9 [ai w',ai w'] (.bool true)) (c4:va6 10 [bw a,bw a] (.bool true))
  (c5:va6 11 [ord o] (i64 0)) (c6:va6 12 [ord o] (i64 0)) (c7:va6 13 [ord o,ord o] (.bool true))
  (c8:va6 9 [ai w,ai w] (.bool true)) :
  va6 3 [ai w,ord o] (.bool true):=by
 refine vb4 Tryz.func3 ?_;refine vc0 ?_;intros;refine⟨⟨Int,1,0,eI,[]⟩,o.o8,rfl,⟨rfl,rfl⟩,rfl,?_,?_,fun y _=>⟨rfl,rfl,rfl⟩,?_⟩
 ·show(0+o.o8.length)*8<=_;omega
 ·show 0+o.o8.length<=_;omega
 conv=>whnf
 refine va2 [30] [36,38] (vb3 ?_);refine va3 [] c1 (vb3 ?_);refine vc0 ?_;intros;refine vc6 ?_;intros;refine Or.inr ⟨Nat,[74],[36],[],fun k=>[i64 k],fun k=>[.vec 67 7 l5 B4 (Z0 PE l5 w'.k8 k)],fun _=>[],fun k=>w'.k8.length-k,fun k=>k<=w'.k8.length,vb3 ?_⟩;refine⟨⟨0,?_⟩,?_⟩
 ·(conv=>whnf);exact kK ⟨zB4 _,rfl,rfl,rfl⟩
 intro k hk;have IE:=R0 PE l5 w'.k8 k;conv=>whnf
 refine⟨fun h=>?_,fun h=>?_⟩
 ·have h:=zA1 h;conv=>whnf
  refine⟨⟨va5,va5⟩,vb3 ?_⟩;refine⟨PE ((Z0 PE l5 w'.k8 k).getD k l5),rfl,by show k<(Z0 PE l5 w'.k8 k).length;omega,vb3 ?_⟩;refine⟨k+1,vb3 ?_⟩;refine kK ⟨⟨?_,?_⟩,?_,rfl,rfl⟩
  ·show w'.k8.length-(k+1)<w'.k8.length-k;omega
  ·show k+1<=w'.k8.length;omega
  ·rw[z5 _ va5 va5];rfl
 have h:=zA0 h;have ek:k=w'.k8.length:=by omega
 subst ek;clear h hk IE;conv=>whnf
 refine Or.inl ⟨1,vb3 ?_⟩;rw[hP];refine vc4 ?_;intros;refine Or.inr ⟨Nat,[101],[38],[],fun k=>[i64 k],fun k=>[.nest 71 6 3 3 s9 K6 A2.n7 none (Z0 ye s9 w'.n6.log k)],fun _=>[],fun k=>w'.n6.log.length-k,fun k=>k<=w'.n6.log.length,vb3 ?_⟩;refine⟨⟨0,?_⟩,?_⟩
 ·(conv=>whnf);exact kK ⟨zB4 _,rfl,rfl,rfl⟩
 intro j hj;have IE:=R0 ye s9 w'.n6.log j;conv=>whnf
 refine⟨fun h=>?_,fun h=>?_⟩
 ·have h:=zA1 h;have DX:j<(Z0 ye s9 w'.n6.log j).length:=by omega
  conv=>whnf
  refine⟨⟨va5,va5⟩,vb3 ?_⟩;refine⟨DX,vb3 ?_⟩;have vO:((Z0 ye s9 w'.n6.log j).getD j s9).n7.length<2^20:=by rw[kj _ _ _ j j (Nat.le_refl j)];exact hp j
  rw[show Int.toNat (j:Int)=j from rfl];have hE:Z0 ye s9 w'.n6.log (j+1)=(Z0 ye s9 w'.n6.log j).set j (ye ((Z0 ye s9 w'.n6.log j).getD j s9)):=rfl;generalize Z0 ye s9 w'.n6.log j=L at vO hE IE DX;generalize hx:L.getD j s9=x at vO hE;refine Or.inr ⟨Nat,[112],[38],[],fun m=>[i64 m],fun m=>[.nest 71 6 3 3 s9 K6 A2.n7 none (L.set j (CR x m))],fun _=>[],fun m=>x.n7.length-m,fun m=>m<=x.n7.length,vb3 ?_⟩;refine⟨⟨0,?_⟩,?_⟩
  ·(conv=>whnf);refine kK ⟨zB4 _,rfl,?_,rfl⟩;have e0:CR x 0=x:=rfl;show _=[Row.nest 71 6 3 3 s9 K6 A2.n7 none (L.set j (CR x 0))]
   rw[e0,<- hx,N7]
  intro m hm;have hy:(L.set j (CR x m)).getD j s9=CR x m:=aM DX;have Wv:(CR x m).n7.length=x.n7.length:=R0 _ _ _ _;have hj3:j<(L.set j (CR x m)).length:=by rw[List.length_set];exact DX
  conv=>whnf
  refine⟨fun q=>?_,fun q=>?_⟩
  ·have q:=zA1 q;conv=>whnf
   refine⟨⟨va5,va5⟩,vb3 ?_⟩;refine⟨hj3,vb3 ?_⟩;rw[show Int.toNat (j:Int)=j from rfl,hy];refine⟨⟨va5,va5⟩,vb3 ?_⟩;rw[show Int.toNat (m:Int)=m from rfl,hy];refine⟨CR x (m+1),⟨rfl,rfl⟩,vb3 ?_⟩;refine⟨m+1,vb3 ?_⟩;refine kK ⟨⟨?_,?_⟩,?_,?_,rfl⟩
   ·show x.n7.length-(m+1)<x.n7.length-m;omega
   ·show m+1<=x.n7.length;omega
   ·rw[z5 _ va5 va5];rfl
   ·rw[List.set_set]
  have q:=zA0 q;have em:m=x.n7.length:=by omega
  subst em;conv=>whnf
  refine⟨j+1,vb3 ?_⟩;refine kK ⟨⟨?_,?_⟩,?_,?_,rfl⟩
  ·show w'.n6.log.length-(j+1)<w'.n6.log.length-j;omega
  ·show j+1<=w'.n6.log.length;omega
  ·rw[z5 _ va5 va5];rfl
  ·show _=[Row.nest 71 6 3 3 s9 K6 A2.n7 none (Z0 ye s9 w'.n6.log (j+1))]
   rw[hE];rfl
 have h:=zA0 h;have ej:j=w'.n6.log.length:=by omega
 subst ej;clear h hj IE;conv=>whnf
 try exact va1
 all_goals rfl

end Go.Proofs.Tryz.My
