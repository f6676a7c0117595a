/- Helper lemmas. -/
import Derived.Test.YtacahppoighegaaGreatMzGpA
import Derived.Test.YtacahppoighegaaGreatMzRfC
set_option linter.unusedVariables false
set_option linter.unusedSimpArgs false
set_option maxRecDepth 100000
set_option maxHeartbeats 0
namespace Go.Proofs.Tryz.My
open Go Go.Ev
theorem bU(n lo hi:Int):va6 131 [i64 n,i64 lo,i64 hi] (.bool (B6 n lo hi)):=by
 refine vb4 Tryz.func131 ?_;refine⟨fun h=>?_,fun h=>?_⟩<;>((conv=>whnf);simp_all [-decide_eq_true_eq,-decide_eq_false_iff_not,B6])
theorem Z6(lo hi n:Int):va6 149 [i64 lo,i64 hi,i64 n] (.bool (B6 n lo hi)):=by
 refine vb4 Tryz.func149 ?_;refine⟨fun h=>?_,fun h=>?_⟩<;>((conv=>whnf);simp_all [-decide_eq_true_eq,-decide_eq_false_iff_not,B6])
theorem lS(gC:Nat)(p:Int->Bool)(hp:∀ n,va6 gC [i64 n] (.bool (p n)))(l:List Int)(hl:l.length<2^40):va6 192 [A9 l,.fn (.func gC) [] []] (i64 (xl p l)):=by
 refine vb4 Tryz.func192 ?_;refine Or.inr ⟨Nat,[8],[],[],fun k=>[i64 k],fun _=>[],fun _=>[],fun k=>l.length-k,fun k=>k<=l.length/\∀ i,i<k->p (l.getD i 0)=false,vb3 ?_⟩;refine⟨⟨0,?_⟩,?_⟩
 ·(conv=>whnf);exact kK ⟨by simp,rfl,rfl,rfl⟩
 ·intro k hk;conv=>whnf
  refine⟨fun h=>?_,fun h=>?_⟩
  ·have h:=zA1 h;conv=>whnf
   refine⟨⟨va5,va5⟩,vb3 ?_⟩
   (first|(refine Or.inl ?_;(conv=>whnf);refine⟨_,hp _,?_⟩)|refine⟨_,hp _,?_⟩)
   conv=>whnf
   refine⟨fun h2=>?_,fun h2=>?_⟩
   ·(conv=>whnf);exact congrArg i64 (rS _ 0 l k va5 h2 hk.2).symm
   ·refine⟨k+1,vb3 ?_⟩;refine kK ⟨⟨?_,?_,?_⟩,?_,rfl,rfl⟩
    ·show l.length-(k+1)<l.length-k;omega
    ·omega
    ·intro i hi;by_cases e:i=k
     ·subst e;exact h2
     ·exact hk.2 i va5
    ·rw[z5 _ va5 va5];rfl
  ·have h:=zA0 h;conv=>whnf
   exact congrArg i64 (nE _ 0 l fun i hi=>hk.2 i va5).symm
theorem bV(gC:Nat)(p:Int->Bool)(hp:∀ n,va6 gC [i64 n] (.bool (p n)))(l:List Int)(hl:l.length<2^40):va6 151 [A9 l,.fn (.func gC) [] []] (.bool (l.any p)):=by
 refine vb4 Tryz.func151 ?_
 (first|(refine Or.inl ?_;(conv=>whnf);refine⟨_,lS gC p hp l hl,?_⟩)|refine⟨_,lS gC p hp l hl,?_⟩)
 conv=>whnf
 rw[rT]
theorem CA(l:List Int)(h0:l≠[])(hl:l.length<2^30):va7 36 [A9 l] [] (.own 0) [.vec 3 1 0 eI l]:=by
 refine vb5 Tryz.func36 ?_;intro b hb;conv=>whnf
 refine⟨fun h=>absurd (hb h) h0,fun h=>?_⟩;conv=>whnf
 refine⟨⟨Int,1,0,eI,[]⟩,l,rfl,⟨rfl,rfl⟩,rfl,?_,?_,fun y _=>⟨rfl,rfl,rfl⟩,?_⟩
 ·show(0+l.length)*8<=_;omega
 ·show 0+l.length<=_;omega
 conv=>whnf
 refine⟨[7],va4,vb3 ?_⟩;exact⟨rfl,rfl⟩
def nX(n:Int):Bool := !B6 n 0 255
theorem pO(n:Int):va6 204 [i64 n] (.bool (nX n)):=by
 refine vb4 Tryz.func204 ?_
 (first|(refine Or.inl ?_;(conv=>whnf);refine⟨_,Z6 0 255 n,?_⟩)|refine⟨_,Z6 0 255 n,?_⟩)
 conv=>whnf
 rfl
def H8(l:List Int):Bool:=B6 l.length 2 64 && !l.any nX
theorem dp(l:List Int)(hl:l.length<2^40):va6 163 [A9 l] (i64 (if H8 l then 0 else 50)):=by
 refine vb4 Tryz.func163 ?_;(repeat' ((first|refine va0 (fun hh=>?_) fun hh=>?_|refine kR ?_|((try refine .inl ?_;conv=>whnf);(try refine⟨false,?_⟩;conv=>whnf);refine⟨_,by first|exact Z6 2 64 l.length|exact bV _ nX pO l hl,?_⟩)|fail)<;>first|exact hh.elim|conv=>whnf));all_goals simp_all [H8]
theorem N9(l:List Int)(hl:l.length<2^40):va6 80 [A9 l] (.bool (H8 l)):=by
 refine vb4 Tryz.func80 ?_;by_cases h1:2<=l.length/\l.length<=64
 rotate_left
 ·refine ve5 ?_ ?_<;>intros
  all_goals (congr 1;refine Eq.symm ?_;simp only[H8,B6,Bool.and_eq_false_iff,decide_eq_false_iff_not];omega)
 refine ve4 ?_;intros;refine Or.inr ⟨Nat,[3],[],[],fun k=>[i64 k],fun _=>[],fun _=>[],fun k=>l.length-k,fun k=>k<=l.length/\∀ i,i<k->nX (l.getD i 0)=false,vb3 ?_⟩;refine⟨⟨0,?_⟩,?_⟩
 ·(conv=>whnf);exact kK ⟨by simp,rfl,rfl,rfl⟩
 ·intro k hk;conv=>whnf
  refine⟨fun h=>?_,fun h=>?_⟩
  ·have h:=zA1 h;conv=>whnf
   refine⟨⟨va5,va5⟩,vb3 ?_⟩
   (first|(refine Or.inl ?_;(conv=>whnf);refine⟨_,bU _ _ _,?_⟩)|refine⟨_,bU _ _ _,?_⟩)
   conv=>whnf
   refine⟨fun h2=>?_,fun h2=>?_⟩
   ·(conv=>whnf)
    congr 1
    have hm:nX (l.getD k 0)=true:=by simpa[nX]using h2
    have:l.any nX=true:=List.any_eq_true.2 ⟨l.getD k 0,by simp[List.getD,show k<l.length by omega],hm⟩;simp[H8,this]
   ·refine⟨k+1,vb3 ?_⟩;refine kK ⟨⟨?_,?_,?_⟩,?_,rfl,rfl⟩
    ·show l.length-(k+1)<l.length-k;omega
    ·omega
    ·intro i hi;by_cases e:i=k
     ·subst e;simpa[nX]using h2
     ·exact hk.2 i va5
    ·rw[z5 _ va5 va5];rfl
  ·have h:=zA0 h;conv=>whnf
   congr 1
   have:l.any nX=false:=List.any_eq_false.2 fun x hx=>by
    obtain⟨i,hi,rfl⟩:=List.getElem_of_mem hx;have:=hk.2 i va5;simpa[List.getD,hi]using this
   have h2:B6 l.length 2 64=true:=by simp only[B6,zA2,zA3];omega
   simp[H8,this,h2]
theorem gW(l:List Int)(hl:l.length<2^40):va6 137 [A9 l] (i64 (if H8 l then 0 else 50)):=by
 refine vb4 Tryz.func137 ?_;have cZ:=N9 l hl;refine vc7 ?_ ?_<;>intros
 all_goals simp_all
def Jm(x:Int):Int:=if 255<(if 0 > x then 0 else x)then 255 else(if 0 > x then 0 else x)
theorem Hk(x:Int):Jm x=if (if x > 0 then x else 0)<255 then(if x > 0 then x else 0)else 255:=by unfold Jm;split<;>split<;>split<;>(try split)<;>omega
def bW(p:List Int)(f:Nat->Int)(k:Nat):List Int:=(List.range p.length).map fun i=>if i<k then f i else p.getD i 0
theorem T3(p:List Int)(f:Nat->Int)(k:Nat):(bW p f k).length=p.length:=by simp[bW]
theorem xH(p:List Int)(f:Nat->Int)(k i:Nat)(h:i<p.length):(bW p f k).getD i 0=if i<k then f i else p.getD i 0:=by simp[bW,List.getD,h]
theorem xI(p:List Int)(f:Nat->Int):bW p f 0=p:=by
 refine List.ext_getElem (by simp[bW]) fun i h1 h2=>?_
 simp[bW,List.getD,h2]
theorem xJ(p:List Int)(f:Nat->Int)(k:Nat):(bW p f k).set k (f k)=bW p f (k+1):=by
 refine List.ext_getElem (by simp[bW]) fun i h1 h2=>?_
 simp only[bW,List.getElem_set,List.getElem_map,List.getElem_range];by_cases e:k=i
 ·subst e;simp
 ·simp only[e,if_false];by_cases h:i<k
  ·simp[h,show i<k+1 by omega]
  ·simp[h,show ¬ i<k+1 by omega]
theorem CB(p:List Int)(f:Nat->Int):bW p f p.length=(List.range p.length).map f:=by
 refine List.ext_getElem (by simp[bW]) fun i h1 h2=>?_
 simp[bW]at h1 ⊢;intro h;omega
theorem CC{l:List Int}{q:Int->Bool}(h:l.any q=false)(i:Nat)(hi:i<l.length):q (l.getD i 0)=false:=by
 have:=List.any_eq_false.1 h (l.getD i 0) (by simp[List.getD,hi]);simpa using this
theorem mz{l:List Int}(h:l.any nX=false)(i:Nat)(hi:i<l.length):0<=l.getD i 0/\l.getD i 0<=255:=by
 have:=CC h i hi;simp only[nX,B6,Bool.not_eq_false',zA2,zA3]at this;exact this
theorem M3{p:List Int}(h:H8 p=true):2<=p.length/\p.length<=64:=by
 simp only[H8,B6,zA2,zA3]at h;omega
theorem uf{p:List Int}(h:H8 p=true):p.any nX=false:=by
 simp only[H8,zA2]at h;simpa using h.2
def ug(n:Nat)(a d:Int):List (List AV):=(List.range (H4 n a d)).map fun(k:Nat)=>[i64 (a+d*k)]
theorem CD(n:Nat)(a d:Int)(k:Nat):(ug n a d)[k]? = if k<H4 n a d then some [i64 (a+d*k)]else none:=by
 unfold ug;rw[List.getElem?_map];by_cases h:k<H4 n a d<;>simp[h]
theorem QZ(n:Nat)(a d:Int)(ha:0<=a)(hn:a<n)(hl:n<2^40)(hd:lR d):SQ Tryz.prog 279 [.pt [i64 a] 0,.pt [i64 n] 0,.pt [i64 d] 0] (ug n a d):=by
 have hs:H4 n a d<=n:=by unfold H4;rcases hd with rfl|rfl<;>simp<;>omega
 have step:∀ k:Nat,(k<H4 n a d↔0<=a+d*k/\a+d*k<n)/\(a+d*k+d=a+d*((k+1:Nat):Int)):=by
  intro k
  constructor
  ·unfold H4;rcases hd with rfl|rfl<;>simp<;>omega
  ·rcases hd with rfl|rfl<;>omega
 have Y8:=CD n a d;have hlen:(ug n a d).length=H4 n a d:=by simp[ug]
 generalize ug n a d=xs at *
 generalize H4 n a d=m at *
 refine qK hm Tryz.func279 va4 ⟨va4,fun l=>?_⟩;conv=>whnf
 refine Or.inr ⟨Nat,[5],[22],[],fun k=>[i64 (a+d*k)],fun k=>[.ctr l xs k false],fun _=>[],fun k=>m-k,fun k=>k<=m,vb3 ?_⟩;refine⟨⟨0,?_⟩,?_⟩
 ·(conv=>whnf);refine kK ⟨zB4 _,?_,rfl,rfl⟩;show [i64 a]=[i64 (a+d*((0:Nat):Int))]
  simp
 ·intro k hk;have st:=step k;conv=>whnf
  refine⟨fun h=>?_,fun h=>?_⟩
  ·have h:=zA1 h;conv=>whnf
   refine⟨fun h2=>?_,fun h2=>?_⟩
   ·have h2:=zA1 h2;have Yc:=st.1.2 ⟨h,h2⟩;conv=>whnf
    refine⟨⟨rfl,by exact(Y8 k).trans (by rw[if_pos Yc];rfl),va4⟩,?_,?_⟩
    ·(conv=>whnf);refine⟨k+1,vb3 ?_⟩;refine kK ⟨⟨Nat.sub_lt_sub_left va5 (Nat.lt_succ_self k),va5⟩,?_,rfl,rfl⟩;rw[z5 _ (by rcases hd with rfl|rfl<;>omega) (by rcases hd with rfl|rfl<;>omega),st.2]
    ·(conv=>whnf);intro h;cases h
   ·have h2:=zA0 h2;conv=>whnf
    intro _;rw[hlen];have:=mt st.1.1 (fun k=>h2 k.2);omega
  ·have h:=zA0 h;conv=>whnf
   intro _;rw[hlen];have:=mt st.1.1 (fun k=>h k.1);omega
theorem Jn(p:List Int)(thr a a8:Int)(hl:p.length<2^40):va6 257 [A9 p,i64 thr,i64 a,i64 a8] (i64 (if H8 p then(if eN p thr a a8 then 0 else 2)else 50)):=by
 have c1:=dp p hl;have hw:IntKind.i64.wrap ((p.length:Int)-1)=(p.length:Int)-1:=z5 _ va5 va5;cases hp:H8 p
 ·rw[hp]at c1;refine vb4 Tryz.func257 ?_;refine vc6 ?_;intros;all_goals simp
 rw[hp]at c1;refine vb4 Tryz.func257 ?_;refine vd8 Z6 ?_ ?_ ?_ ?_<;>intros
 all_goals (first|(simp_all [eN,B6];done)|(simp_all [eN,B6];intros;omega))
theorem Fj(p:List Int)(thr a a8:Int)(hl:p.length<2^40):va6 222 [A9 p,i64 thr,i64 a,i64 a8] (i64 (if H8 p then(if eN p thr a a8 then 0 else 2)else 50)):=by
 have c1:=N9 p hl;have hw:IntKind.i64.wrap ((p.length:Int)-1)=(p.length:Int)-1:=z5 _ va5 va5;cases hp:H8 p
 ·rw[hp]at c1;refine vb4 Tryz.func222 ?_;refine vc6 ?_;intros;all_goals simp
 rw[hp]at c1;refine vb4 Tryz.func222 ?_;refine vd8 bU ?_ ?_ ?_ ?_<;>intros
 all_goals (first|(simp_all [eN,B6];done)|(simp_all [eN,B6];intros;omega))
theorem dV{p:List Int}(h:H8 p=true):ke p:=fun i hi=>mz (uf h) i hi
theorem dW{p:List Int}{thr a a8:Int}(h:eN p thr a a8=true):1<=thr/\thr<=255/\0<=a/\a<p.length/\0<=a8/\a8<=64:=by
 simp only[eN,zA2,zA3]at h;omega
theorem Ra(n:Int)(a d:Int):va6 270 [i64 n,i64 a,i64 d] (.fn (.func 279) [] [.pt [i64 a] 0,.pt [i64 n] 0,.pt [i64 d] 0]):=by
 refine pF Tryz.func270 ?_;conv=>whnf
theorem gX(n:Int):va6 154 [i64 n] (fr (n,1)):=by
 refine pF Tryz.func154 ?_;conv=>whnf
 try exact va1
set_option maxHeartbeats 1000000
theorem uh(p:List Int)(thr a d:Int)(hp:ke p)(hl:p.length<=64)(ha:0<=a)(hn:a<p.length)(hd:lR d)(t1:1<=thr)(t2:thr<=255) :
  va6 258 [A9 p,i64 thr,i64 a,i64 d] (.tup [fr (vX p thr a d).1,.bool (vX p thr a d).2]):=by
 have sq:=QZ p.length a d ha hn va5 hd;have Y8:=CD p.length a d;have hlen:(ug p.length a d).length=H4 p.length a d:=by simp[ug]
 have Nr:∀ x ∈ ug p.length a d,dY x=true/\x.length=1:=by
  intro x hx;obtain⟨k,_,rfl⟩:=List.mem_map.1 hx;exact⟨va4,rfl⟩
 have Tj:∀ k x,(ug p.length a d)[k]? = some x->k<H4 p.length a d/\x=[i64 (a+d*(k:Int))]:=by
  intro k x hx;rw[Y8]at hx;by_cases vY:k<H4 p.length a d
  ·rw[if_pos vY]at hx;exact⟨vY,(Option.some.inj hx).symm⟩
  ·rw[if_neg vY]at hx;cases hx
 refine vb4 Tryz.func258 ?_;refine vd4 Ra ?_;intros;refine⟨ug p.length a d,[],fun _=>[],fun k=>k<=H4 p.length a d/\∀ j,j<k->M7 p a d j<thr,⟨sq,Nr⟩,?_⟩;refine⟨va4,?_⟩;refine⟨?_,?_⟩
 ·(conv=>whnf);exact kK ⟨⟨zB4 _,fun j hj=>absurd hj (zB3 j)⟩,rfl,rfl,rfl⟩
 refine⟨?_,?_⟩
 ·with_reducible refine xr Tj ?_
  intro k vY hk;have mT:=nV ha hn hd vY;conv=>whnf
  (repeat' (first|(refine⟨va4,?_⟩;(conv=>whnf))|(refine And.intro (a:=_/\_) ⟨va5,va5⟩ ?_;(conv=>whnf))));refine⟨fun h=>?_,fun h=>?_⟩
  ·have h:=zA1 h;conv=>whnf
   refine⟨⟨⟨va5,fun j hj=>?_⟩,rfl⟩,va4⟩;by_cases e:j=k
   ·subst e;exact h
   ·exact hk.2 j va5
  ·have h:=zA0 h;conv=>whnf
   refine⟨fun h2=>?_,fun h2=>?_⟩
   ·have h2:=zA1 h2;obtain rfl:k=0:=by rcases hd with rfl|rfl<;>omega
    have hb:=M1 (G4.2 ⟨vY,Int.not_lt.1 h,hk.2⟩);conv=>whnf
    (first|(refine Or.inl ?_;(conv=>whnf);refine⟨_,gX _,?_⟩)|refine⟨_,gX _,?_⟩)
    conv=>whnf
    rw[hb];simp[D5,R4,Jh (show -4611686018427387903<=a by omega) (show a<=4611686018427387903 by omega)]
   ·have h2:=zA0 h2;obtain⟨m,rfl⟩:∃ m,k=m+1:=⟨k-1,by rcases hd with rfl|rfl<;>omega⟩
    have hb:=M1 (G4.2 ⟨vY,Int.not_lt.1 h,hk.2⟩);have hm:=nV ha hn hd (k:=m) va5;have wd:IntKind.i64.wrap (a+d*((m+1:Nat):Int)-d)=a+d*(m:Int):=by rw[z5 _ (by rcases hd with rfl|rfl<;>omega) (by rcases hd with rfl|rfl<;>omega)];rcases hd with rfl|rfl<;>omega
    conv=>whnf
    rw[wd];(repeat' (first|(refine⟨va4,?_⟩;(conv=>whnf))|(refine And.intro (a:=_/\_) ⟨va5,va5⟩ ?_;(conv=>whnf))));have hv:=G4.2 ⟨vY,Int.not_lt.1 h,hk.2⟩;have b1:=cO hp ha hn hd vY;have b2:=cO hp ha hn hd (k:=m) va5;have b3:=hk.2 m va5;have b4:thr<=M7 p a d (m+1):=Int.not_lt.1 h;have ji:D5 p thr a d (m+1)=(G9 ((a+d*(m:Int))*(M7 p a d (m+1)-M7 p a d m)+d*(thr-M7 p a d m)) (M7 p a d (m+1)-M7 p a d m)).1:=rfl;have w1:IntKind.i64.wrap (thr-p.getD (a+d*(m:Int)).toNat 0)=thr-M7 p a d m:=z5 (thr-M7 p a d m) va5 va5;have w2:IntKind.i64.wrap (p.getD (a+d*((m+1:Nat):Int)).toNat 0-p.getD (a+d*(m:Int)).toNat 0)=M7 p a d (m+1)-M7 p a d m:=z5 (M7 p a d (m+1)-M7 p a d m) va5 va5;have w3:IntKind.i64.wrap (d*(thr-M7 p a d m))=d*(thr-M7 p a d m):=z5 _ (by rcases hd with rfl|rfl<;>omega) (by rcases hd with rfl|rfl<;>omega);have n1 : -255<=d*(thr-M7 p a d m)/\d*(thr-M7 p a d m)<=255:=by rcases hd with rfl|rfl<;>omega
    rw[w1,w2,w3];have cm:=Qy (d*(thr-M7 p a d m)) (M7 p a d (m+1)-M7 p a d m) (by unfold A4;omega) (by unfold A4;omega);have Yd:=Ng (w:=a+d*(m:Int)) (N:=d*(thr-M7 p a d m)) (s:=M7 p a d (m+1)-M7 p a d m) va5 va5 va5 va5 va5 va5;have Py:=fI (n:=d*(thr-M7 p a d m)) (d:=M7 p a d (m+1)-M7 p a d m) va5 va5 va5 va5;have ca:=UN (a+d*(m:Int),1) (G9 (d*(thr-M7 p a d m)) (M7 p a d (m+1)-M7 p a d m)).1;have hbo:qP iW (a+d*(m:Int),1) (G9 (d*(thr-M7 p a d m)) (M7 p a d (m+1)-M7 p a d m)).1=G9 ((a+d*(m:Int))*(M7 p a d (m+1)-M7 p a d m)+d*(thr-M7 p a d m)) (M7 p a d (m+1)-M7 p a d m):=by
     unfold qP;rw[pM va5 va5,Py.1];exact Yd
    rw[hbo]at ca;rw[hb,ji];clear Yd Py hbo ji w1 w2 w3 n1 b1 b2 b3 b4 hv;generalize G9 ((a+d*(m:Int))*(M7 p a d (m+1)-M7 p a d m)+d*(thr-M7 p a d m)) (M7 p a d (m+1)-M7 p a d m)=R at *
    generalize G9 (d*(thr-M7 p a d m)) (M7 p a d (m+1)-M7 p a d m)=M at *
    (first|(refine Or.inl ?_;(conv=>whnf);refine⟨_,cm,?_⟩)|refine⟨_,cm,?_⟩)
    conv=>whnf
    (repeat' (first|(refine⟨va4,?_⟩;(conv=>whnf))|(refine And.intro (a:=_/\_) ⟨va5,va5⟩ ?_;(conv=>whnf))))
    (first|(refine Or.inl ?_;(conv=>whnf);refine⟨_,gX _,?_⟩)|refine⟨_,gX _,?_⟩)
    conv=>whnf
    (first|(refine Or.inl ?_;(conv=>whnf);refine⟨_,ca,?_⟩)|refine⟨_,ca,?_⟩)
    conv=>whnf
    (repeat' (first|(refine⟨va4,?_⟩;(conv=>whnf))|(refine And.intro (a:=_/\_) ⟨va5,va5⟩ ?_;(conv=>whnf))))
 ·with_reducible refine Ce ?_
  intro hk;rw[hlen]at hk;have hb:=cQ (eJ.2 hk.2);conv=>whnf
  rw[hb]
theorem Ns(x:Int):Jm x=T2 x:=by unfold Jm T2;split<;>split<;>(try split)<;>(try split)<;>omega
theorem ui(p:List Int)(b:Int):(List.range p.length).map (fun i=>T2 (p.getD i 0+b))=D8 p b:=by
 refine List.ext_getElem (by simp[D8]) fun i h1 h2=>?_
 simp at h1;simp[D8,List.getD,h1]
theorem kf(b:Int):va6 259 [i64 b] (.fn (.func 273) [] [.pt [i64 b] 0]):=by
 refine pF Tryz.func259 ?_;conv=>whnf
theorem xK(p:List Int)(b:Int)(h0:p≠[])(hl:p.length<2^30)(hp:ke p)(b1 : -64<=b)(b2:b<=64):va7 273 [A9 p,.pt [i64 b] 0] [] (.own 0) [.vec 3 1 0 eI (D8 p b)]:=by
 refine vb5 Tryz.func273 ?_;refine va2 [] [8] (vb3 ?_);refine va3 [] (CA p h0 hl) (vb3 ?_);refine Or.inr ⟨Nat,[11],[8],[],fun k=>[i64 k],fun k=>[.vec 3 1 0 eI (bW p (fun i=>T2 (p.getD i 0+b)) k)],fun _=>[],fun k=>p.length-k,fun k=>k<=p.length,vb3 ?_⟩;refine⟨⟨0,?_⟩,?_⟩
 ·(conv=>whnf);refine kK ⟨zB4 _,rfl,?_,rfl⟩;show [Row.vec 3 1 0 eI p]=[Row.vec 3 1 0 eI (bW p _ 0)]
  rw[xI]
 ·intro k hk;conv=>whnf
  refine⟨fun h=>?_,fun h=>?_⟩
  ·have h:=zA1 h;have a1:=hp k va5;conv=>whnf
   refine⟨⟨va5,by rw[T3];omega⟩,vb3 ?_⟩;refine⟨by rw[T3];omega,vb3 ?_⟩;refine⟨⟨va5,by rw[T3];omega⟩,vb3 ?_⟩;refine⟨T2 (p.getD k 0+b),?_,by rw[T3];omega,?_⟩
   ·have e1:(bW p (fun i=>T2 (p.getD i 0+b)) k).getD (Int.toNat (k:Int)) 0=p.getD k 0:=by
     show(bW p _ k).getD k 0=_
     rw[xH p _ k k va5];simp
    rw[e1,z5 (p.getD k 0+b) va5 va5,<- Ns];rfl
   conv=>whnf
   refine⟨k+1,vb3 ?_⟩;refine kK ⟨⟨Nat.sub_lt_sub_left va5 (Nat.lt_succ_self k),va5⟩,?_,?_,rfl⟩
   ·rw[z5 _ va5 va5];rfl
   ·show [Row.vec _ 1 0 eI ((bW p _ k).set k (T2 (p.getD k 0+b)))]=_
    rw[show(bW p (fun i=>T2 (p.getD i 0+b)) k).set k (T2 (p.getD k 0+b))=_ from xJ p (fun i=>T2 (p.getD i 0+b)) k]
  ·have h:=zA0 h;obtain rfl:k=p.length:=by omega
   conv=>whnf
   refine⟨[8],va4,vb3 ?_⟩;refine⟨rfl,?_⟩;show [Row.vec _ 1 0 eI (bW p _ p.length)]=_
   rw[CB,ui];rfl
theorem uj(p:List Int)(b:Int)(hl:p.length<2^30)(hp:ke p)(b1 : -64<=b)(b2:b<=64):va6 182 [A9 p,i64 b] (A9 (D8 p b)):=by
 refine vb4 Tryz.func182 ?_;refine Or.inr ⟨Nat,[6],[],[(5,⟨Int,3,1,0,eI⟩)],fun i=>[i64 i],fun _=>[],fun i=>[.vec 3 1 0 eI ((List.range i).map (fun i=>T2 (p.getD i 0+b)))],fun i=>p.length-i,fun i=>i<=p.length,vb3 ?_⟩;refine⟨⟨0,?_⟩,?_⟩
 ·(conv=>whnf);exact kK ⟨zB4 _,rfl,rfl,rfl⟩
 ·intro k hk;conv=>whnf
  refine⟨fun h=>?_,fun h=>?_⟩
  ·have h:=zA1 h;have a1:=hp k va5;conv=>whnf
   refine ve4 ?_;intros;refine⟨⟨Int,1,0,eI,(List.range k).map (fun i=>T2 (p.getD i 0+b))⟩,[T2 (p.getD k 0+b)],rfl,rfl,⟨rfl,?_⟩,?_,?_,fun y _=>⟨rfl,rfl,rfl⟩,?_⟩
   ·rw[z5 (p.getD (Int.toNat (k:Int)) 0+b) (by show _<=p.getD k 0+b;omega) (by show p.getD k 0+b<=_;omega)];show [[i64 _]]=[[i64 (T2 (p.getD k 0+b))]]
    rw[<- Ns,Hk];rfl
   ·show(((List.range k).map _).length+1)*8<=_;simp;omega
   ·show((List.range k).map _).length+1<=_;simp;omega
   conv=>whnf
   refine ve4 ?_;intros;refine⟨k+1,vb3 ?_⟩;refine kK ⟨⟨Nat.sub_lt_sub_left va5 (Nat.lt_succ_self k),va5⟩,?_,rfl,?_⟩
   ·rw[z5 _ va5 va5];rfl
   ·show [Row.vec _ 1 0 eI ((List.range k).map (fun i=>T2 (p.getD i 0+b))++[T2 (p.getD k 0+b)])]=[Row.vec _ 1 0 eI ((List.range (k+1)).map (fun i=>T2 (p.getD i 0+b)))]
    rw[List.range_succ,List.map_append];rfl
  ·have h:=zA0 h;obtain rfl:k=p.length:=by omega
   conv=>whnf
   rw[ui]
theorem cR(num den:Int)(h1:A4 num)(h2:A4 den):va6 250 [i64 num,i64 den] (fr (G9 num den).1):=by
 have c:=Nj num den h1 h2;generalize G9 num den=r at *
 refine pF Tryz.func250 ?_;conv=>whnf
 try exact va1
theorem Fk(p:List Int)(thr a:Int)(hp:ke p)(hl:p.length<=64)(ha:0<=a)(hn:a<p.length)(t1:1<=thr)(t2:thr<=255) :
  va6 223 [A9 p,i64 thr,i64 a] (.tup [fr (vX p thr a 1).1,.bool (vX p thr a 1).2]):=by
 have st:H4 p.length a 1=((p.length:Int)-a).toNat:=by unfold H4;simp
 have eK:∀ k:Nat,M7 p a 1 k=p.getD (a+k).toNat 0:=by intro k;unfold M7;rw[Int.one_mul]
 have e0:M7 p a 1 0=p.getD a.toNat 0:=by rw[eK];simp
 refine vb4 Tryz.func223 ?_;refine⟨⟨va5,va5⟩,vb3 ?_⟩;refine⟨fun h=>?_,fun h=>?_⟩
 ·have h:=zA1 h;have hb:=M1 (G4.2 ⟨show 0<H4 p.length a 1 by omega,by rw[e0];exact h,fun j hj=>absurd hj (zB3 j)⟩);have ji:D5 p thr a 1 0=(G9 a 1).1:=rfl;rw[hb,ji];conv=>whnf
  (first|(refine Or.inl ?_;(conv=>whnf);refine⟨_,cR a 1 (by unfold A4;omega) (by unfold A4;omega),?_⟩)|refine⟨_,cR a 1 (by unfold A4;omega) (by unfold A4;omega),?_⟩)
  conv=>whnf
 have h:=zA0 h;conv=>whnf
 refine Or.inr ⟨Nat,[8],[],[],fun k=>[i64 (a+k)],fun _=>[],fun _=>[],fun k=>p.length-k,fun k=>a+k<p.length/\∀ j,j<=k->M7 p a 1 j<thr,vb3 ?_⟩;refine⟨⟨0,?_⟩,?_⟩
 ·(conv=>whnf);refine kK ⟨⟨va5,fun j hj=>?_⟩,?_,rfl,rfl⟩
  ·obtain rfl:j=0:=by omega
   rw[e0];omega
  ·show [i64 a]=[i64 (a+((0:Nat):Int))]
   simp
 ·intro k hk;have w1:IntKind.i64.wrap (a+k+1)=a+k+1:=z5 _ va5 va5;have ek:M7 p a 1 k=p.getD (a+k).toNat 0:=eK k;have Nt:M7 p a 1 (k+1)=p.getD (a+k+1).toNat 0:=by rw[eK];congr 2;omega
  conv=>whnf
  rw[w1];refine⟨fun h1=>?_,fun h1=>?_⟩
  ·have h1:=zA1 h1;conv=>whnf
   rw[w1];refine⟨⟨va5,va5⟩,vb3 ?_⟩;refine⟨fun h2=>?_,fun h2=>?_⟩
   ·have h2:=zA1 h2;have vY:k+1<H4 p.length a 1:=by omega
    have hv:=G4.2 ⟨vY,by rw[Nt];exact h2,fun j hj=>hk.2 j va5⟩;have hb:=M1 hv;have b1:=cO hp ha hn (.inl rfl) vY;have b2:=cO hp ha hn (.inl rfl) (k:=k) va5;have ji:D5 p thr a 1 (k+1)=(G9 ((a+1*(k:Int))*(M7 p a 1 (k+1)-M7 p a 1 k)+1*(thr-M7 p a 1 k)) (M7 p a 1 (k+1)-M7 p a 1 k)).1:=rfl;rw[ek,Nt,Int.one_mul,Int.one_mul]at ji;rw[ek]at b2;rw[Nt]at b1;rw[hb,ji];have k2:=hk.2 k (Nat.le_refl k);rw[ek]at k2;clear hv hb ji ek Nt eK e0 hk;conv=>whnf
    (repeat' (first|(refine⟨va4,?_⟩;(conv=>whnf))|(refine And.intro (a:=_/\_) ⟨va5,va5⟩ ?_;(conv=>whnf))));rw[w1];generalize p.getD (a+k+1).toNat 0=u at *
    generalize p.getD (a+k).toNat 0=v at *
    have m1:(a+k)*(u-v)<=64*(u-v):=Int.mul_le_mul_of_nonneg_right va5 va5;have m2:0<=(a+k)*(u-v):=Int.mul_nonneg va5 va5;have w2:IntKind.i64.wrap (u-v)=u-v:=z5 _ va5 va5;rw[w2];have w3:IntKind.i64.wrap ((a+k)*(u-v))=(a+k)*(u-v):=z5 _ va5 va5;rw[w3];have w4:IntKind.i64.wrap ((a+k)*(u-v)+thr)=(a+k)*(u-v)+thr:=z5 _ va5 va5;rw[w4];have w5:IntKind.i64.wrap ((a+k)*(u-v)+thr-v)=(a+k)*(u-v)+(thr-v):=by rw[z5 _ va5 va5];omega
    rw[w5]
    (first|(refine Or.inl ?_;(conv=>whnf);refine⟨_,cR _ _ (by unfold A4;omega) (by unfold A4;omega),?_⟩)|refine⟨_,cR _ _ (by unfold A4;omega) (by unfold A4;omega),?_⟩)
    conv=>whnf
   ·have h2:=zA0 h2;refine⟨k+1,vb3 ?_⟩;refine kK ⟨⟨Nat.sub_lt_sub_left va5 (Nat.lt_succ_self k),va5,fun j hj=>?_⟩,?_,rfl,rfl⟩
    ·by_cases e:j=k+1
     ·subst e;rw[Nt];omega
     ·exact hk.2 j va5
    ·rw[w1];show [i64 (a+k+1)]=[i64 (a+((k+1:Nat):Int))]
     congr 2;omega
  ·have h1:=zA0 h1;have hb:=cQ (p:=p) (thr:=thr) (a:=a) (d:=1) (eJ.2 fun j hj=>hk.2 j va5);rw[hb];conv=>whnf
theorem Jo(p:List Int)(thr a:Int)(hp:ke p)(hl:p.length<=64)(ha:0<=a)(hn:a<p.length)(t1:1<=thr)(t2:thr<=255) :
  va6 224 [A9 p,i64 thr,i64 a] (.tup [fr (vX p thr a (-1)).1,.bool (vX p thr a (-1)).2]):=by
 have st:H4 p.length a (-1)=(a+1).toNat:=by unfold H4;simp
 have eK:∀ k:Nat,M7 p a (-1) k=p.getD (a-k).toNat 0:=by intro k;unfold M7;congr 2;omega
 have e0:M7 p a (-1) 0=p.getD a.toNat 0:=by rw[eK];simp
 refine vb4 Tryz.func224 ?_;refine⟨⟨va5,va5⟩,vb3 ?_⟩;refine⟨fun h=>?_,fun h=>?_⟩
 ·have h:=zA1 h;have hb:=M1 (G4.2 ⟨show 0<H4 p.length a (-1)by omega,by rw[e0];exact h,fun j hj=>absurd hj (zB3 j)⟩);have ji:D5 p thr a (-1) 0=(G9 a 1).1:=rfl;rw[hb,ji];conv=>whnf
  (first|(refine Or.inl ?_;(conv=>whnf);refine⟨_,cR a 1 (by unfold A4;omega) (by unfold A4;omega),?_⟩)|refine⟨_,cR a 1 (by unfold A4;omega) (by unfold A4;omega),?_⟩)
  conv=>whnf
 have h:=zA0 h;conv=>whnf
 refine Or.inr ⟨Nat,[8],[],[],fun k=>[i64 (a-k)],fun _=>[],fun _=>[],fun k=>p.length-k,fun k=>0<=a-k/\∀ j,j<=k->M7 p a (-1) j<thr,vb3 ?_⟩;refine⟨⟨0,?_⟩,?_⟩
 ·(conv=>whnf);refine kK ⟨⟨va5,fun j hj=>?_⟩,?_,rfl,rfl⟩
  ·obtain rfl:j=0:=by omega
   rw[e0];omega
  ·show [i64 a]=[i64 (a-((0:Nat):Int))]
   simp
 ·intro k hk;have w1:IntKind.i64.wrap (a-k-1)=a-k-1:=z5 _ va5 va5;have ek:M7 p a (-1) k=p.getD (a-k).toNat 0:=eK k;have Nt:M7 p a (-1) (k+1)=p.getD (a-k-1).toNat 0:=by rw[eK];congr 2;omega
  conv=>whnf
  refine⟨fun h1=>?_,fun h1=>?_⟩
  ·have h1:=zA1 h1;conv=>whnf
   rw[w1];refine⟨⟨va5,va5⟩,vb3 ?_⟩;refine⟨fun h2=>?_,fun h2=>?_⟩
   ·have h2:=zA1 h2;have vY:k+1<H4 p.length a (-1):=by omega
    have hv:=G4.2 ⟨vY,by rw[Nt];exact h2,fun j hj=>hk.2 j va5⟩;have hb:=M1 hv;have b1:=cO hp ha hn (.inr rfl) vY;have b2:=cO hp ha hn (.inr rfl) (k:=k) va5;have ji:D5 p thr a (-1) (k+1)=(G9 ((a + -1*(k:Int))*(M7 p a (-1) (k+1)-M7 p a (-1) k) + -1*(thr-M7 p a (-1) k)) (M7 p a (-1) (k+1)-M7 p a (-1) k)).1:=rfl;rw[ek,Nt,show a + -1*(k:Int)=a-k by omega]at ji;rw[ek]at b2;rw[Nt]at b1;rw[hb,ji];have k2:=hk.2 k (Nat.le_refl k);rw[ek]at k2;clear hv hb ji ek Nt eK e0;conv=>whnf
    (repeat' (first|(refine⟨va4,?_⟩;(conv=>whnf))|(refine And.intro (a:=_/\_) ⟨va5,va5⟩ ?_;(conv=>whnf))));rw[w1];have hak:=hk.1;clear hk;generalize p.getD (a-k-1).toNat 0=u at *
    generalize p.getD (a-k).toNat 0=v at *
    have m1:(a-k)*(u-v)<=64*(u-v):=Int.mul_le_mul_of_nonneg_right va5 va5;have m2:0<=(a-k)*(u-v):=Int.mul_nonneg va5 va5;have w2:IntKind.i64.wrap (u-v)=u-v:=z5 _ va5 va5;rw[w2];have w3:IntKind.i64.wrap ((a-k)*(u-v))=(a-k)*(u-v):=z5 _ va5 va5;rw[w3];have w4:IntKind.i64.wrap (thr-v)=thr-v:=z5 _ va5 va5;rw[w4];have w5:IntKind.i64.wrap ((a-k)*(u-v)-(thr-v))=(a-k)*(u-v) + -1*(thr-v):=by rw[z5 _ va5 va5];omega
    rw[w5]
    (first|(refine Or.inl ?_;(conv=>whnf);refine⟨_,cR _ _ (by unfold A4;omega) (by unfold A4;omega),?_⟩)|refine⟨_,cR _ _ (by unfold A4;omega) (by unfold A4;omega),?_⟩)
    conv=>whnf
   ·have h2:=zA0 h2;refine⟨k+1,vb3 ?_⟩;refine kK ⟨⟨Nat.sub_lt_sub_left va5 (Nat.lt_succ_self k),va5,fun j hj=>?_⟩,?_,rfl,rfl⟩
    ·by_cases e:j=k+1
     ·subst e;rw[Nt];omega
     ·exact hk.2 j va5
    ·rw[w1];show [i64 (a-k-1)]=[i64 (a-((k+1:Nat):Int))]
     congr 2;omega
  ·have h1:=zA0 h1;have hb:=cQ (p:=p) (thr:=thr) (a:=a) (d := -1) (eJ.2 fun j hj=>hk.2 j va5);rw[hb];conv=>whnf

end Go.Proofs.Tryz.My
