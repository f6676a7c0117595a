/- Helper lemmas. -/
import Derived.Test.YtdpnpdjnaimgaaaGreatMzGpA
import Derived.Test.YtdpnpdjnaimgaaaGreatMzEaA
import Derived.Test.YtdpnpdjnaimgaaaGreatMzRfC
set_option linter.unusedVariables false
set_option linter.unusedSimpArgs false
set_option maxRecDepth 100000
set_option maxHeartbeats 0
namespace Go.Proofs.Tryz.My
open Go Go.Ev
theorem eu(n lo hi:Int):va6 165 [i64 n,i64 lo,i64 hi] (.bool (D1 n lo hi)):=by
 refine pF Tryz.func165 ?_;conv=>whnf
 refine⟨fun h=>?_,fun h=>?_⟩<;>((conv=>whnf);simp_all [-decide_eq_true_eq,-decide_eq_false_iff_not,D1])
theorem X8(lo hi n:Int):va6 87 [i64 lo,i64 hi,i64 n] (.bool (D1 n lo hi)):=by
 refine pF Tryz.func87 ?_;conv=>whnf
 refine⟨fun h=>?_,fun h=>?_⟩<;>((conv=>whnf);simp_all [-decide_eq_true_eq,-decide_eq_false_iff_not,D1])
theorem kh(fX:Nat)(p:Int->Bool)(hp:∀ n,va6 fX [i64 n] (.bool (p n)))(l:List Int)(hl:l.length<2^40):va6 138 [C8 l,.fn (.func fX) [] []] (i64 (uG p l)):=by
 refine pF Tryz.func138 ?_;conv=>whnf
 refine Or.inr ⟨Nat,[8],[],[],fun k=>[i64 k],fun _=>[],fun _=>[],fun k=>l.length-k,fun k=>k<=l.length/\∀ i,i<k->p (l.getD i 0)=false,?_⟩;conv=>whnf
 refine⟨⟨0,?_⟩,?_⟩
 ·(conv=>whnf);exact kK ⟨by simp,rfl,rfl,rfl⟩
 ·intro k hk;conv=>whnf
  refine⟨fun h=>?_,fun h=>?_⟩
  ·have h:=zA1 h;conv=>whnf
   refine⟨⟨va5,va5⟩,?_⟩;conv=>whnf
   (first|(refine Or.inl ?_;(conv=>whnf);refine⟨_,hp _,?_⟩)|refine⟨_,hp _,?_⟩)
   conv=>whnf
   refine⟨fun h2=>?_,fun h2=>?_⟩
   ·(conv=>whnf);exact congrArg i64 (pX _ 0 l k va5 h2 hk.2).symm
   ·refine⟨k+1,?_⟩;conv=>whnf
    refine kK ⟨⟨?_,?_,?_⟩,?_,rfl,rfl⟩
    ·show l.length-(k+1)<l.length-k;omega
    ·omega
    ·intro i hi;by_cases e:i=k
     ·subst e;exact h2
     ·exact hk.2 i va5
    ·rw[C7 _ va5 va5];rfl
  ·have h:=zA0 h;conv=>whnf
   exact congrArg i64 (lS _ 0 l fun i hi=>hk.2 i va5).symm
theorem bt(fX:Nat)(p:Int->Bool)(hp:∀ n,va6 fX [i64 n] (.bool (p n)))(l:List Int)(hl:l.length<2^40):va6 84 [C8 l,.fn (.func fX) [] []] (.bool (l.any p)):=by
 refine pF Tryz.func84 ?_;conv=>whnf
 (first|(refine Or.inl ?_;(conv=>whnf);refine⟨_,kh fX p hp l hl,?_⟩)|refine⟨_,kh fX p hp l hl,?_⟩)
 conv=>whnf
 rw[pY]
theorem zR(l:List Int)(h0:l≠[])(hl:l.length<2^30):va7 129 [C8 l] [] (.own 0) [.vec 3 1 0 eI l]:=by
 refine pW Tryz.func129 ⟨va4,?_⟩;conv=>whnf
 intro b hb;conv=>whnf
 refine⟨fun h=>absurd (hb h) h0,fun h=>?_⟩;conv=>whnf
 refine⟨⟨Int,1,0,eI,[]⟩,l,rfl,⟨rfl,rfl⟩,rfl,?_,?_,fun y _=>⟨rfl,rfl,rfl⟩,?_⟩
 ·show(0+l.length)*8<=_;omega
 ·show 0+l.length<=_;omega
 conv=>whnf
 refine⟨[7],va4,?_⟩;conv=>whnf
 exact⟨rfl,rfl⟩
def Dd(n:Int):Bool := !D1 n 0 255
theorem nG(n:Int):va6 86 [i64 n] (.bool (Dd n)):=by
 refine pF Tryz.func86 ?_;conv=>whnf
 (first|(refine Or.inl ?_;(conv=>whnf);refine⟨_,X8 0 255 n,?_⟩)|refine⟨_,X8 0 255 n,?_⟩)
 conv=>whnf
 rfl
def L2(l:List Int):Bool:=D1 l.length 2 64 && !l.any Dd
theorem cE(l:List Int)(hl:l.length<2^40):va6 46 [C8 l] (i64 (if L2 l then 0 else 50)):=by
 refine pF Tryz.func46 ?_;conv=>whnf
 (repeat' ((first|refine va0 (fun hh=>?_) fun hh=>?_|refine kR ?_|((try refine .inl ?_;conv=>whnf);(try refine⟨false,?_⟩;conv=>whnf);refine⟨_,by first|exact X8 2 64 l.length|exact bt _ Dd nG l hl,?_⟩)|fail)<;>first|exact hh.elim|conv=>whnf));all_goals simp_all [L2]
theorem r6(l:List Int)(hl:l.length<2^40):va6 120 [C8 l] (.bool (L2 l)):=by
 refine pF Tryz.func120 ?_;conv=>whnf
 by_cases h1:2<=l.length/\l.length<=64
 rotate_left
 ·(repeat' ((first|refine va0 (fun hh=>?_) fun hh=>?_|refine kR ?_|fail)<;>first|exact hh.elim|conv=>whnf));all_goals (congr 1;refine Eq.symm ?_;simp only[L2,D1,Bool.and_eq_false_iff,decide_eq_false_iff_not];omega)
 refine vb8 ?_;(repeat intro hh);refine Or.inr ⟨Nat,[3],[],[],fun k=>[i64 k],fun _=>[],fun _=>[],fun k=>l.length-k,fun k=>k<=l.length/\∀ i,i<k->Dd (l.getD i 0)=false,?_⟩;conv=>whnf
 refine⟨⟨0,?_⟩,?_⟩
 ·(conv=>whnf);exact kK ⟨by simp,rfl,rfl,rfl⟩
 ·intro k hk;conv=>whnf
  refine⟨fun h=>?_,fun h=>?_⟩
  ·have h:=zA1 h;conv=>whnf
   refine⟨⟨va5,va5⟩,?_⟩;conv=>whnf
   (first|(refine Or.inl ?_;(conv=>whnf);refine⟨_,eu _ _ _,?_⟩)|refine⟨_,eu _ _ _,?_⟩)
   conv=>whnf
   refine⟨fun h2=>?_,fun h2=>?_⟩
   ·(conv=>whnf)
    congr 1
    have hm:Dd (l.getD k 0)=true:=by simpa[Dd]using h2
    have:l.any Dd=true:=List.any_eq_true.2 ⟨l.getD k 0,by simp[List.getD,show k<l.length by omega],hm⟩;simp[L2,this]
   ·refine⟨k+1,?_⟩;conv=>whnf
    refine kK ⟨⟨?_,?_,?_⟩,?_,rfl,rfl⟩
    ·show l.length-(k+1)<l.length-k;omega
    ·omega
    ·intro i hi;by_cases e:i=k
     ·subst e;simpa[Dd]using h2
     ·exact hk.2 i va5
    ·rw[C7 _ va5 va5];rfl
  ·have h:=zA0 h;conv=>whnf
   congr 1
   have:l.any Dd=false:=List.any_eq_false.2 fun x hx=>by
    obtain⟨i,hi,rfl⟩:=List.getElem_of_mem hx;have:=hk.2 i va5;simpa[List.getD,hi]using this
   have h2:D1 l.length 2 64=true:=by simp only[D1,zA2,zA3];omega
   simp[L2,this,h2]
theorem vp(l:List Int)(hl:l.length<2^40):va6 238 [C8 l] (i64 (if L2 l then 0 else 50)):=by
 refine pF Tryz.func238 ?_;conv=>whnf
 (repeat' ((first|refine va0 (fun hh=>?_) fun hh=>?_|refine kR ?_|((try refine .inl ?_;conv=>whnf);(try refine⟨false,?_⟩;conv=>whnf);refine⟨_,by exact r6 l hl,?_⟩)|fail)<;>first|exact hh.elim|conv=>whnf));all_goals simp_all
def Ks(x:Int):Int:=if 255<(if 0 > x then 0 else x)then 255 else(if 0 > x then 0 else x)
theorem a2S(x:Int):Ks x=if (if x > 0 then x else 0)<255 then(if x > 0 then x else 0)else 255:=by unfold Ks;split<;>split<;>split<;>(try split)<;>omega
def bu(p:List Int)(f:Nat->Int)(k:Nat):List Int:=(List.range p.length).map fun i=>if i<k then f i else p.getD i 0
theorem R3(p:List Int)(f:Nat->Int)(k:Nat):(bu p f k).length=p.length:=by simp[bu]
theorem uY(p:List Int)(f:Nat->Int)(k i:Nat)(h:i<p.length):(bu p f k).getD i 0=if i<k then f i else p.getD i 0:=by simp[bu,List.getD,h]
theorem uZ(p:List Int)(f:Nat->Int):bu p f 0=p:=by
 refine List.ext_getElem (by simp[bu]) fun i h1 h2=>?_
 simp[bu,List.getD,h2]
theorem a1M(p:List Int)(f:Nat->Int)(k:Nat):(bu p f k).set k (f k)=bu p f (k+1):=by
 refine List.ext_getElem (by simp[bu]) fun i h1 h2=>?_
 simp only[bu,List.getElem_set,List.getElem_map,List.getElem_range];by_cases e:k=i
 ·subst e;simp
 ·simp only[e,if_false];by_cases h:i<k
  ·simp[h,show i<k+1 by omega]
  ·simp[h,show ¬ i<k+1 by omega]
theorem zT(p:List Int)(f:Nat->Int):bu p f p.length=(List.range p.length).map f:=by
 refine List.ext_getElem (by simp[bu]) fun i h1 h2=>?_
 simp[bu]at h1 ⊢;intro h;omega
theorem zU{l:List Int}{q:Int->Bool}(h:l.any q=false)(i:Nat)(hi:i<l.length):q (l.getD i 0)=false:=by
 have:=List.any_eq_false.1 h (l.getD i 0) (by simp[List.getD,hi]);simpa using this
theorem rO{l:List Int}(h:l.any Dd=false)(i:Nat)(hi:i<l.length):0<=l.getD i 0/\l.getD i 0<=255:=by
 have:=zU h i hi;simp only[Dd,D1,Bool.not_eq_false',zA2,zA3]at this;exact this
theorem M0{p:List Int}(h:L2 p=true):2<=p.length/\p.length<=64:=by
 simp only[L2,D1,zA2,zA3]at h;omega
theorem zV{p:List Int}(h:L2 p=true):p.any Dd=false:=by
 simp only[L2,zA2]at h;simpa using h.2
def rP(n:Nat)(a d:Int):List (List AV):=(List.range (N5 n a d)).map fun(k:Nat)=>[i64 (a+d*k)]
theorem zW(n:Nat)(a d:Int)(k:Nat):(rP n a d)[k]? = if k<N5 n a d then some [i64 (a+d*k)]else none:=by
 unfold rP;rw[List.getElem?_map];by_cases h:k<N5 n a d<;>simp[h]
theorem NO(n:Nat)(a d:Int)(ha:0<=a)(hn:a<n)(hl:n<2^40)(hd:hC d):SQ Tryz.prog 316 [.pt [i64 a] 0,.pt [i64 n] 0,.pt [i64 d] 0] (rP n a d):=by
 have hs:N5 n a d<=n:=by unfold N5;rcases hd with rfl|rfl<;>simp<;>omega
 have step:∀ k:Nat,(k<N5 n a d↔0<=a+d*k/\a+d*k<n)/\(a+d*k+d=a+d*((k+1:Nat):Int)):=by
  intro k
  constructor
  ·unfold N5;rcases hd with rfl|rfl<;>simp<;>omega
  ·rcases hd with rfl|rfl<;>omega
 have Y8:=zW n a d;have hlen:(rP n a d).length=N5 n a d:=by simp[rP]
 generalize rP n a d=xs at *
 generalize N5 n a d=m at *
 refine oU hm Tryz.func316 va4 ⟨va4,fun l=>?_⟩;conv=>whnf
 refine Or.inr ⟨Nat,[5],[22],[],fun k=>[i64 (a+d*k)],fun k=>[.ctr l xs k false],fun _=>[],fun k=>m-k,fun k=>k<=m,?_⟩;conv=>whnf
 refine⟨⟨0,?_⟩,?_⟩
 ·(conv=>whnf);refine kK ⟨zB4 _,?_,rfl,rfl⟩;show [i64 a]=[i64 (a+d*((0:Nat):Int))]
  simp
 ·intro k hk;have st:=step k;conv=>whnf
  refine⟨fun h=>?_,fun h=>?_⟩
  ·have h:=zA1 h;conv=>whnf
   refine⟨fun h2=>?_,fun h2=>?_⟩
   ·have h2:=zA1 h2;have Xq:=st.1.2 ⟨h,h2⟩;conv=>whnf
    refine⟨⟨rfl,by exact(Y8 k).trans (by rw[if_pos Xq];rfl),va4⟩,?_,?_⟩
    ·(conv=>whnf);refine⟨k+1,?_⟩;conv=>whnf
     refine kK ⟨⟨Nat.sub_lt_sub_left va5 (Nat.lt_succ_self k),va5⟩,?_,rfl,rfl⟩;rw[C7 _ (by rcases hd with rfl|rfl<;>omega) (by rcases hd with rfl|rfl<;>omega),st.2]
    ·(conv=>whnf);intro h;cases h
   ·have h2:=zA0 h2;conv=>whnf
    intro _;rw[hlen];have:=mt st.1.1 (fun k=>h2 k.2);omega
  ·have h:=zA0 h;conv=>whnf
   intro _;rw[hlen];have:=mt st.1.1 (fun k=>h k.1);omega
theorem GJ(p:List Int)(thr a a8:Int)(hl:p.length<2^40):va6 247 [C8 p,i64 thr,i64 a,i64 a8] (i64 (if L2 p then(if dF p thr a a8 then 0 else 2)else 50)):=by
 have c1:=cE p hl;have hw:IntKind.i64.wrap ((p.length:Int)-1)=(p.length:Int)-1:=C7 _ va5 va5;cases hp:L2 p
 ·rw[hp]at c1;refine pF Tryz.func247 ?_;conv=>whnf
  refine vb7 ?_;(repeat intro hh);all_goals simp
 rw[hp]at c1;refine pF Tryz.func247 ?_;conv=>whnf
 (repeat' ((first|refine va0 (fun hh=>?_) fun hh=>?_|refine kR ?_|((try refine .inl ?_;conv=>whnf);(try refine⟨false,?_⟩;conv=>whnf);refine⟨_,by first|assumption|exact X8 _ _ _,?_⟩)|fail)<;>first|exact hh.elim|conv=>whnf));all_goals (first|(simp_all [dF,D1];done)|(simp_all [dF,D1];intros;omega))
theorem a2D(p:List Int)(thr a a8:Int)(hl:p.length<2^40):va6 258 [C8 p,i64 thr,i64 a,i64 a8] (i64 (if L2 p then(if dF p thr a a8 then 0 else 2)else 50)):=by
 have c1:=r6 p hl;have hw:IntKind.i64.wrap ((p.length:Int)-1)=(p.length:Int)-1:=C7 _ va5 va5;cases hp:L2 p
 ·rw[hp]at c1;refine pF Tryz.func258 ?_;conv=>whnf
  refine vb7 ?_;(repeat intro hh);all_goals simp
 rw[hp]at c1;refine pF Tryz.func258 ?_;conv=>whnf
 (repeat' ((first|refine va0 (fun hh=>?_) fun hh=>?_|refine kR ?_|((try refine .inl ?_;conv=>whnf);(try refine⟨false,?_⟩;conv=>whnf);refine⟨_,by first|assumption|exact eu _ _ _,?_⟩)|fail)<;>first|exact hh.elim|conv=>whnf));all_goals (first|(simp_all [dF,D1];done)|(simp_all [dF,D1];intros;omega))
theorem jr{p:List Int}(h:L2 p=true):rK p:=fun i hi=>rO (zV h) i hi
theorem ag{p:List Int}{thr a a8:Int}(h:dF p thr a a8=true):1<=thr/\thr<=255/\0<=a/\a<p.length/\0<=a8/\a8<=64:=by
 simp only[dF,zA2,zA3]at h;omega
theorem NP(n:Int)(a d:Int):va6 286 [i64 n,i64 a,i64 d] (.fn (.func 316) [] [.pt [i64 a] 0,.pt [i64 n] 0,.pt [i64 d] 0]):=by
 refine pF Tryz.func286 ?_;conv=>whnf
theorem fB(n:Int):va6 92 [i64 n] (fr (n,1)):=by
 refine pF Tryz.func92 ?_;conv=>whnf
 try exact va1
set_option maxHeartbeats 1000000
theorem rQ(p:List Int)(thr a d:Int)(hp:rK p)(hl:p.length<=64)(ha:0<=a)(hn:a<p.length)(hd:hC d)(t1:1<=thr)(t2:thr<=255) :
  va6 248 [C8 p,i64 thr,i64 a,i64 d] (.tup [fr (Da p thr a d).1,.bool (Da p thr a d).2]):=by
 have sq:=NO p.length a d ha hn va5 hd;have Y8:=zW p.length a d;have hlen:(rP p.length a d).length=N5 p.length a d:=by simp[rP]
 have Kt:∀ x ∈ rP p.length a d,ow x=true/\x.length=1:=by
  intro x hx;obtain⟨k,_,rfl⟩:=List.mem_map.1 hx;exact⟨va4,rfl⟩
 have SO:∀ k x,(rP p.length a d)[k]? = some x->k<N5 p.length a d/\x=[i64 (a+d*(k:Int))]:=by
  intro k x hx;rw[Y8]at hx;by_cases De:k<N5 p.length a d
  ·rw[if_pos De]at hx;exact⟨De,(Option.some.inj hx).symm⟩
  ·rw[if_neg De]at hx;cases hx
 refine pF Tryz.func248 ?_;conv=>whnf
 (repeat' ((first|refine va0 (fun hh=>?_) fun hh=>?_|refine kR ?_|((try refine .inl ?_;conv=>whnf);(try refine⟨false,?_⟩;conv=>whnf);refine⟨_,by exact NP _ _ _,?_⟩)|fail)<;>first|exact hh.elim|conv=>whnf));refine⟨rP p.length a d,[],fun _=>[],fun k=>k<=N5 p.length a d/\∀ j,j<k->R9 p a d j<thr,⟨sq,Kt⟩,?_⟩;refine⟨va4,?_⟩;refine⟨?_,?_⟩
 ·(conv=>whnf);exact kK ⟨⟨zB4 _,fun j hj=>absurd hj (zB3 j)⟩,rfl,rfl,rfl⟩
 refine⟨?_,?_⟩
 ·with_reducible refine uL SO ?_
  intro k De hk;have oJ:=mj ha hn hd De;conv=>whnf
  (repeat' (first|(refine⟨va4,?_⟩;(conv=>whnf))|(refine And.intro (a:=_/\_) ⟨va5,va5⟩ ?_;(conv=>whnf))));refine⟨fun h=>?_,fun h=>?_⟩
  ·have h:=zA1 h;conv=>whnf
   refine⟨⟨⟨va5,fun j hj=>?_⟩,rfl⟩,va4⟩;by_cases e:j=k
   ·subst e;exact h
   ·exact hk.2 j va5
  ·have h:=zA0 h;conv=>whnf
   refine⟨fun h2=>?_,fun h2=>?_⟩
   ·have h2:=zA1 h2;obtain rfl:k=0:=by rcases hd with rfl|rfl<;>omega
    have hb:=bU (J1.2 ⟨De,Int.not_lt.1 h,hk.2⟩);conv=>whnf
    (first|(refine Or.inl ?_;(conv=>whnf);refine⟨_,fB _,?_⟩)|refine⟨_,fB _,?_⟩)
    conv=>whnf
    rw[hb];simp[E7,Q4,GH (show -4611686018427387903<=a by omega) (show a<=4611686018427387903 by omega)]
   ·have h2:=zA0 h2;obtain⟨m,rfl⟩:∃ m,k=m+1:=⟨k-1,by rcases hd with rfl|rfl<;>omega⟩
    have hb:=bU (J1.2 ⟨De,Int.not_lt.1 h,hk.2⟩);have hm:=mj ha hn hd (k:=m) va5;have wd:IntKind.i64.wrap (a+d*((m+1:Nat):Int)-d)=a+d*(m:Int):=by rw[C7 _ (by rcases hd with rfl|rfl<;>omega) (by rcases hd with rfl|rfl<;>omega)];rcases hd with rfl|rfl<;>omega
    conv=>whnf
    rw[wd];(repeat' (first|(refine⟨va4,?_⟩;(conv=>whnf))|(refine And.intro (a:=_/\_) ⟨va5,va5⟩ ?_;(conv=>whnf))));have hv:=J1.2 ⟨De,Int.not_lt.1 h,hk.2⟩;have b1:=mn hp ha hn hd De;have b2:=mn hp ha hn hd (k:=m) va5;have b3:=hk.2 m va5;have b4:thr<=R9 p a d (m+1):=Int.not_lt.1 h;have pB:E7 p thr a d (m+1)=(M9 ((a+d*(m:Int))*(R9 p a d (m+1)-R9 p a d m)+d*(thr-R9 p a d m)) (R9 p a d (m+1)-R9 p a d m)).1:=rfl;have w1:IntKind.i64.wrap (thr-p.getD (a+d*(m:Int)).toNat 0)=thr-R9 p a d m:=C7 (thr-R9 p a d m) va5 va5;have w2:IntKind.i64.wrap (p.getD (a+d*((m+1:Nat):Int)).toNat 0-p.getD (a+d*(m:Int)).toNat 0)=R9 p a d (m+1)-R9 p a d m:=C7 (R9 p a d (m+1)-R9 p a d m) va5 va5;have w3:IntKind.i64.wrap (d*(thr-R9 p a d m))=d*(thr-R9 p a d m):=C7 _ (by rcases hd with rfl|rfl<;>omega) (by rcases hd with rfl|rfl<;>omega);have n1 : -255<=d*(thr-R9 p a d m)/\d*(thr-R9 p a d m)<=255:=by rcases hd with rfl|rfl<;>omega
    rw[w1,w2,w3];have cm:=Nv (d*(thr-R9 p a d m)) (R9 p a d (m+1)-R9 p a d m) (by unfold G7;omega) (by unfold G7;omega);have Ux:=Kq (w:=a+d*(m:Int)) (N:=d*(thr-R9 p a d m)) (s:=R9 p a d (m+1)-R9 p a d m) va5 va5 va5 va5 va5 va5;have Nh:=dW (n:=d*(thr-R9 p a d m)) (d:=R9 p a d (m+1)-R9 p a d m) va5 va5 va5 va5;have ca:=Ra (a+d*(m:Int),1) (M9 (d*(thr-R9 p a d m)) (R9 p a d (m+1)-R9 p a d m)).1;have YK:oZ lZ (a+d*(m:Int),1) (M9 (d*(thr-R9 p a d m)) (R9 p a d (m+1)-R9 p a d m)).1=M9 ((a+d*(m:Int))*(R9 p a d (m+1)-R9 p a d m)+d*(thr-R9 p a d m)) (R9 p a d (m+1)-R9 p a d m):=by
     unfold oZ;rw[nF va5 va5,Nh.1];exact Ux
    rw[YK]at ca;rw[hb,pB];clear Ux Nh YK pB w1 w2 w3 n1 b1 b2 b3 b4 hv;generalize M9 ((a+d*(m:Int))*(R9 p a d (m+1)-R9 p a d m)+d*(thr-R9 p a d m)) (R9 p a d (m+1)-R9 p a d m)=R at *
    generalize M9 (d*(thr-R9 p a d m)) (R9 p a d (m+1)-R9 p a d m)=M at *
    (first|(refine Or.inl ?_;(conv=>whnf);refine⟨_,cm,?_⟩)|refine⟨_,cm,?_⟩)
    conv=>whnf
    (repeat' (first|(refine⟨va4,?_⟩;(conv=>whnf))|(refine And.intro (a:=_/\_) ⟨va5,va5⟩ ?_;(conv=>whnf))))
    (first|(refine Or.inl ?_;(conv=>whnf);refine⟨_,fB _,?_⟩)|refine⟨_,fB _,?_⟩)
    conv=>whnf
    (first|(refine Or.inl ?_;(conv=>whnf);refine⟨_,ca,?_⟩)|refine⟨_,ca,?_⟩)
    conv=>whnf
    (repeat' (first|(refine⟨va4,?_⟩;(conv=>whnf))|(refine And.intro (a:=_/\_) ⟨va5,va5⟩ ?_;(conv=>whnf))))
 ·with_reducible refine zw ?_
  intro hk;rw[hlen]at hk;have hb:=rM (mh.2 hk.2);conv=>whnf
  rw[hb]
theorem Rb(x:Int):Ks x=aE x:=by unfold Ks aE;split<;>split<;>(try split)<;>(try split)<;>omega
theorem Df(p:List Int)(b:Int):(List.range p.length).map (fun i=>aE (p.getD i 0+b))=C6 p b:=by
 refine List.ext_getElem (by simp[C6]) fun i h1 h2=>?_
 simp at h1;simp[C6,List.getD,h1]
theorem iS(b:Int):va6 249 [i64 b] (.fn (.func 289) [] [.pt [i64 b] 0]):=by
 refine pF Tryz.func249 ?_;conv=>whnf
theorem a1N(p:List Int)(b:Int)(h0:p≠[])(hl:p.length<2^30)(hp:rK p)(b1 : -64<=b)(b2:b<=64):va7 289 [C8 p,.pt [i64 b] 0] [] (.own 0) [.vec 3 1 0 eI (C6 p b)]:=by
 refine pW Tryz.func289 ⟨va4,?_⟩;conv=>whnf
 (refine va2 [] [8] ?_;(conv=>whnf);refine va3 [] (zR p h0 hl) ?_);conv=>whnf
 refine Or.inr ⟨Nat,[11],[8],[],fun k=>[i64 k],fun k=>[.vec 3 1 0 eI (bu p (fun i=>aE (p.getD i 0+b)) k)],fun _=>[],fun k=>p.length-k,fun k=>k<=p.length,?_⟩;conv=>whnf
 refine⟨⟨0,?_⟩,?_⟩
 ·(conv=>whnf);refine kK ⟨zB4 _,rfl,?_,rfl⟩;show [Row.vec 3 1 0 eI p]=[Row.vec 3 1 0 eI (bu p _ 0)]
  rw[uZ]
 ·intro k hk;conv=>whnf
  refine⟨fun h=>?_,fun h=>?_⟩
  ·have h:=zA1 h;have a1:=hp k va5;conv=>whnf
   refine⟨⟨va5,by rw[R3];omega⟩,?_⟩;conv=>whnf
   refine⟨by rw[R3];omega,?_⟩;conv=>whnf
   refine⟨⟨va5,by rw[R3];omega⟩,?_⟩;conv=>whnf
   refine⟨aE (p.getD k 0+b),?_,by rw[R3];omega,?_⟩
   ·have e1:(bu p (fun i=>aE (p.getD i 0+b)) k).getD (Int.toNat (k:Int)) 0=p.getD k 0:=by
     show(bu p _ k).getD k 0=_
     rw[uY p _ k k va5];simp
    rw[e1,C7 (p.getD k 0+b) va5 va5,<- Rb];rfl
   conv=>whnf
   refine⟨k+1,?_⟩;conv=>whnf
   refine kK ⟨⟨Nat.sub_lt_sub_left va5 (Nat.lt_succ_self k),va5⟩,?_,?_,rfl⟩
   ·rw[C7 _ va5 va5];rfl
   ·show [Row.vec _ 1 0 eI ((bu p _ k).set k (aE (p.getD k 0+b)))]=_
    rw[show(bu p (fun i=>aE (p.getD i 0+b)) k).set k (aE (p.getD k 0+b))=_ from a1M p (fun i=>aE (p.getD i 0+b)) k]
  ·have h:=zA0 h;obtain rfl:k=p.length:=by omega
   conv=>whnf
   refine⟨[8],va4,?_⟩;conv=>whnf
   refine⟨rfl,?_⟩;show [Row.vec _ 1 0 eI (bu p _ p.length)]=_
   rw[zT,Df];rfl
theorem a1o(p:List Int)(b:Int)(hl:p.length<2^30)(hp:rK p)(b1 : -64<=b)(b2:b<=64):va6 213 [C8 p,i64 b] (C8 (C6 p b)):=by
 refine pF Tryz.func213 ?_;conv=>whnf
 refine Or.inr ⟨Nat,[6],[],[(5,⟨Int,3,1,0,eI⟩)],fun i=>[i64 i],fun _=>[],fun i=>[.vec 3 1 0 eI ((List.range i).map (fun i=>aE (p.getD i 0+b)))],fun i=>p.length-i,fun i=>i<=p.length,?_⟩;conv=>whnf
 refine⟨⟨0,?_⟩,?_⟩
 ·(conv=>whnf);exact kK ⟨zB4 _,rfl,rfl,rfl⟩
 ·intro k hk;conv=>whnf
  refine⟨fun h=>?_,fun h=>?_⟩
  ·have h:=zA1 h;have a1:=hp k va5;conv=>whnf
   refine vb8 ?_;(repeat intro hh);refine⟨⟨Int,1,0,eI,(List.range k).map (fun i=>aE (p.getD i 0+b))⟩,[aE (p.getD k 0+b)],rfl,rfl,⟨rfl,?_⟩,?_,?_,fun y _=>⟨rfl,rfl,rfl⟩,?_⟩
   ·rw[C7 (p.getD (Int.toNat (k:Int)) 0+b) (by show _<=p.getD k 0+b;omega) (by show p.getD k 0+b<=_;omega)];show [[i64 _]]=[[i64 (aE (p.getD k 0+b))]]
    rw[<- Rb,a2S];rfl
   ·show(((List.range k).map _).length+1)*8<=_;simp;omega
   ·show((List.range k).map _).length+1<=_;simp;omega
   conv=>whnf
   refine vb8 ?_;(repeat intro hh);refine⟨k+1,?_⟩;conv=>whnf
   refine kK ⟨⟨Nat.sub_lt_sub_left va5 (Nat.lt_succ_self k),va5⟩,?_,rfl,?_⟩
   ·rw[C7 _ va5 va5];rfl
   ·show [Row.vec _ 1 0 eI ((List.range k).map (fun i=>aE (p.getD i 0+b))++[aE (p.getD k 0+b)])]=[Row.vec _ 1 0 eI ((List.range (k+1)).map (fun i=>aE (p.getD i 0+b)))]
    rw[List.range_succ,List.map_append];rfl
  ·have h:=zA0 h;obtain rfl:k=p.length:=by omega
   conv=>whnf
   rw[Df]
theorem kP(num den:Int)(h1:G7 num)(h2:G7 den):va6 297 [i64 num,i64 den] (fr (M9 num den).1):=by
 have c:=a3B num den h1 h2;generalize M9 num den=r at *
 refine pF Tryz.func297 ?_;conv=>whnf
 try exact va1
theorem a2E(p:List Int)(thr a:Int)(hp:rK p)(hl:p.length<=64)(ha:0<=a)(hn:a<p.length)(t1:1<=thr)(t2:thr<=255) :
  va6 259 [C8 p,i64 thr,i64 a] (.tup [fr (Da p thr a 1).1,.bool (Da p thr a 1).2]):=by
 have st:N5 p.length a 1=((p.length:Int)-a).toNat:=by unfold N5;simp
 have eK:∀ k:Nat,R9 p a 1 k=p.getD (a+k).toNat 0:=by intro k;unfold R9;rw[Int.one_mul]
 have e0:R9 p a 1 0=p.getD a.toNat 0:=by rw[eK];simp
 refine pF Tryz.func259 ?_;conv=>whnf
 refine⟨⟨va5,va5⟩,?_⟩;conv=>whnf
 refine⟨fun h=>?_,fun h=>?_⟩
 ·have h:=zA1 h;have hb:=bU (J1.2 ⟨show 0<N5 p.length a 1 by omega,by rw[e0];exact h,fun j hj=>absurd hj (zB3 j)⟩);have pB:E7 p thr a 1 0=(M9 a 1).1:=rfl;rw[hb,pB];conv=>whnf
  (first|(refine Or.inl ?_;(conv=>whnf);refine⟨_,kP a 1 (by unfold G7;omega) (by unfold G7;omega),?_⟩)|refine⟨_,kP a 1 (by unfold G7;omega) (by unfold G7;omega),?_⟩)
  conv=>whnf
 have h:=zA0 h;conv=>whnf
 refine Or.inr ⟨Nat,[8],[],[],fun k=>[i64 (a+k)],fun _=>[],fun _=>[],fun k=>p.length-k,fun k=>a+k<p.length/\∀ j,j<=k->R9 p a 1 j<thr,?_⟩;conv=>whnf
 refine⟨⟨0,?_⟩,?_⟩
 ·(conv=>whnf);refine kK ⟨⟨va5,fun j hj=>?_⟩,?_,rfl,rfl⟩
  ·obtain rfl:j=0:=by omega
   rw[e0];omega
  ·show [i64 a]=[i64 (a+((0:Nat):Int))]
   simp
 ·intro k hk;have w1:IntKind.i64.wrap (a+k+1)=a+k+1:=C7 _ va5 va5;have ek:R9 p a 1 k=p.getD (a+k).toNat 0:=eK k;have ek1:R9 p a 1 (k+1)=p.getD (a+k+1).toNat 0:=by rw[eK];congr 2;omega
  conv=>whnf
  rw[w1];refine⟨fun h1=>?_,fun h1=>?_⟩
  ·have h1:=zA1 h1;conv=>whnf
   rw[w1];refine⟨⟨va5,va5⟩,?_⟩;conv=>whnf
   refine⟨fun h2=>?_,fun h2=>?_⟩
   ·have h2:=zA1 h2;have De:k+1<N5 p.length a 1:=by omega
    have hv:=J1.2 ⟨De,by rw[ek1];exact h2,fun j hj=>hk.2 j va5⟩;have hb:=bU hv;have b1:=mn hp ha hn (.inl rfl) De;have b2:=mn hp ha hn (.inl rfl) (k:=k) va5;have pB:E7 p thr a 1 (k+1)=(M9 ((a+1*(k:Int))*(R9 p a 1 (k+1)-R9 p a 1 k)+1*(thr-R9 p a 1 k)) (R9 p a 1 (k+1)-R9 p a 1 k)).1:=rfl;rw[ek,ek1,Int.one_mul,Int.one_mul]at pB;rw[ek]at b2;rw[ek1]at b1;rw[hb,pB];have k2:=hk.2 k (Nat.le_refl k);rw[ek]at k2;clear hv hb pB ek ek1 eK e0 hk;conv=>whnf
    (repeat' (first|(refine⟨va4,?_⟩;(conv=>whnf))|(refine And.intro (a:=_/\_) ⟨va5,va5⟩ ?_;(conv=>whnf))));rw[w1];generalize p.getD (a+k+1).toNat 0=u at *
    generalize p.getD (a+k).toNat 0=v at *
    have m1:(a+k)*(u-v)<=64*(u-v):=Int.mul_le_mul_of_nonneg_right va5 va5;have m2:0<=(a+k)*(u-v):=Int.mul_nonneg va5 va5;have w2:IntKind.i64.wrap (u-v)=u-v:=C7 _ va5 va5;rw[w2];have w3:IntKind.i64.wrap ((a+k)*(u-v))=(a+k)*(u-v):=C7 _ va5 va5;rw[w3];have w4:IntKind.i64.wrap ((a+k)*(u-v)+thr)=(a+k)*(u-v)+thr:=C7 _ va5 va5;rw[w4];have w5:IntKind.i64.wrap ((a+k)*(u-v)+thr-v)=(a+k)*(u-v)+(thr-v):=by rw[C7 _ va5 va5];omega
    rw[w5]
    (first|(refine Or.inl ?_;(conv=>whnf);refine⟨_,kP _ _ (by unfold G7;omega) (by unfold G7;omega),?_⟩)|refine⟨_,kP _ _ (by unfold G7;omega) (by unfold G7;omega),?_⟩)
    conv=>whnf
   ·have h2:=zA0 h2;refine⟨k+1,?_⟩;conv=>whnf
    refine kK ⟨⟨Nat.sub_lt_sub_left va5 (Nat.lt_succ_self k),va5,fun j hj=>?_⟩,?_,rfl,rfl⟩
    ·by_cases e:j=k+1
     ·subst e;rw[ek1];omega
     ·exact hk.2 j va5
    ·rw[w1];show [i64 (a+k+1)]=[i64 (a+((k+1:Nat):Int))]
     congr 2;omega
  ·have h1:=zA0 h1;have hb:=rM (p:=p) (thr:=thr) (a:=a) (d:=1) (mh.2 fun j hj=>hk.2 j va5);rw[hb];conv=>whnf
theorem a29(p:List Int)(thr a:Int)(hp:rK p)(hl:p.length<=64)(ha:0<=a)(hn:a<p.length)(t1:1<=thr)(t2:thr<=255) :
  va6 260 [C8 p,i64 thr,i64 a] (.tup [fr (Da p thr a (-1)).1,.bool (Da p thr a (-1)).2]):=by
 have st:N5 p.length a (-1)=(a+1).toNat:=by unfold N5;simp
 have eK:∀ k:Nat,R9 p a (-1) k=p.getD (a-k).toNat 0:=by intro k;unfold R9;congr 2;omega
 have e0:R9 p a (-1) 0=p.getD a.toNat 0:=by rw[eK];simp
 refine pF Tryz.func260 ?_;conv=>whnf
 refine⟨⟨va5,va5⟩,?_⟩;conv=>whnf
 refine⟨fun h=>?_,fun h=>?_⟩
 ·have h:=zA1 h;have hb:=bU (J1.2 ⟨show 0<N5 p.length a (-1)by omega,by rw[e0];exact h,fun j hj=>absurd hj (zB3 j)⟩);have pB:E7 p thr a (-1) 0=(M9 a 1).1:=rfl;rw[hb,pB];conv=>whnf
  (first|(refine Or.inl ?_;(conv=>whnf);refine⟨_,kP a 1 (by unfold G7;omega) (by unfold G7;omega),?_⟩)|refine⟨_,kP a 1 (by unfold G7;omega) (by unfold G7;omega),?_⟩)
  conv=>whnf
 have h:=zA0 h;conv=>whnf
 refine Or.inr ⟨Nat,[8],[],[],fun k=>[i64 (a-k)],fun _=>[],fun _=>[],fun k=>p.length-k,fun k=>0<=a-k/\∀ j,j<=k->R9 p a (-1) j<thr,?_⟩;conv=>whnf
 refine⟨⟨0,?_⟩,?_⟩
 ·(conv=>whnf);refine kK ⟨⟨va5,fun j hj=>?_⟩,?_,rfl,rfl⟩
  ·obtain rfl:j=0:=by omega
   rw[e0];omega
  ·show [i64 a]=[i64 (a-((0:Nat):Int))]
   simp
 ·intro k hk;have w1:IntKind.i64.wrap (a-k-1)=a-k-1:=C7 _ va5 va5;have ek:R9 p a (-1) k=p.getD (a-k).toNat 0:=eK k;have ek1:R9 p a (-1) (k+1)=p.getD (a-k-1).toNat 0:=by rw[eK];congr 2;omega
  conv=>whnf
  refine⟨fun h1=>?_,fun h1=>?_⟩
  ·have h1:=zA1 h1;conv=>whnf
   rw[w1];refine⟨⟨va5,va5⟩,?_⟩;conv=>whnf
   refine⟨fun h2=>?_,fun h2=>?_⟩
   ·have h2:=zA1 h2;have De:k+1<N5 p.length a (-1):=by omega
    have hv:=J1.2 ⟨De,by rw[ek1];exact h2,fun j hj=>hk.2 j va5⟩;have hb:=bU hv;have b1:=mn hp ha hn (.inr rfl) De;have b2:=mn hp ha hn (.inr rfl) (k:=k) va5;have pB:E7 p thr a (-1) (k+1)=(M9 ((a + -1*(k:Int))*(R9 p a (-1) (k+1)-R9 p a (-1) k) + -1*(thr-R9 p a (-1) k)) (R9 p a (-1) (k+1)-R9 p a (-1) k)).1:=rfl;rw[ek,ek1,show a + -1*(k:Int)=a-k by omega]at pB;rw[ek]at b2;rw[ek1]at b1;rw[hb,pB];have k2:=hk.2 k (Nat.le_refl k);rw[ek]at k2;clear hv hb pB ek ek1 eK e0;conv=>whnf
    (repeat' (first|(refine⟨va4,?_⟩;(conv=>whnf))|(refine And.intro (a:=_/\_) ⟨va5,va5⟩ ?_;(conv=>whnf))));rw[w1];have Yu:=hk.1;clear hk;generalize p.getD (a-k-1).toNat 0=u at *
    generalize p.getD (a-k).toNat 0=v at *
    have m1:(a-k)*(u-v)<=64*(u-v):=Int.mul_le_mul_of_nonneg_right va5 va5;have m2:0<=(a-k)*(u-v):=Int.mul_nonneg va5 va5;have w2:IntKind.i64.wrap (u-v)=u-v:=C7 _ va5 va5;rw[w2];have w3:IntKind.i64.wrap ((a-k)*(u-v))=(a-k)*(u-v):=C7 _ va5 va5;rw[w3];have w4:IntKind.i64.wrap (thr-v)=thr-v:=C7 _ va5 va5;rw[w4];have w5:IntKind.i64.wrap ((a-k)*(u-v)-(thr-v))=(a-k)*(u-v) + -1*(thr-v):=by rw[C7 _ va5 va5];omega
    rw[w5]
    (first|(refine Or.inl ?_;(conv=>whnf);refine⟨_,kP _ _ (by unfold G7;omega) (by unfold G7;omega),?_⟩)|refine⟨_,kP _ _ (by unfold G7;omega) (by unfold G7;omega),?_⟩)
    conv=>whnf
   ·have h2:=zA0 h2;refine⟨k+1,?_⟩;conv=>whnf
    refine kK ⟨⟨Nat.sub_lt_sub_left va5 (Nat.lt_succ_self k),va5,fun j hj=>?_⟩,?_,rfl,rfl⟩
    ·by_cases e:j=k+1
     ·subst e;rw[ek1];omega
     ·exact hk.2 j va5
    ·rw[w1];show [i64 (a-k-1)]=[i64 (a-((k+1:Nat):Int))]
     congr 2;omega
  ·have h1:=zA0 h1;have hb:=rM (p:=p) (thr:=thr) (a:=a) (d := -1) (mh.2 fun j hj=>hk.2 j va5);rw[hb];conv=>whnf

end Go.Proofs.Tryz.My
