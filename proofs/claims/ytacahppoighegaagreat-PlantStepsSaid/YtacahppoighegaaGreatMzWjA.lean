/- Helper lemmas. -/
import Derived.Test.YtacahppoighegaaGreatMzWbA
import Derived.Test.YtacahppoighegaaGreatEvNine
set_option linter.unusedVariables false
set_option linter.unusedSimpArgs false
set_option maxRecDepth 100000
set_option maxHeartbeats 0
namespace Go.Proofs.Tryz.My
open Go Go.Ev
abbrev eU(n:Nat):List AV:=[u64 n]
abbrev wl(l:List Nat):AV := .sl 1 0 eU l
theorem Oy(l:List Nat)(hl:l.length<2^40):va6 264 [wl l] (wl (dC l)):=by
 refine vb4 Tryz.func264 ?_;refine Or.inr ⟨Nat,[0],[],[],fun k=>[wl (l.take k)],fun _=>[],fun _=>[],fun k=>k,fun k=>k<=l.length/\∀ j,k<=j->l.getD j 0=0,vb3 ?_⟩;refine⟨⟨l.length,?_⟩,?_⟩
 ·(conv=>whnf);refine kK ⟨⟨Nat.le_refl _,fun j hj=>?_⟩,?_,rfl,rfl⟩
  ·simp[List.getD,zA7 hj]
  ·show [wl l]=[wl (l.take l.length)]
   rw[List.take_length]
 rintro k ⟨hk,hz⟩;have hlen:(l.take k).length=k:=by rw[zB1];omega
 have ht:=JK hz;by_cases k0:k=0
 ·subst k0;conv=>whnf
  refine⟨fun h=>absurd (zA1 h) va9,fun h=>?_⟩;conv=>whnf
  rw[ht];rfl
 ·obtain⟨m,rfl⟩:∃ m,k=m+1:=⟨k-1,va5⟩
  have w1:IntKind.i64.wrap (((l.take (m+1)).length:Int)-1)=m:=by
   rw[hlen,z5 _ va5 va5];omega
  have eg:(l.take (m+1)).getD (Int.toNat (m:Int)) 0=l.getD m 0:=by
   simp[List.getD,List.getElem?_take]
  conv=>whnf
  refine⟨fun h=>?_,fun h=>absurd (zA0 h) (by rw[hlen];omega)⟩;conv=>whnf
  rw[w1];refine⟨⟨va5,by rw[hlen];omega⟩,vb3 ?_⟩;rw[eg];refine⟨fun q=>?_,fun q=>?_⟩
  ·have q:=zA1 q;conv=>whnf
   rw[w1];refine⟨⟨va5,va5,by rw[hlen];omega⟩,vb3 ?_⟩;refine⟨m,vb3 ?_⟩;refine kK ⟨⟨?_,?_,?_⟩,?_,rfl,rfl⟩
   ·show m<m+1;omega
   ·omega
   ·intro j hj;by_cases e:j=m
    ·subst e;omega
    ·exact hz j va5
   ·show [wl (((l.take (m+1)).drop (Int.toNat 0)).take (Int.toNat ((m:Int)-0)))]=[wl (l.take m)]
    rw[show Int.toNat 0=0 from rfl,List.drop_zero,show Int.toNat ((m:Int)-0)=m by omega,List.take_take,Nat.min_eq_left va5]
  ·have q:=zA0 q;conv=>whnf
   rw[ht,JL (l:=l.take (m+1)) (k:=m) va5 hlen (by simp only[List.getD,List.getElem?_take];rw[if_pos va5];exact fun z=>q (by exact_mod_cast z))]
theorem VH(B n:Nat):vl B (List.replicate n 0)=0:=by
 induction n with
 | zero=>rfl
 | succ n ih=>rw[List.replicate_succ,vl,ih];omega
theorem RD{B:Nat}(hB:0<B)(n:Nat):FH B (List.replicate n 0):=fun d hd=>by
 rw[(List.mem_replicate.1 hd).2];exact hB
theorem qt{l:List Nat}{i j v:Nat}:(l.set i v).getD j 0=if i=j/\i<l.length then v else l.getD j 0:=by
 simp only[List.getD,List.getElem?_set];by_cases e:i=j
 ·subst e;by_cases h:i<l.length<;>simp[h]
 ·simp[e]
theorem RE{W k x n o:Nat}{out:List Nat}(hW:2<=W)(hk:k+1<out.length)(ho:out.getD k 0=o)(hz:out.getD (k+1) 0=0) :
  vl W ((out.set k ((o+x*n % W) % W)).set (k+1) (x*n / W+(o+x*n % W) / W))=vl W out+x*n*W^k:=by
 have e1:=FI (B:=W) (l:=out.set k ((o+x*n % W) % W)) (k:=k+1) (x*n / W+(o+x*n % W) / W) (by rw[List.length_set];exact hk);have e2:=FI (B:=W) (l:=out) (k:=k) ((o+x*n % W) % W) va5;rw[qt,if_neg va5,hz]at e1;rw[ho]at e2;have d1:=Nat.mod_add_div (x*n) W;have d2:=Nat.mod_add_div (o+x*n % W) W;generalize x*n % W=lo at *
 generalize x*n / W=hi at *
 generalize (o+lo) % W=a at *
 generalize (o+lo) / W=c at *
 rw[<- d1,Nat.pow_succ]at *
 have d2':=congrArg (· * W^k) d2;simp only[Nat.add_mul]at d2';generalize hq:W^k=q at *
 have t1:(hi+c)*(q*W)=W*hi*q+W*c*q:=by
  rw[Nat.add_mul,<- Nat.mul_assoc,<- Nat.mul_assoc,Nat.mul_comm (hi*q) W,Nat.mul_comm (c*q) W,<- Nat.mul_assoc,<- Nat.mul_assoc]
 have t2:(lo+W*hi)*q=lo*q+W*hi*q:=Nat.add_mul _ _ _;omega
theorem Oz{W x n o:Nat}(hx:x<W)(hn:n<W)(ho:o<W):x*n / W+(o+x*n % W) / W<W:=by
 have h1:x*n<=(W-1)*(W-1):=Nat.mul_le_mul va5 va5;have h2:x*n+o<W*W:=by
  have:(W-1)*(W-1)+W<=W*W:=by
   obtain⟨v,rfl⟩:∃ v,W=v+1:=⟨W-1,va5⟩
   simp only[Nat.add_sub_cancel,Nat.add_mul,Nat.mul_add];omega
  omega
 have h3:x*n / W+(o+x*n % W) / W=(x*n+o) / W:=by
  have e:x*n+o=(o+x*n % W)+W*(x*n / W):=by have:=Nat.mod_add_div (x*n) W;omega
  rw[e,Nat.add_mul_div_left _ _ va5,Nat.add_comm]
 rw[h3];exact Nat.div_lt_of_lt_mul h2
theorem FT(l:List Nat)(n:Nat)(hl:l.length<2^19)(hd:FH 18446744073709551616 l)(hn:n<18446744073709551616):va6 240 [wl l,u64 n] (wl (dg 18446744073709551616 (vl 18446744073709551616 l*n))):=by
 have w1:IntKind.i64.wrap ((l.length:Int)+1)=(l.length:Int)+1:=z5 _ va5 va5;refine vb4 Tryz.func240 ?_;refine⟨Nat,0,eU,rfl,rfl,by rw[w1];omega,by rw[w1];omega,zA1 va4,?_⟩;rw[w1,show Int.toNat ((l.length:Int)+1)=l.length+1 by omega];conv=>whnf
 refine Or.inr ⟨Nat×List Nat,[17],[],[(5,⟨Nat,284,1,0,eU⟩)],fun i=>[i64 i.1],fun _=>[],fun i=>[.vec 284 1 0 eU i.2],fun i=>l.length-i.1,fun i=>i.1<=l.length/\i.2.length=l.length+1/\FH 18446744073709551616 i.2/\(∀ j,i.1<j->i.2.getD j 0=0)/\vl 18446744073709551616 i.2=vl 18446744073709551616 (l.take i.1)*n,vb3 ?_⟩;refine⟨⟨(0,List.replicate (l.length+1) 0),?_⟩,?_⟩
 ·(conv=>whnf);refine kK ⟨⟨zB4 _,List.length_replicate,RD va8 _,fun j _=>?_,?_⟩,rfl,rfl,rfl⟩
  ·show(List.replicate (l.length+1) 0).getD j 0=0
   simp only[List.getD,List.getElem?_replicate];split<;>rfl
  ·show vl 18446744073709551616 (List.replicate (l.length+1) 0)=vl 18446744073709551616 (l.take 0)*n
   rw[VH,List.take_zero];simp[vl]
 rintro⟨k,out⟩ ⟨hk,Pt,hdo,hz,hv⟩;have hk:k<=l.length:=hk;have Pt:out.length=l.length+1:=Pt;have hz:∀ j,k<j->out.getD j 0=0:=hz;have hv:vl 18446744073709551616 out=vl 18446744073709551616 (l.take k)*n:=hv;conv=>whnf
 refine⟨fun h=>?_,fun h=>?_⟩
 ·have h:=zA1 h;have L4:k<l.length:=by
   have h:(k:Int)<l.length:=h;omega
  have hx:=oD (B:=18446744073709551616) va8 hd k;have ho:=oD (B:=18446744073709551616) va8 hdo k;have cl:=Oz hx hn ho;have rP:=RE (W:=18446744073709551616) (x:=l.getD k 0) (n:=n) va8 (show k+1<out.length by omega) rfl (hz (k+1) va5);have wk:IntKind.i64.wrap ((k:Int)+1)=((k+1:Nat):Int):=by rw[z5 _ va5 va5];rfl
  conv=>whnf
  refine⟨⟨va5,va5⟩,vb3 ?_⟩;rw[show Int.toNat (k:Int)=k from rfl]
  (first|(refine Or.inl ?_;(conv=>whnf);refine⟨_,gU _ _ hx hn,?_⟩)|refine⟨_,gU _ _ hx hn,?_⟩)
  conv=>whnf
  have ho:out.getD k 0<18446744073709551616:=ho;have ca:=nN (out.getD k 0) (l.getD k 0*n % 18446744073709551616) 0 va5;rw[Nat.add_zero]at ca;have cl:l.getD k 0*n / 18446744073709551616+(out.getD k 0+l.getD k 0*n % 18446744073709551616) / 18446744073709551616<18446744073709551616:=cl;have wu:IntKind.u64.wrap ((l.getD k 0*n / 18446744073709551616:Nat)+((out.getD k 0+l.getD k 0*n % 18446744073709551616) / 18446744073709551616:Nat):Int)=(l.getD k 0*n / 18446744073709551616+(out.getD k 0+l.getD k 0*n % 18446744073709551616) / 18446744073709551616:Nat):=by
   rw[gQ];omega
  refine⟨⟨by show(0:Int)<=(k:Int);omega,by show(k:Int)<(out.length:Int);omega⟩,vb3 ?_⟩;refine⟨by show k<out.length;omega,vb3 ?_⟩
  (first|(refine Or.inl ?_;(conv=>whnf);refine⟨_,ca,?_⟩)|refine⟨_,ca,?_⟩)
  conv=>whnf
  refine⟨⟨by show(0:Int)<=(k:Int);omega,by show(k:Int)<(out.length:Int);omega⟩,vb3 ?_⟩;refine⟨(out.getD k 0+l.getD k 0*n % 18446744073709551616) % 18446744073709551616,rfl,by show k<out.length;omega,vb3 ?_⟩;have wk2:Int.toNat (IntKind.i64.wrap ((k:Int)+1))=k+1:=by rw[wk];rfl
  refine⟨⟨by show(0:Int)<=IntKind.i64.wrap ((k:Int)+1);omega,by show IntKind.i64.wrap ((k:Int)+1)<((out.set k _).length:Int);rw[List.length_set];omega⟩,vb3 ?_⟩;refine⟨l.getD k 0*n / 18446744073709551616+(out.getD k 0+l.getD k 0*n % 18446744073709551616) / 18446744073709551616,?_,?_,?_⟩
  ·show [AV.int .u64 _]=[AV.int .u64 _]
   rw[<- wu]
  ·show Int.toNat (IntKind.i64.wrap ((k:Int)+1))<(out.set k _).length
   rw[wk2,List.length_set];omega
  conv=>whnf
  refine⟨(k+1,(out.set k ((out.getD k 0+l.getD k 0*n % 18446744073709551616) % 18446744073709551616)).set (k+1) (l.getD k 0*n / 18446744073709551616+(out.getD k 0+l.getD k 0*n % 18446744073709551616) / 18446744073709551616)),vb3 ?_⟩;refine kK ⟨⟨?_,?_,?_,?_,?_,?_⟩,?_,rfl,?_⟩
  ·show l.length-(k+1)<l.length-k;omega
  ·show k+1<=l.length;omega
  ·show((out.set k _).set (k+1) _).length=_
   rw[List.length_set,List.length_set];exact Pt
  ·exact Ht (Ht hdo k (Nat.mod_lt _ va8)) (k+1) cl
  ·intro j hj;have hj:k+1<j:=hj;show((out.set k _).set (k+1) _).getD j 0=0
   rw[qt,if_neg va5,qt,if_neg va5];exact hz j va5
  ·show vl 18446744073709551616 ((out.set k _).set (k+1) _)=vl 18446744073709551616 (l.take (k+1))*n
   rw[rP,hv,kZ,Nat.add_mul]
   congr 1
   rw[Nat.mul_assoc,Nat.mul_comm n,<- Nat.mul_assoc]
  ·rw[z5 _ (by show -9223372036854775808<=(k:Int)+1;omega) (by show(k:Int)+1<=_;omega)];rfl
  ·show [Row.vec 284 1 0 eU ((out.set k _).set (Int.toNat (IntKind.i64.wrap ((k:Int)+1))) _)]=_
   rw[wk2]
 ·have h:¬(k:Int)<l.length:=zA0 h;have ek:k=l.length:=by omega
  have ct:=Oy out va5;rw[su va8 hdo]at ct;have hv:vl 18446744073709551616 out=vl 18446744073709551616 l*n:=by rw[hv,ek,List.take_length]
  have ct:va6 264 [wl out] (wl (dg 18446744073709551616 (vl 18446744073709551616 l*n))):=by rw[<- hv];exact ct
  conv=>whnf
  ((first|refine Or.inl ?_|skip);(conv=>whnf);refine⟨true,?_⟩;(conv=>whnf);refine⟨_,ct,?_⟩;(conv=>whnf))
  all_goals rfl
theorem Ko(N n:Nat)(hl:(dg 18446744073709551616 N).length<2^19)(hn:n<18446744073709551616):va6 240 [wl (dg 18446744073709551616 N),u64 n] (wl (dg 18446744073709551616 (N*n))):=by
 have:=FT (dg 18446744073709551616 N) n hl (uQ va8 N) hn;rwa[xV va8]at this
theorem yh(N w:Nat)(n:Nat)(hl:∀ k,k<=n->(dg 18446744073709551616 (N*w^k)).length<2^19)(hw:w<18446744073709551616)(hn:n<2^40):va6 213 [wl (dg 18446744073709551616 N),u64 w,i64 n] (wl (dg 18446744073709551616 (N*w^n))):=by
 refine vb4 Tryz.func213 ?_;refine Or.inr ⟨Nat,[9,0],[],[],fun k=>[i64 k,wl (dg 18446744073709551616 (N*w^k))],fun _=>[],fun _=>[],fun k=>n-k,fun k=>k<=n,vb3 ?_⟩;refine⟨⟨0,?_⟩,?_⟩
 ·(conv=>whnf);refine kK ⟨zB4 _,?_,rfl,rfl⟩;show [i64 0,wl (dg 18446744073709551616 N)]=[i64 ((0:Nat):Int),wl (dg 18446744073709551616 (N*w^0))]
  rw[Nat.pow_zero,Nat.mul_one];rfl
 intro k hk;conv=>whnf
 refine⟨fun h=>?_,fun h=>?_⟩
 ·have h:=zA1 h;have ct:=Ko (N*w^k) w (hl k hk) hw;conv=>whnf
  (first|(refine Or.inl ?_;(conv=>whnf);refine⟨_,ct,?_⟩)|refine⟨_,ct,?_⟩)
  conv=>whnf
  refine⟨k+1,vb3 ?_⟩;refine kK ⟨⟨?_,?_⟩,?_,rfl,rfl⟩
  ·show n-(k+1)<n-k;omega
  ·show k+1<=n;omega
  ·rw[z5 _ va5 va5];show [i64 ((k:Int)+1),wl (dg 18446744073709551616 (N*w^k*w))]=[i64 ((k+1:Nat):Int),wl (dg 18446744073709551616 (N*w^(k+1)))]
   rw[Nat.pow_succ,Nat.mul_assoc];rfl
 ·have h:=zA0 h;obtain rfl:k=n:=by omega
  conv=>whnf
  all_goals rfl
def kt(l:List Nat):List (List AV):=(List.range l.length).map fun(k:Nat)=>[i64 ((l.length:Int)-1-(k:Int)),u64 (l.getD (l.length-1-k) 0)]
theorem yi(l:List Nat)(k:Nat):(kt l)[k]? = if k<l.length then some [i64 ((l.length:Int)-1-k),u64 (l.getD (l.length-1-k) 0)]else none:=by
 unfold kt;rw[List.getElem?_map];by_cases h:k<l.length<;>simp[h]
theorem rf(l:List Nat):va6 241 [wl l] (.fn (.func 265) [] [.pt [wl l] 0]):=by
 refine pF Tryz.func241 ?_;conv=>whnf
 all_goals rfl
theorem RF(a:List Nat)(hl:a.length<2^40):SQ Tryz.prog 265 [.pt [wl a] 0] (kt a):=by
 have Y8:=yi a;have hlen:(kt a).length=a.length:=by simp[kt]
 generalize kt a=xs at *
 have w0:IntKind.i64.wrap ((a.length:Int)-1)=(a.length:Int)-1:=z5 _ va5 va5;refine qK hm Tryz.func265 va4 ⟨va4,fun l=>?_⟩;conv=>whnf
 refine Or.inr ⟨Nat,[3],[19],[],fun k=>[i64 ((a.length:Int)-1-k)],fun k=>[.ctr l xs k false],fun _=>[],fun k=>a.length-k,fun k=>k<=a.length,vb3 ?_⟩;refine⟨⟨0,?_⟩,?_⟩
 ·(conv=>whnf);refine kK ⟨zB4 _,?_,rfl,rfl⟩;rw[w0];show [i64 ((a.length:Int)-1)]=[i64 ((a.length:Int)-1-((0:Nat):Int))]
  simp
 ·intro k hk;conv=>whnf
  refine⟨fun h=>?_,fun h=>?_⟩
  ·have h:=zA1 h;have Yc:k<a.length:=by omega
   conv=>whnf
   refine⟨⟨va5,va5⟩,vb3 ?_⟩;rw[show Int.toNat ((a.length:Int)-1-k)=a.length-1-k by omega];refine⟨⟨rfl,by exact(Y8 k).trans (by rw[if_pos Yc];rfl),va4⟩,?_,?_⟩
   ·(conv=>whnf);refine⟨k+1,vb3 ?_⟩;refine kK ⟨⟨Nat.sub_lt_sub_left va5 (Nat.lt_succ_self k),va5⟩,?_,rfl,rfl⟩;rw[z5 _ va5 va5];show [i64 ((a.length:Int)-1-k-1)]=[i64 ((a.length:Int)-1-((k+1:Nat):Int))]
    congr 2;omega
   ·(conv=>whnf);intro h;cases h
  ·have h:=zA0 h;conv=>whnf
   intro _;rw[hlen];omega
theorem AN{a b:List Nat}{n:Nat}:∀ k,k<=n->(∀ j,j<k->a.getD (n-1-j) 0=b.getD (n-1-j) 0)->Lj a b n=Lj a b (n-k)
 | 0,_,_=>rfl
 | k+1,hk,h=>by
  rw[AN k va5 fun j hj=>h j va5];obtain⟨m,hm⟩:∃ m,n-k=m+1:=⟨n-k-1,va5⟩
  have e:=h k (Nat.lt_succ_self k);rw[show n-1-k=m by omega]at e;rw[hm,show n-(k+1)=m by omega,Lj,if_pos e]
theorem OA{a b:List Nat}{n k:Nat}(hk:k<n)(h:∀ j,j<k->a.getD (n-1-j) 0=b.getD (n-1-j) 0)(V8:¬a.getD (n-1-k) 0=b.getD (n-1-k) 0):Lj a b n=decide (a.getD (n-1-k) 0<b.getD (n-1-k) 0):=by
 rw[AN k va5 h];obtain⟨m,hm⟩:∃ m,n-k=m+1:=⟨n-k-1,va5⟩
 rw[show n-1-k=m by omega]at V8 ⊢;rw[hm,Lj,if_neg V8]
theorem FU(a b:List Nat)(hl:a.length<2^40)(hb:a.length=b.length):va6 214 [wl a,wl b] (.bool (Lj a b a.length)):=by
 have sq:=RF a hl;have Y8:=yi a;have hlen:(kt a).length=a.length:=by simp[kt]
 have Nr:∀ x ∈ kt a,dY x=true/\x.length=2:=by
  intro x hx;obtain⟨k,_,rfl⟩:=List.mem_map.1 hx;exact⟨va4,rfl⟩
 have Tj:∀ k x,(kt a)[k]? = some x->k<a.length/\x=[i64 ((a.length:Int)-1-k),u64 (a.getD (a.length-1-k) 0)]:=by
  intro k x hx;rw[Y8]at hx;by_cases vY:k<a.length
  ·rw[if_pos vY]at hx;exact⟨vY,(Option.some.inj hx).symm⟩
  ·rw[if_neg vY]at hx;cases hx
 refine vb4 Tryz.func214 ?_;refine⟨fun h=>absurd h (by simp[hb]),fun h=>?_⟩;conv=>whnf
 (first|(refine Or.inl ?_;(conv=>whnf);refine⟨_,rf a,?_⟩)|refine⟨_,rf a,?_⟩)
 conv=>whnf
 refine⟨va4,vb3 ?_⟩;refine⟨kt a,[],fun _=>[],fun k=>k<=a.length/\∀ j,j<k->a.getD (a.length-1-j) 0=b.getD (a.length-1-j) 0,⟨sq,Nr⟩,?_⟩;refine⟨va4,?_⟩;refine⟨?_,?_⟩
 ·(conv=>whnf);exact kK ⟨⟨zB4 _,fun j hj=>absurd hj (zB3 j)⟩,rfl,rfl,rfl⟩
 refine⟨?_,?_⟩
 ·with_reducible refine xr Tj ?_
  intro k vY hk;conv=>whnf
  refine⟨⟨va5,va5⟩,vb3 ?_⟩;rw[show Int.toNat ((a.length:Int)-1-k)=a.length-1-k by omega];refine⟨fun q=>?_,fun q=>?_⟩
  ·have q:¬a.getD (a.length-1-k) 0=b.getD (a.length-1-k) 0:=fun e=>by
    rw[e]at q;simp at q
   conv=>whnf
   refine⟨⟨va5,va5⟩,vb3 ?_⟩;rw[show Int.toNat ((a.length:Int)-1-k)=a.length-1-k by omega,OA vY hk.2 q];simp only[Int.ofNat_lt]
  ·have q:a.getD (a.length-1-k) 0=b.getD (a.length-1-k) 0:=by
    have q:((a.getD (a.length-1-k) 0:Nat):Int)=(b.getD (a.length-1-k) 0:Nat):=by simpa using q
    exact Int.ofNat.inj q
   conv=>whnf
   refine⟨⟨⟨va5,fun j hj=>?_⟩,rfl⟩,va4⟩;by_cases e:j=k
   ·subst e;exact q
   ·exact hk.2 j va5
 ·with_reducible refine Ce ?_
  intro hk;rw[hlen]at hk;conv=>whnf
  rw[AN a.length (Nat.le_refl _) hk.2,Nat.sub_self];all_goals rfl
theorem Kp(A B:Nat)(ha:(dg 18446744073709551616 A).length<2^40)(hb:(dg 18446744073709551616 B).length<2^40):va6 214 [wl (dg 18446744073709551616 A),wl (dg 18446744073709551616 B)] (.bool (decide (A<=B))):=by
 by_cases h:(dg 18446744073709551616 A).length=(dg 18446744073709551616 B).length
 ·have c:=FU (dg 18446744073709551616 A) (dg 18446744073709551616 B) ha h;rwa[Ob va8 (Nat.le_refl _) va5]at c
 ·refine vb4 Tryz.func214 ?_;refine⟨fun q=>?_,fun q=>?_⟩
  ·(conv=>whnf);by_cases h2:(dg 18446744073709551616 A).length<(dg 18446744073709551616 B).length
   ·have:=xY va8 h2;rw[zA4 va5,zA4 va5]
   ·have:=xY (B:=18446744073709551616) (a:=B) (b:=A) va8 va5;rw[zA5 va5,zA5 va5]
  ·exfalso;simp at q;omega
def li(l:List Nat):List Int:=l.map fun(d:Nat)=>(d:Int)
theorem ku(l:List Nat):(li l).length=l.length:=by simp[li]
theorem RG(l:List Nat)(k:Nat):(li l).getD k 0=(l.getD k 0:Nat):=by
 simp only[li,List.getD,List.getElem?_map];cases l[k]? <;> rfl
theorem HC(l:List Nat)(d:Nat):li (l++[d])=li l++[(d:Int)]:=by simp[li]
theorem Dl(l:List Nat)(k:Nat)(hl:l.length<2^40):va6 229 [A9 (li l),i64 (k:Nat)] (i64 ((l.getD k 0:Nat):Int)):=by
 have e:=ku l;refine vb4 Tryz.func229 ?_;refine ve5 ?_ ?_<;>intros
 ·rw[show Int.toNat (k:Int)=k from rfl,RG]
 ·rw[show l.getD k 0=0 by simp[List.getD,zA7 (show l.length<=k by omega)]];all_goals rfl
theorem Dm:∀ {l:List Nat},(dC l).length=l.length->dC l=l
 | [],_=>rfl
 | d :: l,h=>by
  rw[dC]at h ⊢;cases e:dC l with
  | nil =>
   rw[e]at h;simp only at h ⊢;by_cases h0:d=0
   ·rw[if_pos h0]at h;simp at h
   ·rw[if_neg h0]at h ⊢;have hl:l=[]:=List.length_eq_zero_iff.1 (by simpa using h.symm);rw[hl]
  | cons x m =>
   rw[e]at h;simp only at h ⊢;rw[<- e]at h ⊢;rw[Dm (l:=l) (by simpa using h)]
theorem YC{B:Nat}(hB:2<=B){l:List Nat}(hd:FH B l)(h:l=[]∨B^(l.length-1)<=vl B l):l=dg B (vl B l):=by
 rw[<- su hB hd];refine(Dm ?_).symm;rw[su hB hd];have h1:=uR hB (xW hB hd);rcases h with h|h
 ·subst h;rfl
 ·have h2:=xX hB h;by_cases e:l=[]
  ·subst e;rfl
  ·have:l.length≠0:=fun q=>e (List.length_eq_zero_iff.1 q)
   omega
theorem VI{B N:Nat}(hB:2<=B)(h:0<N):B^((dg B N).length-1)<=N:=by
 have h1:¬N<B^((dg B N).length-1):=fun q=>by
  have:=uR hB q;have h0:(dg B N).length≠0:=fun z=>by
   have:=NZ hB (List.length_eq_zero_iff.1 z);omega
  omega
 omega
theorem RH{B:Nat}(l:List Nat)(d:Nat):vl B (l++[d])=vl B l+d*B^l.length:=by
 have e:=kZ (B:=B) (l++[d]) l.length;have e1:(l++[d]).take (l.length+1)=l++[d]:=by rw[List.take_of_length_le];simp
 have e2:(l++[d]).take l.length=l:=by simp
 have e3:(l++[d]).getD l.length 0=d:=by simp[List.getD]
 rw[e1,e2,e3]at e;exact e
structure WM (N n:Nat) (i c:Nat) (o:List Nat):Prop where
 l:o.length=i
 d:FH 1073741824 o
 v:vl 1073741824 o+c*1073741824^i=vl 1073741824 ((dg 1073741824 N).take i)*n
 c:c<=1073741824
 t:i=0∨1073741824^(i-1)<=N*n
theorem yj(N n:Nat)(hl:(dg 1073741824 N).length<2^19)(hN:0<N)(hn:0<n)(vM:n<=1073741824):va6 186 [A9 (li (dg 1073741824 N)),i64 (n:Nat)] (A9 (li (dg 1073741824 (N*n)))):=by
 have hB:2<=1073741824:=by decide
 have ha:=uQ hB N;have hva:=xV hB N;have TW:=VI hB hN;have hN1:1073741824^((dg 1073741824 N).length-1)<=N*n:=Nat.le_trans TW (Nat.le_mul_of_pos_right _ hn);have VJ:∀ k,va6 229 [A9 (li (dg 1073741824 N)),i64 (k:Nat)] (i64 (((dg 1073741824 N).getD k 0:Nat):Int)):=fun k=>Dl _ k va5
 have step:∀ {i c:Nat} {o:List Nat},WM N n i c o->(i<(dg 1073741824 N).length∨0<c)->WM N n (i+1) (((dg 1073741824 N).getD i 0*n+c) / 1073741824) (o++[((dg 1073741824 N).getD i 0*n+c) % 1073741824]):=by
  intro i c o h hc;have hx:=oD (B:=1073741824) va8 ha i;have hm:(dg 1073741824 N).getD i 0*n<=1073741823*1073741824:=Nat.mul_le_mul va5 vM;have Io:=h.c;have dv:=Nat.mod_add_div ((dg 1073741824 N).getD i 0*n+c) 1073741824;refine⟨by rw[List.length_append,h.l];rfl,fun d hd=>?_,?_,?_,?_⟩
  ·rcases List.mem_append.1 hd with hd|hd
   ·exact h.d d hd
   ·rw[List.mem_singleton.1 hd];exact Nat.mod_lt _ va8
  ·rw[RH,h.l,kZ,Nat.add_mul,<- h.v,Nat.pow_succ];generalize 1073741824^i=q;have e2:(dg 1073741824 N).getD i 0*q*n=(dg 1073741824 N).getD i 0*n*q:=by rw[Nat.mul_assoc,Nat.mul_comm q,<- Nat.mul_assoc]
   rw[e2];generalize (dg 1073741824 N).getD i 0*n=y at *
   have e1:=congrArg (· * q) dv;simp only[Nat.add_mul]at e1;have e3:(y+c) / 1073741824*(q*1073741824)=1073741824*((y+c) / 1073741824)*q:=by rw[Nat.mul_comm q,<- Nat.mul_assoc,Nat.mul_comm ((y+c) / 1073741824)]
   omega
  ·omega
  ·right
   rw[show i+1-1=i by omega];by_cases hi:i<(dg 1073741824 N).length
   ·exact Nat.le_trans (Nat.pow_le_pow_right va8 va5) hN1
   ·have hv:=h.v;rw[List.take_of_length_le va5,hva]at hv;have:1*1073741824^i<=c*1073741824^i:=Nat.mul_le_mul_right _ va5;omega
 have fin:∀ {i:Nat} {o:List Nat},WM N n i 0 o->¬i<(dg 1073741824 N).length->o=dg 1073741824 (N*n):=by
  intro i o h hi;have hv:=h.v;rw[List.take_of_length_le va5,hva,Nat.zero_mul,Nat.add_zero]at hv;rw[<- hv];refine YC hB h.d ?_;rcases h.t with t|t
  ·exact .inl (List.length_eq_zero_iff.1 (h.l.trans t))
  ·right;rw[h.l,hv];exact t
 have e:=ku (dg 1073741824 N);have small:∀ {i c:Nat} {o:List Nat},WM N n i c o->i<=(dg 1073741824 N).length+1:=by
  intro i c o h;rcases h.t with t|t
  ·omega
  ·have h1:N<1073741824^(dg 1073741824 N).length:=by
    have:=xW hB ha;rwa[hva]at this
   have h2:N*n<1073741824^((dg 1073741824 N).length+1):=by
    rw[Nat.pow_succ];exact zB5 (Nat.mul_lt_mul_of_pos_right h1 hn) (Nat.mul_le_mul_left _ vM)
   have h3:1073741824^(i-1)<1073741824^((dg 1073741824 N).length+1):=by omega
   have:=(Nat.pow_lt_pow_iff_right va8).1 h3;omega
 refine vb4 Tryz.func186 ?_;refine Or.inr ⟨Nat×Nat×List Nat,[7,6],[],[(5,⟨Int,3,1,0,eI⟩)],fun i=>[i64 (i.1:Nat),i64 (i.2.1:Nat)],fun _=>[],fun i=>[.vec 3 1 0 eI (li i.2.2)],fun i=>((dg 1073741824 N).length-i.1)*2147483648+i.2.1,fun i=>WM N n i.1 i.2.1 i.2.2,vb3 ?_⟩;refine⟨⟨(0,0,[]),?_⟩,?_⟩
 ·(conv=>whnf);refine kK ⟨⟨rfl,fun d hd=>(List.not_mem_nil hd).elim,?_,va8,.inl rfl⟩,rfl,rfl,rfl⟩;show vl 1073741824 []+0*1073741824^0=vl 1073741824 ((dg 1073741824 N).take 0)*n
  rw[List.take_zero];simp[vl]
 rintro⟨i,c,o⟩ h;have h:WM N n i c o:=h;have hx:=oD (B:=1073741824) va8 ha i;have hm:(dg 1073741824 N).getD i 0*n<=1073741823*1073741824:=Nat.mul_le_mul va5 vM;have Io:=h.c;have hsm:=small h;have w1:IntKind.i64.wrap ((((dg 1073741824 N).getD i 0:Nat):Int)*(n:Int))=(((dg 1073741824 N).getD i 0*n:Nat):Int):=by
  rw[show(((dg 1073741824 N).getD i 0:Nat):Int)*(n:Int)=(((dg 1073741824 N).getD i 0*n:Nat):Int)by rw[Int.natCast_mul]];exact z5 _ va5 va5
 have w2:IntKind.i64.wrap ((((dg 1073741824 N).getD i 0*n:Nat):Int)+(c:Int))=(((dg 1073741824 N).getD i 0*n+c:Nat):Int):=by
  rw[z5 _ va5 va5];omega
 have w3:IntKind.i64.wrap (Int.tdiv (((dg 1073741824 N).getD i 0*n+c:Nat):Int) 1073741824)=((((dg 1073741824 N).getD i 0*n+c) / 1073741824:Nat):Int):=by
  rw[Int.tdiv_eq_ediv_of_nonneg va5];exact z5 _ va5 va5
 conv=>whnf
 refine⟨fun q=>?_,fun q=>?_⟩
 ·have q:(i:Int)<(li (dg 1073741824 N)).length:=zA1 q;have hi:i<(dg 1073741824 N).length:=by omega
  conv=>whnf
  (first|(refine Or.inl ?_;(conv=>whnf);refine⟨_,VJ i,?_⟩)|refine⟨_,VJ i,?_⟩)
  conv=>whnf
  rw[w1,w2];refine⟨⟨Int,1,0,eI,li o⟩,[((((dg 1073741824 N).getD i 0*n+c) % 1073741824:Nat):Int)],rfl,rfl,⟨rfl,?_⟩,?_,?_,fun y _=>⟨rfl,rfl,rfl⟩,?_⟩
  ·show [[AV.int .i64 (Int.tmod (((dg 1073741824 N).getD i 0*n+c:Nat):Int) 1073741824)]]=[[AV.int .i64 _]]
   rw[Int.tmod_eq_emod_of_nonneg va5];rfl
  ·show((li o).length+1)*8<=_;rw[ku,h.l];omega
  ·show(li o).length+1<=_;rw[ku,h.l];omega
  conv=>whnf
  refine⟨(i+1,((dg 1073741824 N).getD i 0*n+c) / 1073741824,o++[((dg 1073741824 N).getD i 0*n+c) % 1073741824]),vb3 ?_⟩;refine kK ⟨⟨?_,step h (.inl hi)⟩,?_,rfl,?_⟩
  ·show((dg 1073741824 N).length-(i+1))*2147483648+((dg 1073741824 N).getD i 0*n+c) / 1073741824<((dg 1073741824 N).length-i)*2147483648+c
   omega
  ·show [AV.int .i64 (IntKind.i64.wrap ((i:Int)+1)),AV.int .i64 (IntKind.i64.wrap (Int.tdiv (((dg 1073741824 N).getD i 0*n+c:Nat):Int) 1073741824))]=[i64 ((i+1:Nat):Int),i64 ((((dg 1073741824 N).getD i 0*n+c) / 1073741824:Nat):Int)]
   rw[w3,z5 _ va5 va5];rfl
  ·show [Row.vec 3 1 0 eI (li o++[((((dg 1073741824 N).getD i 0*n+c) % 1073741824:Nat):Int)])]=[Row.vec 3 1 0 eI (li (o++[((dg 1073741824 N).getD i 0*n+c) % 1073741824]))]
   rw[HC]
 have q:¬(i:Int)<(li (dg 1073741824 N)).length:=zA0 q;have hi:¬i<(dg 1073741824 N).length:=by omega
 conv=>whnf
 refine⟨fun z=>?_,fun z=>?_⟩
 ·have z:(c:Int) > 0:=zA1 z;have hc:0<c:=by omega
  have hz:(dg 1073741824 N).getD i 0=0:=by simp[List.getD,zA7 (show(dg 1073741824 N).length<=i by omega)]
  conv=>whnf
  (first|(refine Or.inl ?_;(conv=>whnf);refine⟨_,VJ i,?_⟩)|refine⟨_,VJ i,?_⟩)
  conv=>whnf
  rw[w1,w2];refine⟨⟨Int,1,0,eI,li o⟩,[((((dg 1073741824 N).getD i 0*n+c) % 1073741824:Nat):Int)],rfl,rfl,⟨rfl,?_⟩,?_,?_,fun y _=>⟨rfl,rfl,rfl⟩,?_⟩
  ·show [[AV.int .i64 (Int.tmod (((dg 1073741824 N).getD i 0*n+c:Nat):Int) 1073741824)]]=[[AV.int .i64 _]]
   rw[Int.tmod_eq_emod_of_nonneg va5];rfl
  ·show((li o).length+1)*8<=_;rw[ku,h.l];omega
  ·show(li o).length+1<=_;rw[ku,h.l];omega
  conv=>whnf
  refine⟨(i+1,((dg 1073741824 N).getD i 0*n+c) / 1073741824,o++[((dg 1073741824 N).getD i 0*n+c) % 1073741824]),vb3 ?_⟩;refine kK ⟨⟨?_,step h (.inr hc)⟩,?_,rfl,?_⟩
  ·show((dg 1073741824 N).length-(i+1))*2147483648+((dg 1073741824 N).getD i 0*n+c) / 1073741824<((dg 1073741824 N).length-i)*2147483648+c
   (rw[hz,Nat.zero_mul,Nat.zero_add];have:=Nat.div_lt_self hc (show 1<1073741824 by decide);omega)
  ·show [AV.int .i64 (IntKind.i64.wrap ((i:Int)+1)),AV.int .i64 (IntKind.i64.wrap (Int.tdiv (((dg 1073741824 N).getD i 0*n+c:Nat):Int) 1073741824))]=[i64 ((i+1:Nat):Int),i64 ((((dg 1073741824 N).getD i 0*n+c) / 1073741824:Nat):Int)]
   rw[w3,z5 _ va5 va5];rfl
  ·show [Row.vec 3 1 0 eI (li o++[((((dg 1073741824 N).getD i 0*n+c) % 1073741824:Nat):Int)])]=[Row.vec 3 1 0 eI (li (o++[((dg 1073741824 N).getD i 0*n+c) % 1073741824]))]
   rw[HC]
 ·have z:¬(c:Int) > 0:=zA0 z;have hc:c=0:=by omega
  subst hc;have ho:=fin h hi;conv=>whnf
  rw[ho];all_goals rfl
theorem OB(a b:List Nat)(ha:a.length<2^40)(hb:b.length<2^40):va6 187 [A9 (li a),A9 (li b)] (.bool (Lj a b (max a.length b.length))):=by
 have ea:=ku a;have eb:=ku b;have VJ:∀ (l:List Nat) (k:Nat) (i:Int),l.length<2^40->i=(k:Int)->va6 229 [A9 (li l),i64 i] (i64 ((l.getD k 0:Nat):Int)):=fun l k i hl e=>by rw[e];exact Dl l k hl
 generalize Lu:max a.length b.length=m;have hm1:m<2^40:=by omega
 have w0:IntKind.i64.wrap ((if (((li a).length:Nat):Int)<((li b).length:Nat)then(((li b).length:Nat):Int)else((li a).length:Nat))-1)=(m:Int)-1:=by
  rw[ea,eb];have:(if ((a.length:Nat):Int)<(b.length:Nat)then((b.length:Nat):Int)else(a.length:Nat))=(m:Int):=by
   split<;>omega
  rw[this,z5 _ va5 va5]
 refine vb4 Tryz.func187 ?_;refine Or.inr ⟨Nat,[5],[],[],fun k=>[i64 ((m:Int)-1-k)],fun _=>[],fun _=>[],fun k=>m-k,fun k=>k<=m/\∀ j,j<k->a.getD (m-1-j) 0=b.getD (m-1-j) 0,vb3 ?_⟩;refine⟨⟨0,?_⟩,?_⟩
 ·(conv=>whnf);refine kK ⟨⟨zB4 _,fun j hj=>absurd hj (zB3 j)⟩,?_,rfl,rfl⟩;rw[w0];show [i64 ((m:Int)-1)]=[i64 ((m:Int)-1-((0:Nat):Int))]
  simp
 rintro k ⟨hk,heq⟩;conv=>whnf
 refine⟨fun h=>?_,fun h=>?_⟩
 ·have h:=zA1 h;have Yc:k<m:=by omega
  have da:=VJ a (m-1-k) ((m:Int)-1-k) ha va5;have db:=VJ b (m-1-k) ((m:Int)-1-k) hb va5;conv=>whnf
  (first|(refine Or.inl ?_;(conv=>whnf);refine⟨_,da,?_⟩)|refine⟨_,da,?_⟩)
  conv=>whnf
  (first|(refine Or.inl ?_;(conv=>whnf);refine⟨_,db,?_⟩)|refine⟨_,db,?_⟩)
  conv=>whnf
  refine⟨fun q=>?_,fun q=>?_⟩
  ·have q:¬a.getD (m-1-k) 0=b.getD (m-1-k) 0:=fun e=>by
    rw[e]at q;simp at q
   conv=>whnf
   (first|(refine Or.inl ?_;(conv=>whnf);refine⟨_,da,?_⟩)|refine⟨_,da,?_⟩)
   conv=>whnf
   (first|(refine Or.inl ?_;(conv=>whnf);refine⟨_,db,?_⟩)|refine⟨_,db,?_⟩)
   conv=>whnf
   rw[OA Yc heq q];simp only[Int.ofNat_lt]
  ·have q:a.getD (m-1-k) 0=b.getD (m-1-k) 0:=by
    have q:((a.getD (m-1-k) 0:Nat):Int)=(b.getD (m-1-k) 0:Nat):=by simpa using q
    exact Int.ofNat.inj q
   refine⟨k+1,vb3 ?_⟩;refine kK ⟨⟨?_,?_,fun j hj=>?_⟩,?_,rfl,rfl⟩
   ·show m-(k+1)<m-k;omega
   ·omega
   ·by_cases e:j=k
    ·subst e;exact q
    ·exact heq j va5
   ·rw[z5 _ va5 va5];show [i64 ((m:Int)-1-k-1)]=[i64 ((m:Int)-1-((k+1:Nat):Int))]
    congr 2;omega
 ·have h:=zA0 h;have ek:k=m:=by omega
  rw[ek]at heq;conv=>whnf
  rw[AN m (Nat.le_refl _) heq,Nat.sub_self];all_goals rfl
theorem Kq(A B:Nat)(ha:(dg 1073741824 A).length<2^40)(hb:(dg 1073741824 B).length<2^40):va6 187 [A9 (li (dg 1073741824 A)),A9 (li (dg 1073741824 B))] (.bool (decide (A<=B))):=by
 have c:=OB _ _ ha hb;rwa[Ob va8 va5 va5]at c
theorem OC{B n:Nat}(hB:2<=B)(h0:0<n)(h:n<B):dg B n=[n]:=by
 rw[ko hB h0,Nat.mod_eq_of_lt h,Nat.div_eq_of_lt h,kY]
theorem Kr(f w n:Nat)(hf0:0<f)(hf:f<18446744073709551616)(hl:∀ k,k<=n->(dg 18446744073709551616 (f*w^k)).length<2^19)(hw:w<18446744073709551616)(hn:n<2^40):va6 213 [.slc 1 [[u64 f]],u64 w,i64 n] (wl (dg 18446744073709551616 (f*w^n))):=by
 refine(yh f w n hl hw hn).sub rfl (fun i hi=>?_) (.refl _)
 match i with
 | 0 =>
  rw[OC va8 hf0 hf];exact tq.slc 1 0 eU [f]
 | 1=>exact .refl _
 | 2=>exact .refl _
 | (n+3)=>exact .refl _
theorem wuN{n:Nat}(h:n<18446744073709551616):IntKind.u64.wrap ((n:Nat):Int)=(n:Int):=by rw[gQ];omega
theorem HD{N k n:Nat}(h:N<=2^(30+8*n))(hn:n<=500):(dg 18446744073709551616 N).length<=64:=AI (c:=64) h va8 va5
theorem OD{f p n k:Nat}(hf:f<=1073741824)(hp:p<=256)(hk:k<=n):f*p^k<=2^(30+8*n):=by
 have h1:p^k<=256^k:=Nat.pow_le_pow_left hp k;have h2:(256:Nat)^k<=256^n:=Nat.pow_le_pow_right va8 hk;have h3:f*p^k<=1073741824*256^n:=Nat.mul_le_mul hf (Nat.le_trans h1 h2);rwa[AH]at h3
theorem Ks{f p h n k:Nat}(hf:f<=1073741824)(hp:p<=256)(hh:h<=n)(hk:k<=n-h):f*p^h*(256-p)^k<=2^(30+8*n):=by
 have h0:p^h<=256^h:=Nat.pow_le_pow_left hp h;have h1:(256-p)^k<=256^k:=Nat.pow_le_pow_left va5 k;have h2:f*p^h*(256-p)^k<=1073741824*256^h*256^k:=Nat.mul_le_mul (Nat.mul_le_mul hf h0) h1;rw[Nat.mul_assoc 1073741824,<- Nat.pow_add]at h2;have h3:(256:Nat)^(h+k)<=256^n:=Nat.pow_le_pow_right va8 va5;have h4:=Nat.mul_le_mul_left 1073741824 h3;rw[<- AH];exact Nat.le_trans h2 h4
theorem HE(f p h n:Nat)(hf0:0<f)(hf:f<=1073741824)(hp:p<=255)(hh:h<=n)(hn:n<=500):va6 212 [i64 (p:Nat),i64 (f:Nat),.pt [i64 (h:Nat)] 0,.pt [i64 (n:Nat)] 0] (wl (dg 18446744073709551616 (Bg f p h n))):=by
 have c1:va6 213 [.slc 1 [[.int .u64 (IntKind.u64.wrap ((f:Nat):Int))]],.int .u64 (IntKind.u64.wrap ((p:Nat):Int)),i64 (h:Nat)] (wl (dg 18446744073709551616 (f*p^h))):=by
  rw[wuN va5,wuN va5];exact Kr f p h hf0 va5 (fun k hk=>by have:=HD (k:=k) (OD (f:=f) (p:=p) (n:=n) hf va5 (show k<=n by omega)) hn;omega) va5 va5
 have q1:va7 213 [.own 0,.int .u64 (IntKind.u64.wrap ((p:Nat):Int)),i64 (h:Nat)] [.lit 284 1 [[.int .u64 (IntKind.u64.wrap ((f:Nat):Int))]]] (wl (dg 18446744073709551616 (f*p^h))) [.none] :=
  c1.toPW Tryz.func213 va4 rfl va4 rfl
 have w1:IntKind.i64.wrap (256-((p:Nat):Int))=((256-p:Nat):Int):=by rw[z5 _ va5 va5];omega
 have w2:IntKind.i64.wrap (((n:Nat):Int)-((h:Nat):Int))=((n-h:Nat):Int):=by rw[z5 _ va5 va5];omega
 have c2:va6 213 [wl (dg 18446744073709551616 (f*p^h)),.int .u64 (IntKind.u64.wrap (IntKind.i64.wrap (256-((p:Nat):Int)))),i64 (IntKind.i64.wrap (((n:Nat):Int)-((h:Nat):Int)))] (wl (dg 18446744073709551616 (Bg f p h n))):=by
  rw[w1,w2,wuN va5];exact yh (f*p^h) (256-p) (n-h) (fun k hk=>by have:=HD (k:=k) (Ks (f:=f) (p:=p) (h:=h) (n:=n) hf va5 hh hk) hn;omega) va5 va5
 refine vb4 Tryz.func212 ?_;refine⟨va4,vb3 ?_⟩;refine Or.inr ⟨false,[9],_,_,_,_,⟨q1,rfl,rfl,va4⟩,?_⟩;conv=>whnf
 try exact va1
 all_goals rfl
theorem FV(l:K1)(ht:eY l=true)(h n:Nat)(hh:h<=n)(hn1:1<=n)(hn:n<=500):va6 171 [PD l,i64 (h:Nat),i64 (n:Nat)] (.bool (Oc l.p.toNat l.q.toNat l.al.1.toNat l.al.2.toNat h n)):=by
 obtain⟨⟨t1,t2,t3⟩,t4⟩:=uO.1 ht;obtain⟨v0,v1,v2,v3⟩:=AF.1 t4;have ep:((l.p.toNat:Nat):Int)=l.p:=by omega
 have ZB:((l.q.toNat:Nat):Int)=l.q:=by omega
 have en:((l.al.1.toNat:Nat):Int)=l.al.1:=by omega
 have ed:((l.al.2.toNat:Nat):Int)=l.al.2:=by omega
 have c1:=HE l.al.2.toNat l.p.toNat h n va5 va5 va5 hh hn;have c2:=HE l.al.1.toNat l.q.toNat h n va5 va5 va5 hh hn;rw[ep,ed]at c1;rw[ZB,en]at c2;have k1:=uS (f:=l.al.2.toNat) (p:=l.p.toNat) va5 va5 hh;have k2:=uS (f:=l.al.1.toNat) (p:=l.q.toNat) va5 va5 hh;have g1:=HD (k:=0) k1 hn;have g2:=HD (k:=0) k2 hn;have c3:=Kp (Bg l.al.2.toNat l.p.toNat h n) (Bg l.al.1.toNat l.q.toNat h n) va5 va5;refine pF Tryz.func171 ?_;conv=>whnf
 try exact va1
def rL(p h i:Nat):Nat:=Bg 1 p (min i h) i
theorem oN(p h:Nat):rL p h 0=1:=by simp[rL,Bg]
theorem AO{p h i:Nat}(hi:i<h):rL p h (i+1)=rL p h i*p:=by
 unfold rL Bg;rw[Nat.min_eq_left va5,Nat.min_eq_left va5,Nat.sub_self,Nat.sub_self,Nat.pow_succ];simp[Nat.mul_assoc]
theorem vu{p h i:Nat}(hi:¬i<h):rL p h (i+1)=rL p h i*(256-p):=by
 unfold rL Bg;rw[Nat.min_eq_right va5,Nat.min_eq_right va5,show i+1-h=(i-h)+1 by omega,Nat.pow_succ,<- Nat.mul_assoc]
theorem RI{p h n f:Nat}(hh:h<=n):rL p h n*f=Bg f p h n:=by
 unfold rL Bg;rw[Nat.min_eq_right hh,Nat.one_mul,Nat.mul_comm,Nat.mul_assoc]
theorem lh{p h i:Nat}(h0:0<p)(h1:p<=255):0<rL p h i:=Nat.mul_pos (Nat.mul_pos va8 (Nat.pow_pos h0)) (Nat.pow_pos va5)
theorem sA{p h i n:Nat}(h1:p<=255)(hi:i<=n)(hn:n<=500):(dg 1073741824 (rL p h i)).length<=136:=by
 have h2:rL p h i<=2^(30+8*i):=uS (f:=1) va8 va5 va5;exact AI (c:=30) h2 va8 va5
theorem jf(n:Nat)(hn:0<n)(vM:n<=1073741824)(x:Int)(hx:x=(n:Int)):va6 186 [.slc 1 [[i64 1]],i64 x] (A9 (li (dg 1073741824 (1*n)))):=by
 rw[hx];have e1:dg 1073741824 1=[1]:=OC va8 va8 va8;refine(yj 1 n (by rw[e1];decide) va8 hn vM).sub rfl (fun i hi=>?_) (.refl _)
 match i with
 | 0 =>
  rw[e1];exact tq.slc 1 0 eI [1]
 | 1=>exact .refl _
 | (n+2)=>exact .refl _
theorem cy(N n:Nat)(hl:(dg 1073741824 N).length<2^19)(hN:0<N)(hn:0<n)(vM:n<=1073741824)(x:Int)(hx:x=(n:Int)):va6 186 [A9 (li (dg 1073741824 N)),i64 x] (A9 (li (dg 1073741824 (N*n)))):=by
 rw[hx];exact yj N n hl hN hn vM
theorem Kt(l:K1)(ht:eY l=true)(h n:Nat)(hh:h<=n)(h1:1<=n)(hn:n<=500):va6 139 [PD l,i64 (h:Nat),i64 (n:Nat)] (.bool (Oc l.p.toNat l.q.toNat l.al.1.toNat l.al.2.toNat h n)):=by
 obtain⟨⟨t1,t2,t3⟩,t4⟩:=uO.1 ht;obtain⟨v0,v1,v2,v3⟩:=AF.1 t4;have ep:l.p=(l.p.toNat:Int):=by omega
 have ZB:l.q=(l.q.toNat:Int):=by omega
 have en:l.al.1=(l.al.1.toNat:Int):=by omega
 have ed:l.al.2=(l.al.2.toNat:Int):=by omega
 have p0:0<l.p.toNat/\l.p.toNat<=255:=by omega
 have q0:0<l.q.toNat/\l.q.toNat<=255:=by omega
 have n0:0<l.al.1.toNat/\l.al.1.toNat<=1073741824:=by omega
 have d0:0<l.al.2.toNat/\l.al.2.toNat<=1073741824:=by omega
 have wp:IntKind.i64.wrap (256-l.p)=((256-l.p.toNat:Nat):Int):=by rw[z5 _ va5 va5];omega
 have wq:IntKind.i64.wrap (256-l.q)=((256-l.q.toNat:Nat):Int):=by rw[z5 _ va5 va5];omega
 refine vb4 Tryz.func139 ?_;refine Or.inr ⟨Bool×Nat,[9,7,8,10,11],[10,11],[],fun i=>match i.1 with|true=>[i64 (i.2:Nat),.own 10,.own 11,.own 10,.own 11]|false=>[i64 (i.2:Nat),A9 (li (dg 1073741824 (rL l.q.toNat h i.2))),A9 (li (dg 1073741824 (rL l.p.toNat h i.2))),.slc 1 [[i64 1]],.slc 1 [[i64 1]]],fun i=>match i.1 with|true=>[.lit 3 1 [[i64 1]],.lit 3 1 [[i64 1]]]|false=>[.none,.none],fun _=>[],fun i=>n-i.2,fun i=>i.2<=n/\(i.1=true->i.2=0),vb3 ?_⟩;refine⟨⟨(true,0),?_⟩,?_⟩
 ·(conv=>whnf);exact kK ⟨⟨zB4 _,fun _=>rfl⟩,rfl,rfl,rfl⟩
 rintro⟨q,k⟩ ⟨hk,hq⟩;have hk:k<=n:=hk;cases q
 ·(conv=>whnf);refine⟨fun z=>?_,fun z=>?_⟩
  ·have z:(k:Int)<(n:Int):=zA1 z;have la:(dg 1073741824 (rL l.q.toNat h k)).length<=136:=sA q0.2 hk hn;have lb:(dg 1073741824 (rL l.p.toNat h k)).length<=136:=sA p0.2 hk hn;conv=>whnf
   refine⟨fun y=>?_,fun y=>?_⟩
   ·have y:(k:Int)<(h:Int):=zA1 y;have RJ:k<h:=by omega
    have ca:=cy (rL l.q.toNat h k) l.q.toNat va5 (lh q0.1 q0.2) q0.1 va5 l.q ZB;have cb:=cy (rL l.p.toNat h k) l.p.toNat va5 (lh p0.1 p0.2) p0.1 va5 l.p ep;rw[<- AO RJ]at ca cb;conv=>whnf
    (first|(refine Or.inl ?_;(conv=>whnf);refine⟨_,ca,?_⟩)|refine⟨_,ca,?_⟩)
    conv=>whnf
    (first|(refine Or.inl ?_;(conv=>whnf);refine⟨_,cb,?_⟩)|refine⟨_,cb,?_⟩)
    conv=>whnf
    refine⟨(false,k+1),vb3 ?_⟩;refine kK ⟨⟨?_,?_,fun e=>by cases e⟩,?_,rfl,rfl⟩
    ·show n-(k+1)<n-k;omega
    ·show k+1<=n;omega
    ·rw[z5 _ (by show -9223372036854775808<=(k:Int)+1;omega) (by show(k:Int)+1<=_;omega)];rfl
   ·have y:¬(k:Int)<(h:Int):=zA0 y;have RJ:¬k<h:=by omega
    have ca:=cy (rL l.q.toNat h k) (256-l.q.toNat) va5 (lh q0.1 q0.2) va5 va5 _ wq;have cb:=cy (rL l.p.toNat h k) (256-l.p.toNat) va5 (lh p0.1 p0.2) va5 va5 _ wp;rw[<- vu RJ]at ca cb;conv=>whnf
    (first|(refine Or.inl ?_;(conv=>whnf);refine⟨_,ca,?_⟩)|refine⟨_,ca,?_⟩)
    conv=>whnf
    (first|(refine Or.inl ?_;(conv=>whnf);refine⟨_,cb,?_⟩)|refine⟨_,cb,?_⟩)
    conv=>whnf
    refine⟨(false,k+1),vb3 ?_⟩;refine kK ⟨⟨?_,?_,fun e=>by cases e⟩,?_,rfl,rfl⟩
    ·show n-(k+1)<n-k;omega
    ·show k+1<=n;omega
    ·rw[z5 _ (by show -9223372036854775808<=(k:Int)+1;omega) (by show(k:Int)+1<=_;omega)];rfl
  ·have z:¬(k:Int)<(n:Int):=zA0 z;have ek:k=n:=by omega
   subst ek;have la:(dg 1073741824 (rL l.q.toNat h k)).length<=136:=sA q0.2 hk hn;have lb:(dg 1073741824 (rL l.p.toNat h k)).length<=136:=sA p0.2 hk hn;have ca:=cy (rL l.q.toNat h k) l.al.1.toNat va5 (lh q0.1 q0.2) n0.1 n0.2 l.al.1 en;have cb:=cy (rL l.p.toNat h k) l.al.2.toNat va5 (lh p0.1 p0.2) d0.1 d0.2 l.al.2 ed;rw[RI hh]at ca cb;have ha:(dg 1073741824 (Bg l.al.1.toNat l.q.toNat h k)).length<=136:=AI (c:=30) (uS n0.2 va5 hh) va8 va5;have hb:(dg 1073741824 (Bg l.al.2.toNat l.p.toNat h k)).length<=136:=AI (c:=30) (uS d0.2 va5 hh) va8 va5;have cc:=Kq (Bg l.al.2.toNat l.p.toNat h k) (Bg l.al.1.toNat l.q.toNat h k) va5 va5;conv=>whnf
   refine⟨va4,vb3 ?_⟩
   (first|(refine Or.inl ?_;(conv=>whnf);refine⟨_,cb,?_⟩)|refine⟨_,cb,?_⟩)
   conv=>whnf
   (first|(refine Or.inl ?_;(conv=>whnf);refine⟨_,ca,?_⟩)|refine⟨_,ca,?_⟩)
   conv=>whnf
   (first|(refine Or.inl ?_;(conv=>whnf);refine⟨_,cc,?_⟩)|refine⟨_,cc,?_⟩)
   conv=>whnf
   (repeat' (first|(refine⟨va4,?_⟩;(conv=>whnf))|fail));all_goals rfl
 ·obtain rfl:k=0:=hq rfl;conv=>whnf
  refine⟨fun z=>?_,fun z=>absurd (zA0 z) (by show ¬¬(((0:Nat):Int)<(n:Int));omega)⟩;conv=>whnf
  refine⟨fun y=>?_,fun y=>?_⟩
  ·have y:((0:Nat):Int)<(h:Int):=zA1 y;have RJ:0<h:=by omega
   have ca:=jf l.q.toNat q0.1 va5 l.q ZB;have cb:=jf l.p.toNat p0.1 va5 l.p ep;rw[<- oN l.q.toNat h,<- AO RJ]at ca;rw[<- oN l.p.toNat h,<- AO RJ]at cb;conv=>whnf
   ((first|refine Or.inl ?_|skip);(conv=>whnf);refine⟨true,?_⟩;(conv=>whnf);refine⟨_,ca,?_⟩;(conv=>whnf))
   ((first|refine Or.inl ?_|skip);(conv=>whnf);refine⟨true,?_⟩;(conv=>whnf);refine⟨_,cb,?_⟩;(conv=>whnf))
   refine⟨(false,0+1),vb3 ?_⟩;refine kK ⟨⟨?_,?_,fun e=>by cases e⟩,rfl,rfl,rfl⟩
   ·show n-(0+1)<n-0;omega
   ·show 0+1<=n;omega
  ·have y:¬((0:Nat):Int)<(h:Int):=zA0 y;have RJ:¬0<h:=by omega
   have ca:=jf (256-l.q.toNat) va5 va5 _ wq;have cb:=jf (256-l.p.toNat) va5 va5 _ wp;rw[<- oN l.q.toNat h,<- vu RJ]at ca;rw[<- oN l.p.toNat h,<- vu RJ]at cb;conv=>whnf
   ((first|refine Or.inl ?_|skip);(conv=>whnf);refine⟨true,?_⟩;(conv=>whnf);refine⟨_,ca,?_⟩;(conv=>whnf))
   ((first|refine Or.inl ?_|skip);(conv=>whnf);refine⟨true,?_⟩;(conv=>whnf);refine⟨_,cb,?_⟩;(conv=>whnf))
   refine⟨(false,0+1),vb3 ?_⟩;refine kK ⟨⟨?_,?_,fun e=>by cases e⟩,rfl,rfl,rfl⟩
   ·show n-(0+1)<n-0;omega
   ·show 0+1<=n;omega
theorem VK:tq .tt (.bool true):=fun F w v h=>by cases h;exact .bool _
theorem lk(x y:Int):tq (.tup [.agg [i64 x,i64 y,.tt],i64 0]) (.tup [.agg [i64 x,i64 y,.bool true],i64 0]):=by
 have e:tq (.agg [i64 x,i64 y,.tt]) (.agg [i64 x,i64 y,.bool true]):=by
  refine(cS (xs:=[i64 x,i64 y,.tt]) (ys:=[i64 x,i64 y,.bool true]) rfl fun i hi=>?_).1
  match i with
  | 0=>exact .refl _
  | 1=>exact .refl _
  | 2=>exact VK
  | (n+3)=>exact .refl _
 refine(cS (xs:=[.agg [i64 x,i64 y,.tt],i64 0]) (ys:=[.agg [i64 x,i64 y,.bool true],i64 0]) rfl fun i hi=>?_).2
 match i with
 | 0=>exact e
 | 1=>exact .refl _
 | (n+2)=>exact .refl _
theorem Dn(l:K1)(ht:eY l=true)(hI:A4 l.al.1/\A4 l.al.2)(d:Q5)(hd:bn d=true)(hr:¬d.rounds=500)(hit:Bool):va6 89 [PD l,.agg (dw d),.bool hit] (.tup [.agg (dw (wF l d hit)),i64 0]):=by
 have c1:=oM l hI.1 hI.2;have c2:=lV d;rw[ht]at c1;rw[hd]at c2;have dr:=kX.1 hd;obtain⟨h,r,a⟩:=d;simp only at dr hr;have w1:IntKind.i64.wrap (r+1)=r+1:=z5 _ va5 va5;have w2:IntKind.i64.wrap (h+1)=h+1:=z5 _ va5 va5;have c3:va6 139 [PD l,i64 (if hit=true then h+1 else h),i64 (r+1)] (.bool (Oc l.p.toNat l.q.toNat l.al.1.toNat l.al.2.toNat (if hit=true then h+1 else h).toNat (r+1).toNat)):=by
  have:=Kt l ht (if hit=true then h+1 else h).toNat (r+1).toNat (by split<;>omega) va5 va5;rw[show(((if hit=true then h+1 else h).toNat:Nat):Int)=(if hit=true then h+1 else h)by split<;>omega,show(((r+1).toNat:Nat):Int)=r+1 by omega]at this;exact this
 unfold wF;cases a
 ·simp only[Bool.false_or];cases hit
  ·simp only[zB0,if_false]at c3 ⊢;rw[<- w1]at c3 ⊢;refine pF Tryz.func89 ?_;conv=>whnf
   try exact va1
  ·simp only[if_true]at c3 ⊢;rw[<- w1,<- w2]at c3 ⊢;refine pF Tryz.func89 ?_;conv=>whnf
   try exact va1
 ·simp only[Bool.true_or];cases hit
  ·simp only[zB0,if_false];rw[<- w1];refine PC.sub (res := .tup [.agg [i64 h,i64 (IntKind.i64.wrap (r+1)),.tt],i64 0]) ?_ rfl (fun i hi => .refl _) (lk _ _);refine pF Tryz.func89 ?_;conv=>whnf
   try exact va1
   all_goals rfl
  ·simp only[if_true];rw[<- w1,<- w2];refine PC.sub (res := .tup [.agg [i64 (IntKind.i64.wrap (h+1)),i64 (IntKind.i64.wrap (r+1)),.tt],i64 0]) ?_ rfl (fun i hi => .refl _) (lk _ _);refine pF Tryz.func89 ?_;conv=>whnf
   try exact va1
   all_goals rfl
theorem HF(l:K1)(ht:eY l=true)(d:Q5)(hd:bn d=true)(hr:¬d.rounds=500)(hit:Bool):va6 118 [PD l,.agg (dw d),.bool hit] (.tup [.agg (dw (wF l d hit)),i64 0]):=by
 have c1:=oL l;have c2:=rb 0 500 d.rounds;have c2b:=rb 0 d.rounds d.hits;rw[ht,if_pos rfl]at c1;have dr:=kX.1 hd;rw[zA4 va5]at c2 c2b;obtain⟨h,r,a⟩:=d;simp only at dr hr;have w1:IntKind.i64.wrap (r+1)=r+1:=z5 _ va5 va5;have w2:IntKind.i64.wrap (h+1)=h+1:=z5 _ va5 va5;have c3:va6 171 [PD l,i64 (if hit=true then h+1 else h),i64 (r+1)] (.bool (Oc l.p.toNat l.q.toNat l.al.1.toNat l.al.2.toNat (if hit=true then h+1 else h).toNat (r+1).toNat)):=by
  have:=FV l ht (if hit=true then h+1 else h).toNat (r+1).toNat (by split<;>omega) va5 va5;rw[show(((if hit=true then h+1 else h).toNat:Nat):Int)=(if hit=true then h+1 else h)by split<;>omega,show(((r+1).toNat:Nat):Int)=r+1 by omega]at this;exact this
 unfold wF;cases a
 ·simp only[Bool.false_or];cases hit
  ·simp only[zB0,if_false]at c3 ⊢;rw[<- w1]at c3 ⊢;refine pF Tryz.func118 ?_;conv=>whnf
   try exact va1
  ·simp only[if_true]at c3 ⊢;rw[<- w1,<- w2]at c3 ⊢;refine pF Tryz.func118 ?_;conv=>whnf
   try exact va1
 ·simp only[Bool.true_or];cases hit
  ·simp only[zB0,if_false];rw[<- w1];refine PC.sub (res := .tup [.agg [i64 h,i64 (IntKind.i64.wrap (r+1)),.tt],i64 0]) ?_ rfl (fun i hi => .refl _) (lk _ _);refine pF Tryz.func118 ?_;conv=>whnf
   try exact va1
   all_goals rfl
  ·simp only[if_true];rw[<- w1,<- w2];refine PC.sub (res := .tup [.agg [i64 (IntKind.i64.wrap (h+1)),i64 (IntKind.i64.wrap (r+1)),.tt],i64 0]) ?_ rfl (fun i hi => .refl _) (lk _ _);refine pF Tryz.func118 ?_;conv=>whnf
   try exact va1
   all_goals rfl

end Go.Proofs.Tryz.My
