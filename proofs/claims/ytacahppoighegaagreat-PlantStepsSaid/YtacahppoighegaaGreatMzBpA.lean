/- Helper lemmas. -/
import Derived.Test.YtacahppoighegaaGreatMzBoC
import Derived.Test.YtacahppoighegaaGreatEvTen
set_option linter.unusedVariables false
set_option linter.unusedSimpArgs false
set_option maxRecDepth 100000
set_option maxHeartbeats 0
namespace Go.Proofs.Tryz.My
open Go Go.Ev
def ja(l:List Int)(t:Int):Nat:=l.findIdx fun x=>decide (t<=x)
theorem Ao{l:List Int}{t:Int}{i:Nat}(hi:i<=l.length)(h1:∀ m,m<i->l.getD m 0<t)(h2:i<l.length->t<=l.getD i 0):ja l t=i:=by
 unfold ja;rcases Nat.lt_trichotomy (l.findIdx fun x=>decide (t<=x)) i with h|h|h
 ·have hl:(l.findIdx fun x=>decide (t<=x))<l.length:=by omega
  have a:=List.findIdx_getElem (p:=fun x=>decide (t<=x)) (xs:=l) (w:=hl);have b:=h1 _ h;simp only[List.getD,zA6 hl,Option.getD_some]at b;have a:=zA1 a;omega
 ·exact h
 ·have hl:i<l.length:=zB5 h List.findIdx_le_length;have a:=List.not_of_lt_findIdx h;have b:=h2 hl;simp only[List.getD,zA6 hl,Option.getD_some]at b;simp[b]at a
theorem Ap(l:List Int)(t:Int):ja l t<=l.length:=List.findIdx_le_length
def Inc(l:List Int):Prop:=∀ i j,i<j->j<l.length->l.getD i 0<l.getD j 0
theorem NK{us:List Int}{x:D1}(h:aG us x=true):Inc x.y7:=by
 have h:=V4.1 h;have st:∀ i,i+1<x.y7.length->x.y7.getD i 0<x.y7.getD (i+1) 0:=by
  intro i hi;have:=h (i+1) hi;simp only[Jz,zA2,fJ]at this;have e:=zA1 this.1.1;rw[if_neg va5,show i+1-1=i by omega]at e;exact e
 intro i j Bd
 induction j with
 | zero=>omega
 | succ j ih =>
  intro hj;by_cases e:i=j
  ·subst e;exact st i hj
  ·have a:=ih va5 va5;have b:=st j hj;omega
theorem Rg{l:List Int}(h:Inc l){t:Int}{i:Nat}(hi:i<=l.length)(h1:∀ m,m<i->l.getD m 0<t)(h2:∀ m,i<=m->m<l.length->t<=l.getD m 0):l.contains t=(decide (i<l.length) && decide (l.getD i 0=t)):=by
 rw[Bool.eq_iff_iff,List.contains_iff_mem,zA2,zA3,zA3]
 constructor
 ·intro hm;obtain⟨m,hm,e⟩:=List.getElem_of_mem hm;have e2:l.getD m 0=t:=by simp only[List.getD,zA6 hm,Option.getD_some];exact e
  rcases Nat.lt_trichotomy m i with q|q|q
  ·have:=h1 m q;omega
  ·subst q;exact⟨hm,e2⟩
  ·have a:=h i m q hm;have b:=h2 i (Nat.le_refl i) va5;omega
 ·rintro⟨a,b⟩;rw[<- b];simp only[List.getD,zA6 a,Option.getD_some];exact List.getElem_mem a
theorem Tt(i j:Nat)(hi:i<2^40)(hj:j<2^40):IntKind.i64.wrap ((IntKind.u64.wrap (IntKind.i64.wrap ((i:Int)+(j:Int)))).fdiv (2^min (Int.toNat 1) IntKind.u64.bits))=(((i+j) / 2:Nat):Int):=by
 have e1:IntKind.i64.wrap ((i:Int)+(j:Int))=((i+j:Nat):Int):=by rw[wi _ va5 va5];omega
 have e:Int.toNat ((1:Nat):Int)=Int.toNat 1:=rfl;have:=qJ (i+j) 1 va5;rw[e]at this;rw[e1,wu _ va5,this,wi _ va5 va5]
theorem Rh(x:Int):va6 242 [i64 x] (.bool false):=by
 refine pF Tryz.func242 ?_;conv=>whnf
 first|rfl|(simp;done)
theorem Ri(x:Int):va6 216 [i64 x] (.bool false):=by
 refine pF Tryz.func216 ?_;conv=>whnf
 first|rfl|(simp;done)
theorem NL(x y:Int):va6 215 [i64 x,i64 y] (.bool (decide (x<y))):=by
 refine pF Tryz.func215 ?_;conv=>whnf
 try exact vd5 Rh
 all_goals rfl
theorem Hr(l:List Int)(hs:Inc l)(hl:l.length<2^39)(t:Int):va6 173 [A9 l,i64 t] (.tup [i64 (ja l t),.bool (l.contains t)]):=by
 refine vb4 Tryz.func173 ?_;refine Or.inr ⟨Nat×Nat,[7,8],[],[],fun i=>[i64 i.1,i64 i.2],fun _=>[],fun _=>[],fun i=>i.2-i.1,fun i=>i.1<=i.2/\i.2<=l.length/\(∀ m,m<i.1->l.getD m 0<t)/\∀ m,i.2<=m->m<l.length->t<=l.getD m 0,vb3 ?_⟩;refine⟨⟨(0,l.length),?_⟩,?_⟩
 ·(conv=>whnf);exact kK ⟨⟨zB4 _,Nat.le_refl _,fun m hm=>absurd hm (zB3 m),fun m h1 h2=>absurd h2 (Nat.not_lt.2 h1)⟩,rfl,rfl,rfl⟩
 ·rintro⟨i,j⟩ ⟨g1,g2,g3,g4⟩;simp only[]at g1 g2 g3 g4;conv=>whnf
  refine⟨fun h=>?_,fun h=>?_⟩
  ·have h:=zA1 h;simp only[]at h;conv=>whnf
   rw[Tt i j va5 va5];have e1:i<=(i+j) / 2:=by omega
   have e2:(i+j) / 2<j:=by omega
   generalize (i+j) / 2=m at *
   have z:l.getD (Int.toNat (m:Int)) 0=l.getD m 0:=rfl;refine vd6 NL ?_ ?_<;>intros
   ·refine⟨(m+1,j),vb3 ?_⟩;refine kK ⟨⟨?_,by show m+1<=j;omega,g2,?_,g4⟩,?_,rfl,rfl⟩
    ·show j-(m+1)<j-i;omega
    ·intro q hq;have hq:q<m+1:=hq;by_cases e:q=m
     ·subst e;assumption
     ·have:=hs q m va5 va5;omega
    ·rw[z5 _ va5 va5];rfl
   ·refine⟨(i,m),vb3 ?_⟩;refine kK ⟨⟨?_,e1,by show m<=l.length;omega,g3,?_⟩,rfl,rfl,rfl⟩
    ·show m-i<j-i;omega
    ·intro q h1 h2;have h1:m<=q:=h1;by_cases e:q=m
     ·subst e;omega
     ·have:=hs m q va5 h2;omega
  ·have h:=zA0 h;simp only[]at h;have e:i=j:=by omega
   subst e;rw[Rg hs g2 g3 g4,Ao g2 g3 (fun q=>g4 i (Nat.le_refl i) q)];refine vd7 Ri ?_ ?_ ?_<;>intros
   all_goals (refine congrArg (fun z=>AV.tup [i64 i,AV.bool z]) ?_;first|(simp_all;done)|(rw[zA5 (show ¬i<l.length by omega)];rfl))
def Y0(q:Int)(x:A2):Bool:=decide (x.seq=q)
def Eb(p:A2->Bool)(l:List A2):Int:=if l.any p then l.findIdx p else -1
theorem hH{p:A2->Bool}{l:List A2}(h:l.any p=true):l.findIdx p<l.length:=by
 obtain⟨x,hx,hp⟩:=List.any_eq_true.1 h;exact List.findIdx_lt_length_of_exists ⟨x,hx,hp⟩
theorem Tu{p:A2->Bool}{l:List A2}(h:l.any p=true):p (l.getD (l.findIdx p) s9)=true:=by
 have hl:=hH h;have:=List.findIdx_getElem (p:=p) (xs:=l) (w:=hl);simp only[List.getD,zA6 hl,Option.getD_some];exact this
theorem Yn{p:A2->Bool}{l:List A2}{m:Nat}(h:m<l.findIdx p):p (l.getD m s9)=false:=by
 have hl:m<l.length:=zB5 h List.findIdx_le_length;have:=List.not_of_lt_findIdx h;simp only[List.getD,zA6 hl,Option.getD_some];simpa using this
theorem UZ{p:A2->Bool}{l:List A2}{k:Nat}(hk:k<l.length)(h:p (l.getD k s9)=true):l.any p=true:=List.any_eq_true.2 ⟨l.getD k s9,by simp only[List.getD,zA6 hk,Option.getD_some];exact List.getElem_mem hk,h⟩
theorem si{p:A2->Bool}{l:List A2}{k:Nat}(hk:k<l.length)(h:p (l.getD k s9)=true)(xa:∀ m,m<k->p (l.getD m s9)=false):Eb p l=k:=by
 have ha:=UZ hk h;unfold Eb;rw[if_pos ha];have e:l.findIdx p=k:=by
  have h1:=Tu ha;rcases Nat.lt_trichotomy (l.findIdx p) k with h2|h2|h2
  ·rw[xa _ h2]at h1;cases h1
  ·exact h2
  ·rw[Yn h2]at h;cases h
 rw[e]
theorem ot{p:A2->Bool}{l:List A2}(xa:∀ m,m<l.length->p (l.getD m s9)=false):Eb p l = -1:=by
 unfold Eb;rw[if_neg];intro h;have h1:=Tu h;rw[xa _ (hH h)]at h1;cases h1
theorem uD(x:A2)(q:Int):va6 244 [UW x,.pt [i64 q] 0] (.bool (Y0 q x)):=by
 refine pF Tryz.func244 ?_;conv=>whnf
 try rfl
theorem CS(l:List A2)(hl:l.length<2^40)(q:Int):va6 168 [od l,.fn (.func 244) [] [.pt [i64 q] 0]] (i64 (Eb (Y0 q) l)):=by
 refine vb4 Tryz.func168 ?_;refine Or.inr ⟨Nat,[8],[],[],fun k=>[i64 k],fun _=>[],fun _=>[],fun k=>l.length-k,fun k=>k<=l.length/\∀ m,m<k->Y0 q (l.getD m s9)=false,vb3 ?_⟩;refine⟨⟨0,?_⟩,?_⟩
 ·(conv=>whnf);exact kK ⟨⟨zB4 _,fun i hi=>absurd hi (zB3 i)⟩,rfl,rfl,rfl⟩
 intro k hk;conv=>whnf
 refine⟨fun h=>?_,fun h=>?_⟩
 ·have h:=zA1 h;have L4:k<l.length:=by omega
  conv=>whnf
  refine⟨⟨va5,va5⟩,vb3 ?_⟩;rw[show Int.toNat (k:Int)=k from rfl];(repeat' (first|(refine⟨_,by exact uD _ _,?_⟩;(conv=>whnf))|(refine Or.inl ?_;(conv=>whnf);refine⟨_,by exact uD _ _,?_⟩;(conv=>whnf))|(refine Or.inl ?_;(conv=>whnf);refine⟨false,?_⟩;(conv=>whnf);refine⟨_,by exact uD _ _,?_⟩;(conv=>whnf))|(refine⟨va4,?_⟩;(conv=>whnf))|fail));refine⟨fun q1=>?_,fun q1=>?_⟩
  ·(conv=>whnf);exact congrArg i64 (si L4 q1 hk.2).symm
  ·refine⟨k+1,vb3 ?_⟩;refine kK ⟨⟨?_,?_,?_⟩,?_,rfl,rfl⟩
   ·show l.length-(k+1)<l.length-k;omega
   ·omega
   ·intro m h2;by_cases e:m=k
    ·subst e;exact q1
    ·exact hk.2 m va5
   ·rw[z5 _ va5 va5];rfl
 ·have h:=zA0 h;conv=>whnf
  exact congrArg i64 (ot fun m h2=>hk.2 m va5).symm
theorem kS(b:n9)(o:C8 b)(q:Int)(h:b.log.any (Y0 q)=true):va7 219 [.ptr 0 0 0 0,i64 q] (jy b) (.ptr 3 6 (b.log.findIdx (Y0 q)) 0) (jy b):=by
 have c:=CS b.log (P1 o.l) q;have z8:=hH h;have ho:=o.l;unfold Eb at c;rw[if_pos h]at c;generalize b.log.findIdx (Y0 q)=i at *
 refine vb5 Tryz.func219 ?_;refine vc0 ?_;intros;try exact va1
theorem xT(b:n9)(o:C8 b)(q:Int)(h:¬b.log.any (Y0 q)=true):va7 219 [.ptr 0 0 0 0,i64 q] (jy b) .nilp (jy b):=by
 have c:=CS b.log (P1 o.l) q;unfold Eb at c;rw[if_neg h]at c;refine vb5 Tryz.func219 ?_;refine vc0 ?_;intros;try exact va1
theorem uE(b:n9):va7 102 [.ptr 0 0 0 0,.slc 1 [[u8 1],[u8 2],[u8 3]]] (jy b) (.fn (.func 147) [] [.ptr 4 0 0 0,.ptr 5 0 0 0]) (jy b++[.cells 125 [.ptr 0 0 0 0],.cells 33 [.slc 1 [[u8 1],[u8 2],[u8 3]]]]):=by
 refine u4 hm Tryz.func102 va4 ⟨va4,vb3 ?_⟩;refine⟨[2,3],va4,vb3 ?_⟩;exact⟨rfl,rfl⟩
theorem uF(b:n9):va7 102 [.ptr 0 0 0 0,.slc 1 [[u8 3]]] (jy b) (.fn (.func 147) [] [.ptr 4 0 0 0,.ptr 5 0 0 0]) (jy b++[.cells 125 [.ptr 0 0 0 0],.cells 33 [.slc 1 [[u8 3]]]]):=by
 refine u4 hm Tryz.func102 va4 ⟨va4,vb3 ?_⟩;refine⟨[2,3],va4,vb3 ?_⟩;exact⟨rfl,rfl⟩
def FA(x:A2)(is:Bool):A2:=⟨x.seq,x.recipe,x.part,x.n7,x.o5,is⟩
def lC(b:n9)(seq:Int):Nat:=b.log.findIdx (Y0 seq)
def S8(b:n9)(seq:Int)(is:Bool):n9:=⟨b.keep,b.n5,b.j8,b.next,b.log.set (lC b seq) (FA (b.log.getD (lC b seq) s9) is)⟩
def eV(b:n9)(k7 seq:Int)(is:Bool)(rr:List Int):Int :=
 if B8 b then(if ¬(b.log.any (Y0 seq)=true/\(0<=k7/\k7<=(b.n5.length:Int)-1))then 6 else if D6 rr b.n5 k7=false then 100 else if (b.log.getD (lC b seq) s9).disputed=is then 101 else 0)else 8
theorem qa{b:n9}{k7 seq:Int}{is:Bool}{rr:List Int}(h:eV b k7 seq is rr=0):B8 b=true/\b.log.any (Y0 seq)=true/\(0<=k7/\k7<=(b.n5.length:Int)-1)/\D6 rr b.n5 k7=true/\¬(b.log.getD (lC b seq) s9).disputed=is:=by
 unfold eV at h;by_cases h1:B8 b=true
 ·rw[if_pos h1]at h;by_cases h2:b.log.any (Y0 seq)=true/\(0<=k7/\k7<=(b.n5.length:Int)-1)
  ·rw[if_neg (fun q=>q h2)]at h;by_cases h3:D6 rr b.n5 k7=false
   ·rw[if_pos h3]at h;cases h
   ·rw[if_neg h3]at h;by_cases h4:(b.log.getD (lC b seq) s9).disputed=is
    ·rw[if_pos h4]at h;cases h
    ·exact⟨h1,h2.1,h2.2,by simpa using h3,h4⟩
  ·rw[if_pos h2]at h;cases h
 ·rw[if_neg h1]at h;cases h
theorem Aq(b:n9)(o:C8 b)(k7 seq:Int)(h:eV b k7 seq true [1,2,3]=0):va7 176 [R5 b,i64 k7,i64 seq,.bool true,.slc 1 [[u8 1],[u8 2],[u8 3]]] [] (.tup [mF (S8 b seq true),i64 0]) (mG (S8 b seq true)):=by
 obtain⟨hc,ha,hu,eT,hd⟩:=qa h;clear h;have s:=B0 hc;have c1:=fun u=>CF b.keep b.next u b.n5 b.j8 b.log 1 2 3 (P1 o.u)
 have w0:IntKind.i64.wrap ((b.n5.length:Int)-1)=(b.n5.length:Int)-1:=z5 _ va5 va5;have z8:lC b seq<b.log.length:=hH ha;have e:=kS b o seq ha;unfold S8;unfold lC at *
 generalize b.log.findIdx (Y0 seq)=i at *
 refine vb5 Tryz.func176 ?_;refine va2 [] [20,18,19,21] (vb3 ?_);refine va3 [] (K0 b o hc) (vb3 ?_);refine vc4 ?_;intros;refine va2 [] [] (vb3 ?_);refine va3 [20,18,19,21] e (vb3 ?_);refine vd4 (P3 b o) ?_;intros;refine va2 [] [49,47] (vb3 ?_);refine va3 [20,18,19,21] (uE b) (vb3 ?_);refine vd4 c1 ?_;intros;refine⟨z8,vb3 ?_⟩;refine⟨fun q=>absurd (by simpa using q) hd,fun _=>?_⟩;conv=>whnf
 refine⟨FA (b.log.getD i s9) true,⟨rfl,rfl,z8⟩,vb3 ?_⟩;refine⟨[18,19,21],va4,vb3 ?_⟩;exact⟨rfl,rfl⟩
theorem wx(b:n9)(o:C8 b)(k7 seq:Int)(h:¬eV b k7 seq true [1,2,3]=0):va6 176 [R5 b,i64 k7,i64 seq,.bool true,.slc 1 [[u8 1],[u8 2],[u8 3]]] (.tup [dL 0,i64 (eV b k7 seq true [1,2,3])]):=by
 have c1:=fun u=>CF b.keep b.next u b.n5 b.j8 b.log 1 2 3 (P1 o.u)
 by_cases hc:B8 b=true
 ·unfold eV at h ⊢;rw[if_pos hc]at h ⊢;have s:=B0 hc;by_cases ha:b.log.any (Y0 seq)=true
  ·have e:=kS b o seq ha;have z8:lC b seq<b.log.length:=hH ha;unfold lC at *
   generalize b.log.findIdx (Y0 seq)=i at *
   by_cases hu:0<=k7/\k7<=(b.n5.length:Int)-1
   ·rw[if_neg (fun q=>q ⟨ha,hu⟩)]at h ⊢;by_cases eT:D6 [1,2,3] b.n5 k7=true
    ·rw[if_neg (by rw[eT];decide)]at h ⊢;have hd:(b.log.getD i s9).disputed=true:=Decidable.byContradiction fun q=>h (if_neg q)
     rw[if_pos hd];refine vb4 Tryz.func176 ?_;refine va2 [] [20,18,19,21] (vb3 ?_);refine va3 [] (K0 b o hc) (vb3 ?_);refine vc4 ?_;intros;refine va2 [] [] (vb3 ?_);refine va3 [20,18,19,21] e (vb3 ?_);refine vd4 (P3 b o) ?_;intros;refine va2 [] [49,47] (vb3 ?_);refine va3 [20,18,19,21] (uE b) (vb3 ?_);refine vd4 c1 ?_;intros;refine⟨z8,vb3 ?_⟩;refine⟨fun _=>?_,fun q=>absurd hd (by simpa using q)⟩;conv=>whnf
     all_goals rfl
    ·have mV:D6 [1,2,3] b.n5 k7=false:=by simpa using eT
     rw[if_pos mV];refine vb4 Tryz.func176 ?_;refine va2 [] [20,18,19,21] (vb3 ?_);refine va3 [] (K0 b o hc) (vb3 ?_);refine vc4 ?_;intros;refine va2 [] [] (vb3 ?_);refine va3 [20,18,19,21] e (vb3 ?_);refine vd4 (P3 b o) ?_;intros;refine va2 [] [49,47] (vb3 ?_);refine va3 [20,18,19,21] (uE b) ?_;conv=>whnf
     try exact vd5 c1
     all_goals rfl
   ·rw[if_pos (fun q=>hu q.2)];refine vb4 Tryz.func176 ?_;refine va2 [] [20,18,19,21] (vb3 ?_);refine va3 [] (K0 b o hc) (vb3 ?_);refine vc4 ?_;intros;refine va2 [] [] (vb3 ?_);refine va3 [20,18,19,21] e ?_;conv=>whnf
    try exact vd5 (P3 b o)
    all_goals rfl
  ·have e:=xT b o seq ha;rw[if_pos (fun q=>ha q.1)];refine vb4 Tryz.func176 ?_;refine va2 [] [20,18,19,21] (vb3 ?_);refine va3 [] (K0 b o hc) (vb3 ?_);refine vc4 ?_;intros;refine va2 [] [] (vb3 ?_);refine va3 [20,18,19,21] e ?_;conv=>whnf
   try exact vd5 (P3 b o)
   all_goals rfl
 ·have sY:B8 b=false:=by simpa using hc
  have c:=az b o sY;unfold eV;rw[if_neg hc];refine pF Tryz.func176 ?_;conv=>whnf
  try exact vc1
  all_goals rfl
theorem Ar(b:n9)(o:C8 b)(k7 seq:Int)(h:eV b k7 seq false [3]=0):va7 176 [R5 b,i64 k7,i64 seq,.bool false,.slc 1 [[u8 3]]] [] (.tup [mF (S8 b seq false),i64 0]) (mG (S8 b seq false)):=by
 obtain⟨hc,ha,hu,eT,hd⟩:=qa h;clear h;have s:=B0 hc;have c1:=fun u=>U9 b.keep b.next u b.n5 b.j8 b.log 3 (P1 o.u)
 have w0:IntKind.i64.wrap ((b.n5.length:Int)-1)=(b.n5.length:Int)-1:=z5 _ va5 va5;have z8:lC b seq<b.log.length:=hH ha;have e:=kS b o seq ha;unfold S8;unfold lC at *
 generalize b.log.findIdx (Y0 seq)=i at *
 refine vb5 Tryz.func176 ?_;refine va2 [] [20,18,19,21] (vb3 ?_);refine va3 [] (K0 b o hc) (vb3 ?_);refine vc4 ?_;intros;refine va2 [] [] (vb3 ?_);refine va3 [20,18,19,21] e (vb3 ?_);refine vd4 (P3 b o) ?_;intros;refine va2 [] [49,47] (vb3 ?_);refine va3 [20,18,19,21] (uF b) (vb3 ?_);refine vd4 c1 ?_;intros;refine⟨z8,vb3 ?_⟩;refine⟨fun q=>absurd (by simpa using q) hd,fun _=>?_⟩;conv=>whnf
 refine⟨FA (b.log.getD i s9) false,⟨rfl,rfl,z8⟩,vb3 ?_⟩;refine⟨[18,19,21],va4,vb3 ?_⟩;exact⟨rfl,rfl⟩
theorem wy(b:n9)(o:C8 b)(k7 seq:Int)(h:¬eV b k7 seq false [3]=0):va6 176 [R5 b,i64 k7,i64 seq,.bool false,.slc 1 [[u8 3]]] (.tup [dL 0,i64 (eV b k7 seq false [3])]):=by
 have c1:=fun u=>U9 b.keep b.next u b.n5 b.j8 b.log 3 (P1 o.u)
 by_cases hc:B8 b=true
 ·unfold eV at h ⊢;rw[if_pos hc]at h ⊢;have s:=B0 hc;by_cases ha:b.log.any (Y0 seq)=true
  ·have e:=kS b o seq ha;have z8:lC b seq<b.log.length:=hH ha;unfold lC at *
   generalize b.log.findIdx (Y0 seq)=i at *
   by_cases hu:0<=k7/\k7<=(b.n5.length:Int)-1
   ·rw[if_neg (fun q=>q ⟨ha,hu⟩)]at h ⊢;by_cases eT:D6 [3] b.n5 k7=true
    ·rw[if_neg (by rw[eT];decide)]at h ⊢;have hd:(b.log.getD i s9).disputed=false:=Decidable.byContradiction fun q=>h (if_neg q)
     rw[if_pos hd];refine vb4 Tryz.func176 ?_;refine va2 [] [20,18,19,21] (vb3 ?_);refine va3 [] (K0 b o hc) (vb3 ?_);refine vc4 ?_;intros;refine va2 [] [] (vb3 ?_);refine va3 [20,18,19,21] e (vb3 ?_);refine vd4 (P3 b o) ?_;intros;refine va2 [] [49,47] (vb3 ?_);refine va3 [20,18,19,21] (uF b) (vb3 ?_);refine vd4 c1 ?_;intros;refine⟨z8,vb3 ?_⟩;refine⟨fun _=>?_,fun q=>absurd hd (by simpa using q)⟩;conv=>whnf
     all_goals rfl
    ·have mV:D6 [3] b.n5 k7=false:=by simpa using eT
     rw[if_pos mV];refine vb4 Tryz.func176 ?_;refine va2 [] [20,18,19,21] (vb3 ?_);refine va3 [] (K0 b o hc) (vb3 ?_);refine vc4 ?_;intros;refine va2 [] [] (vb3 ?_);refine va3 [20,18,19,21] e (vb3 ?_);refine vd4 (P3 b o) ?_;intros;refine va2 [] [49,47] (vb3 ?_);refine va3 [20,18,19,21] (uF b) ?_;conv=>whnf
     try exact vd5 c1
     all_goals rfl
   ·rw[if_pos (fun q=>hu q.2)];refine vb4 Tryz.func176 ?_;refine va2 [] [20,18,19,21] (vb3 ?_);refine va3 [] (K0 b o hc) (vb3 ?_);refine vc4 ?_;intros;refine va2 [] [] (vb3 ?_);refine va3 [20,18,19,21] e ?_;conv=>whnf
    try exact vd5 (P3 b o)
    all_goals rfl
  ·have e:=xT b o seq ha;rw[if_pos (fun q=>ha q.1)];refine vb4 Tryz.func176 ?_;refine va2 [] [20,18,19,21] (vb3 ?_);refine va3 [] (K0 b o hc) (vb3 ?_);refine vc4 ?_;intros;refine va2 [] [] (vb3 ?_);refine va3 [20,18,19,21] e ?_;conv=>whnf
   try exact vd5 (P3 b o)
   all_goals rfl
 ·have sY:B8 b=false:=by simpa using hc
  have c:=az b o sY;unfold eV;rw[if_neg hc];refine pF Tryz.func176 ?_;conv=>whnf
  try exact vc1
  all_goals rfl
def mJ(b:n9)(k7 seq:Int):Int:=eV b k7 seq true [1,2,3]
def mK(b:n9)(k7 seq:Int):Int:=eV b k7 seq false [3]
theorem As(b:n9)(o:C8 b)(k7 seq:Int)(h:mJ b k7 seq=0):va7 125 [R5 b,i64 k7,i64 seq] [] (.tup [mF (S8 b seq true),i64 0]) (mG (S8 b seq true)):=by
 have c:va7 176 [R5 b,i64 k7,i64 seq,.tt,.slc 1 [[u8 1],[u8 2],[u8 3]]] [] (.tup [mF (S8 b seq true),i64 0]) (mG (S8 b seq true)):=(Aq b o k7 seq h).tts;refine vb5 Tryz.func125 ?_;refine va2 [11] [13,9,10] (vb3 ?_);refine va3 [] c (vb3 ?_);refine ve4 ?_;intros;refine⟨[13,9,10],va4,vb3 ?_⟩;exact⟨rfl,rfl⟩
theorem wA(b:n9)(o:C8 b)(k7 seq:Int)(h:¬mJ b k7 seq=0):va6 125 [R5 b,i64 k7,i64 seq] (.tup [dL 0,i64 (mJ b k7 seq)]):=by
 have c:va6 176 [R5 b,i64 k7,i64 seq,.tt,.slc 1 [[u8 1],[u8 2],[u8 3]]] (.tup [dL 0,i64 (eV b k7 seq true [1,2,3])]):=(wx b o k7 seq h).tts;refine vb4 Tryz.func125 ?_
 ((first|refine Or.inl ?_|skip);(conv=>whnf);refine⟨true,?_⟩;(conv=>whnf);refine⟨_,c,?_⟩;(conv=>whnf))
 refine vc4 ?_;intros;all_goals rfl
theorem CT(b:n9)(o:C8 b)(k7 seq:Int)(h:mK b k7 seq=0):va7 126 [R5 b,i64 k7,i64 seq] [] (.tup [mF (S8 b seq false),i64 0]) (mG (S8 b seq false)):=by
 have c:va7 176 [R5 b,i64 k7,i64 seq,.ff,.slc 1 [[u8 3]]] [] (.tup [mF (S8 b seq false),i64 0]) (mG (S8 b seq false)):=(Ar b o k7 seq h).tts;refine vb5 Tryz.func126 ?_;refine va2 [11] [13,9,10] (vb3 ?_);refine va3 [] c (vb3 ?_);refine ve4 ?_;intros;refine⟨[13,9,10],va4,vb3 ?_⟩;exact⟨rfl,rfl⟩
theorem At(b:n9)(o:C8 b)(k7 seq:Int)(h:¬mK b k7 seq=0):va6 126 [R5 b,i64 k7,i64 seq] (.tup [dL 0,i64 (mK b k7 seq)]):=by
 have c:va6 176 [R5 b,i64 k7,i64 seq,.ff,.slc 1 [[u8 3]]] (.tup [dL 0,i64 (eV b k7 seq false [3])]):=(wy b o k7 seq h).tts;refine vb4 Tryz.func126 ?_
 ((first|refine Or.inl ?_|skip);(conv=>whnf);refine⟨true,?_⟩;(conv=>whnf);refine⟨_,c,?_⟩;(conv=>whnf))
 refine vc4 ?_;intros;all_goals rfl

end Go.Proofs.Tryz.My
