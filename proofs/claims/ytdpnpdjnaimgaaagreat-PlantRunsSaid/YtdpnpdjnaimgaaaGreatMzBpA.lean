/- Helper lemmas. -/
import Derived.Test.YtdpnpdjnaimgaaaGreatMzBoC
import Derived.Test.YtdpnpdjnaimgaaaGreatEvTen
set_option linter.unusedVariables false
set_option linter.unusedSimpArgs false
set_option maxRecDepth 100000
set_option maxHeartbeats 0
namespace Go.Proofs.Tryz.My
open Go Go.Ev
def iW(l:List Int)(t:Int):Nat:=l.findIdx fun x=>decide (t<=x)
theorem NW{l:List Int}{t:Int}{i:Nat}(hi:i<=l.length)(h1:∀ m,m<i->l.getD m 0<t)(h2:i<l.length->t<=l.getD i 0):iW l t=i:=by
 unfold iW;rcases Nat.lt_trichotomy (l.findIdx fun x=>decide (t<=x)) i with h|h|h
 ·have hl:(l.findIdx fun x=>decide (t<=x))<l.length:=by omega
  have a:=List.findIdx_getElem (p:=fun x=>decide (t<=x)) (xs:=l) (w:=hl);have b:=h1 _ h;simp only[List.getD,zA6 hl,Option.getD_some]at b;have a:=zA1 a;omega
 ·exact h
 ·have hl:i<l.length:=zB5 h List.findIdx_le_length;have a:=List.not_of_lt_findIdx h;have b:=h2 hl;simp only[List.getD,zA6 hl,Option.getD_some]at b;simp[b]at a
theorem xC(l:List Int)(t:Int):iW l t<=l.length:=List.findIdx_le_length
def Xu(l:List Int):Prop:=∀ i j,i<j->j<l.length->l.getD i 0<l.getD j 0
theorem KN{us:List Int}{x:A9}(h:pg us x=true):Xu x.B0:=by
 have h:=ah.1 h;have st:∀ i,i+1<x.B0.length->x.B0.getD i 0<x.B0.getD (i+1) 0:=by
  intro i hi;have:=h (i+1) hi;simp only[Kx,zA2,my]at this;have e:=zA1 this.1.1;rw[if_neg va5,show i+1-1=i by omega]at e;exact e
 intro i j zk
 induction j with
 | zero=>omega
 | succ j ih =>
  intro hj;by_cases e:i=j
  ·subst e;exact st i hj
  ·have a:=ih va5 va5;have b:=st j hj;omega
theorem NY{l:List Int}(h:Xu l){t:Int}{i:Nat}(hi:i<=l.length)(h1:∀ m,m<i->l.getD m 0<t)(h2:∀ m,i<=m->m<l.length->t<=l.getD m 0):l.contains t=(decide (i<l.length) && decide (l.getD i 0=t)):=by
 rw[Bool.eq_iff_iff,List.contains_iff_mem,zA2,zA3,zA3]
 constructor
 ·intro hm;obtain⟨m,hm,e⟩:=List.getElem_of_mem hm;have e2:l.getD m 0=t:=by simp only[List.getD,zA6 hm,Option.getD_some];exact e
  rcases Nat.lt_trichotomy m i with q|q|q
  ·have:=h1 m q;omega
  ·subst q;exact⟨hm,e2⟩
  ·have a:=h i m q hm;have b:=h2 i (Nat.le_refl i) va5;omega
 ·rintro⟨a,b⟩;rw[<- b];simp only[List.getD,zA6 a,Option.getD_some];exact List.getElem_mem a
theorem PK(i j:Nat)(hi:i<2^40)(hj:j<2^40):IntKind.i64.wrap ((IntKind.u64.wrap (IntKind.i64.wrap ((i:Int)+(j:Int)))).fdiv (2^min (Int.toNat 1) IntKind.u64.bits))=(((i+j) / 2:Nat):Int):=by
 have e1:IntKind.i64.wrap ((i:Int)+(j:Int))=((i+j:Nat):Int):=by rw[wi _ va5 va5];omega
 have e:Int.toNat ((1:Nat):Int)=Int.toNat 1:=rfl;have:=uH (i+j) 1 va5;rw[e]at this;rw[e1,wu _ va5,this,wi _ va5 va5]
theorem NZ(x:Int):va6 324 [i64 x] (.bool false):=by
 refine pF Tryz.func324 ?_;conv=>whnf
 first|rfl|(simp;done)
theorem Oa(x:Int):va6 310 [i64 x] (.bool false):=by
 refine pF Tryz.func310 ?_;conv=>whnf
 first|rfl|(simp;done)
theorem KO(x y:Int):va6 309 [i64 x,i64 y] (.bool (decide (x<y))):=by
 refine pF Tryz.func309 ?_;conv=>whnf
 (repeat' ((first|refine va0 (fun hh=>?_) fun hh=>?_|refine kR ?_|((try refine .inl ?_;conv=>whnf);(try refine⟨false,?_⟩;conv=>whnf);refine⟨_,by exact NZ _,?_⟩)|fail)<;>first|exact hh.elim|conv=>whnf));all_goals rfl
theorem Fa(l:List Int)(hs:Xu l)(hl:l.length<2^39)(t:Int):va6 275 [C8 l,i64 t] (.tup [i64 (iW l t),.bool (l.contains t)]):=by
 refine pF Tryz.func275 ?_;conv=>whnf
 refine Or.inr ⟨Nat×Nat,[7,8],[],[],fun i=>[i64 i.1,i64 i.2],fun _=>[],fun _=>[],fun i=>i.2-i.1,fun i=>i.1<=i.2/\i.2<=l.length/\(∀ m,m<i.1->l.getD m 0<t)/\∀ m,i.2<=m->m<l.length->t<=l.getD m 0,?_⟩;conv=>whnf
 refine⟨⟨(0,l.length),?_⟩,?_⟩
 ·(conv=>whnf);exact kK ⟨⟨zB4 _,Nat.le_refl _,fun m hm=>absurd hm (zB3 m),fun m h1 h2=>absurd h2 (Nat.not_lt.2 h1)⟩,rfl,rfl,rfl⟩
 ·rintro⟨i,j⟩ ⟨g1,g2,g3,g4⟩;simp only[]at g1 g2 g3 g4;conv=>whnf
  refine⟨fun h=>?_,fun h=>?_⟩
  ·have h:=zA1 h;simp only[]at h;conv=>whnf
   rw[PK i j va5 va5];have e1:i<=(i+j) / 2:=by omega
   have e2:(i+j) / 2<j:=by omega
   generalize (i+j) / 2=m at *
   have z:l.getD (Int.toNat (m:Int)) 0=l.getD m 0:=rfl;(repeat' ((first|refine va0 (fun hh=>?_) fun hh=>?_|refine kR ?_|((try refine .inl ?_;conv=>whnf);(try refine⟨false,?_⟩;conv=>whnf);refine⟨_,by exact KO _ _,?_⟩)|fail)<;>first|exact hh.elim|conv=>whnf))
   ·refine⟨(m+1,j),?_⟩;conv=>whnf
    refine kK ⟨⟨?_,by show m+1<=j;omega,g2,?_,g4⟩,?_,rfl,rfl⟩
    ·show j-(m+1)<j-i;omega
    ·intro q hq;have hq:q<m+1:=hq;by_cases e:q=m
     ·subst e;assumption
     ·have:=hs q m va5 va5;omega
    ·rw[C7 _ va5 va5];rfl
   ·refine⟨(i,m),?_⟩;conv=>whnf
    refine kK ⟨⟨?_,e1,by show m<=l.length;omega,g3,?_⟩,rfl,rfl,rfl⟩
    ·show m-i<j-i;omega
    ·intro q h1 h2;have h1:m<=q:=h1;by_cases e:q=m
     ·subst e;omega
     ·have:=hs m q va5 h2;omega
  ·have h:=zA0 h;simp only[]at h;have e:i=j:=by omega
   subst e;rw[NY hs g2 g3 g4,NW g2 g3 (fun q=>g4 i (Nat.le_refl i) q)];(repeat' ((first|refine va0 (fun hh=>?_) fun hh=>?_|refine kR ?_|((try refine .inl ?_;conv=>whnf);(try refine⟨false,?_⟩;conv=>whnf);refine⟨_,by exact Oa _,?_⟩)|fail)<;>first|exact hh.elim|conv=>whnf));all_goals (refine congrArg (fun z=>AV.tup [i64 i,AV.bool z]) ?_;first|(simp_all;done)|(rw[zA5 (show ¬i<l.length by omega)];rfl))
def R4(q:Int)(x:B8):Bool:=decide (x.seq=q)
def Mz(p:B8->Bool)(l:List B8):Int:=if l.any p then l.findIdx p else -1
theorem iX{p:B8->Bool}{l:List B8}(h:l.any p=true):l.findIdx p<l.length:=by
 obtain⟨x,hx,hp⟩:=List.any_eq_true.1 h;exact List.findIdx_lt_length_of_exists ⟨x,hx,hp⟩
theorem PL{p:B8->Bool}{l:List B8}(h:l.any p=true):p (l.getD (l.findIdx p) w9)=true:=by
 have hl:=iX h;have:=List.findIdx_getElem (p:=p) (xs:=l) (w:=hl);simp only[List.getD,zA6 hl,Option.getD_some];exact this
theorem UA{p:B8->Bool}{l:List B8}{m:Nat}(h:m<l.findIdx p):p (l.getD m w9)=false:=by
 have hl:m<l.length:=zB5 h List.findIdx_le_length;have:=List.not_of_lt_findIdx h;simp only[List.getD,zA6 hl,Option.getD_some];simpa using this
theorem Rl{p:B8->Bool}{l:List B8}{k:Nat}(hk:k<l.length)(h:p (l.getD k w9)=true):l.any p=true:=List.any_eq_true.2 ⟨l.getD k w9,by simp only[List.getD,zA6 hk,Option.getD_some];exact List.getElem_mem hk,h⟩
theorem Fb{p:B8->Bool}{l:List B8}{k:Nat}(hk:k<l.length)(h:p (l.getD k w9)=true)(uz:∀ m,m<k->p (l.getD m w9)=false):Mz p l=k:=by
 have ha:=Rl hk h;unfold Mz;rw[if_pos ha];have e:l.findIdx p=k:=by
  have h1:=PL ha;rcases Nat.lt_trichotomy (l.findIdx p) k with h2|h2|h2
  ·rw[uz _ h2]at h1;cases h1
  ·exact h2
  ·rw[UA h2]at h;cases h
 rw[e]
theorem Aj{p:B8->Bool}{l:List B8}(uz:∀ m,m<l.length->p (l.getD m w9)=false):Mz p l = -1:=by
 unfold Mz;rw[if_neg];intro h;have h1:=PL h;rw[uz _ (iX h)]at h1;cases h1
theorem sv(x:B8)(q:Int):va6 155 [Iz x,.pt [i64 q] 0] (.bool (R4 q x)):=by
 refine pF Tryz.func155 ?_;conv=>whnf
 try rfl
theorem Ak(l:List B8)(hl:l.length<2^40)(q:Int):va6 154 [mw l,.fn (.func 155) [] [.pt [i64 q] 0]] (i64 (Mz (R4 q) l)):=by
 refine pF Tryz.func154 ?_;conv=>whnf
 refine Or.inr ⟨Nat,[8],[],[],fun k=>[i64 k],fun _=>[],fun _=>[],fun k=>l.length-k,fun k=>k<=l.length/\∀ m,m<k->R4 q (l.getD m w9)=false,?_⟩;conv=>whnf
 refine⟨⟨0,?_⟩,?_⟩
 ·(conv=>whnf);exact kK ⟨⟨zB4 _,fun i hi=>absurd hi (zB3 i)⟩,rfl,rfl,rfl⟩
 intro k hk;conv=>whnf
 refine⟨fun h=>?_,fun h=>?_⟩
 ·have h:=zA1 h;have L7:k<l.length:=by omega
  conv=>whnf
  refine⟨⟨va5,va5⟩,?_⟩;conv=>whnf
  rw[show Int.toNat (k:Int)=k from rfl];(repeat' (first|(refine⟨_,by exact sv _ _,?_⟩;(conv=>whnf))|(refine Or.inl ?_;(conv=>whnf);refine⟨_,by exact sv _ _,?_⟩;(conv=>whnf))|(refine Or.inl ?_;(conv=>whnf);refine⟨false,?_⟩;(conv=>whnf);refine⟨_,by exact sv _ _,?_⟩;(conv=>whnf))|(refine⟨va4,?_⟩;(conv=>whnf))|fail));refine⟨fun q1=>?_,fun q1=>?_⟩
  ·(conv=>whnf);exact congrArg i64 (Fb L7 q1 hk.2).symm
  ·refine⟨k+1,?_⟩;conv=>whnf
   refine kK ⟨⟨?_,?_,?_⟩,?_,rfl,rfl⟩
   ·show l.length-(k+1)<l.length-k;omega
   ·omega
   ·intro m h2;by_cases e:m=k
    ·subst e;exact q1
    ·exact hk.2 m va5
   ·rw[C7 _ va5 va5];rfl
 ·have h:=zA0 h;conv=>whnf
  exact congrArg i64 (Aj fun m h2=>hk.2 m va5).symm
theorem fG(b:o7)(o:G8 b)(q:Int)(h:b.log.any (R4 q)=true):va7 98 [.ptr 0 0 0 0,i64 q] (im b) (.ptr 3 6 (b.log.findIdx (R4 q)) 0) (im b):=by
 have c:=Ak b.log (S7 o.l) q;have A2:=iX h;have ho:=o.l;unfold Mz at c;rw[if_pos h]at c;generalize b.log.findIdx (R4 q)=i at *
 refine pW Tryz.func98 ⟨va4,?_⟩;conv=>whnf
 refine vb5 ?_;(repeat intro hh);try exact va1
theorem nP(b:o7)(o:G8 b)(q:Int)(h:¬b.log.any (R4 q)=true):va7 98 [.ptr 0 0 0 0,i64 q] (im b) .nilp (im b):=by
 have c:=Ak b.log (S7 o.l) q;unfold Mz at c;rw[if_neg h]at c;refine pW Tryz.func98 ⟨va4,?_⟩;conv=>whnf
 refine vb5 ?_;(repeat intro hh);try exact va1
theorem sx(b:o7):va7 160 [.ptr 0 0 0 0,.slc 1 [[u8 1],[u8 2],[u8 3]]] (im b) (.fn (.func 207) [] [.ptr 4 0 0 0,.ptr 5 0 0 0]) (im b++[.cells 176 [.ptr 0 0 0 0],.cells 33 [.slc 1 [[u8 1],[u8 2],[u8 3]]]]):=by
 refine A7 hm Tryz.func160 va4 ⟨va4,?_⟩;conv=>whnf
 refine⟨[2,3],va4,?_⟩;conv=>whnf
 exact⟨rfl,rfl⟩
theorem sy(b:o7):va7 160 [.ptr 0 0 0 0,.slc 1 [[u8 3]]] (im b) (.fn (.func 207) [] [.ptr 4 0 0 0,.ptr 5 0 0 0]) (im b++[.cells 176 [.ptr 0 0 0 0],.cells 33 [.slc 1 [[u8 3]]]]):=by
 refine A7 hm Tryz.func160 va4 ⟨va4,?_⟩;conv=>whnf
 refine⟨[2,3],va4,?_⟩;conv=>whnf
 exact⟨rfl,rfl⟩
def Hf(x:B8)(is:Bool):B8:=⟨x.seq,x.recipe,x.part,x.o9,x.o6,is⟩
def dG(b:o7)(seq:Int):Nat:=b.log.findIdx (R4 seq)
def W0(b:o7)(seq:Int)(is:Bool):o7:=⟨b.keep,b.p9,b.recipes,b.next,b.log.set (dG b seq) (Hf (b.log.getD (dG b seq) w9) is)⟩
def jO(b:o7)(j8 seq:Int)(is:Bool)(rr:List Int):Int :=
 if E1 b then(if ¬(b.log.any (R4 seq)=true/\(0<=j8/\j8<=(b.p9.length:Int)-1))then 6 else if I7 rr b.p9 j8=false then 100 else if (b.log.getD (dG b seq) w9).disputed=is then 101 else 0)else 8
theorem vk{b:o7}{j8 seq:Int}{is:Bool}{rr:List Int}(h:jO b j8 seq is rr=0):E1 b=true/\b.log.any (R4 seq)=true/\(0<=j8/\j8<=(b.p9.length:Int)-1)/\I7 rr b.p9 j8=true/\¬(b.log.getD (dG b seq) w9).disputed=is:=by
 unfold jO at h;by_cases h1:E1 b=true
 ·rw[if_pos h1]at h;by_cases h2:b.log.any (R4 seq)=true/\(0<=j8/\j8<=(b.p9.length:Int)-1)
  ·rw[if_neg (fun q=>q h2)]at h;by_cases h3:I7 rr b.p9 j8=false
   ·rw[if_pos h3]at h;cases h
   ·rw[if_neg h3]at h;by_cases h4:(b.log.getD (dG b seq) w9).disputed=is
    ·rw[if_pos h4]at h;cases h
    ·exact⟨h1,h2.1,h2.2,by simpa using h3,h4⟩
  ·rw[if_pos h2]at h;cases h
 ·rw[if_neg h1]at h;cases h
theorem xD(b:o7)(o:G8 b)(j8 seq:Int)(h:jO b j8 seq true [1,2,3]=0):va7 278 [au b,i64 j8,i64 seq,.bool true,.slc 1 [[u8 1],[u8 2],[u8 3]]] [] (.tup [a09 (W0 b seq true),i64 0]) (si (W0 b seq true)):=by
 obtain⟨hc,ha,hu,tR,hd⟩:=vk h;clear h;have s:=G6 hc;have c1:=fun u=>zZ b.keep b.next u b.p9 b.recipes b.log 1 2 3 (S7 o.u)
 have w0:IntKind.i64.wrap ((b.p9.length:Int)-1)=(b.p9.length:Int)-1:=C7 _ va5 va5;have A2:dG b seq<b.log.length:=iX ha;have e:=fG b o seq ha;unfold W0;unfold dG at *
 generalize b.log.findIdx (R4 seq)=i at *
 refine pW Tryz.func278 ⟨va4,?_⟩;conv=>whnf
 (refine va2 [] [20,18,19,21] ?_;(conv=>whnf);refine va3 [] (J2 b o hc) ?_);conv=>whnf
 refine vb6 ?_;(repeat intro hh);(refine va2 [] [] ?_;(conv=>whnf);refine va3 [20,18,19,21] e ?_);conv=>whnf
 (repeat' ((first|refine va0 (fun hh=>?_) fun hh=>?_|refine kR ?_|((try refine .inl ?_;conv=>whnf);(try refine⟨false,?_⟩;conv=>whnf);refine⟨_,by exact P2 b o _,?_⟩)|fail)<;>first|exact hh.elim|conv=>whnf));(refine va2 [] [49,47] ?_;(conv=>whnf);refine va3 [20,18,19,21] (sx b) ?_);conv=>whnf
 (repeat' ((first|refine va0 (fun hh=>?_) fun hh=>?_|refine kR ?_|((try refine .inl ?_;conv=>whnf);(try refine⟨false,?_⟩;conv=>whnf);refine⟨_,by exact c1 _,?_⟩)|fail)<;>first|exact hh.elim|conv=>whnf));refine⟨A2,?_⟩;conv=>whnf
 refine⟨fun q=>absurd (by simpa using q) hd,fun _=>?_⟩;conv=>whnf
 refine⟨Hf (b.log.getD i w9) true,⟨rfl,rfl,A2⟩,?_⟩;conv=>whnf
 refine⟨[18,19,21],va4,?_⟩;conv=>whnf
 exact⟨rfl,rfl⟩
theorem tT(b:o7)(o:G8 b)(j8 seq:Int)(h:¬jO b j8 seq true [1,2,3]=0):va6 278 [au b,i64 j8,i64 seq,.bool true,.slc 1 [[u8 1],[u8 2],[u8 3]]] (.tup [mB 0,i64 (jO b j8 seq true [1,2,3])]):=by
 have c1:=fun u=>zZ b.keep b.next u b.p9 b.recipes b.log 1 2 3 (S7 o.u)
 by_cases hc:E1 b=true
 ·unfold jO at h ⊢;rw[if_pos hc]at h ⊢;have s:=G6 hc;by_cases ha:b.log.any (R4 seq)=true
  ·have e:=fG b o seq ha;have A2:dG b seq<b.log.length:=iX ha;unfold dG at *
   generalize b.log.findIdx (R4 seq)=i at *
   by_cases hu:0<=j8/\j8<=(b.p9.length:Int)-1
   ·rw[if_neg (fun q=>q ⟨ha,hu⟩)]at h ⊢;by_cases tR:I7 [1,2,3] b.p9 j8=true
    ·rw[if_neg (by rw[tR];decide)]at h ⊢;have hd:(b.log.getD i w9).disputed=true:=Decidable.byContradiction fun q=>h (if_neg q)
     rw[if_pos hd];refine pF Tryz.func278 ?_;conv=>whnf
     (refine va2 [] [20,18,19,21] ?_;(conv=>whnf);refine va3 [] (J2 b o hc) ?_);conv=>whnf
     refine vb6 ?_;(repeat intro hh);(refine va2 [] [] ?_;(conv=>whnf);refine va3 [20,18,19,21] e ?_);conv=>whnf
     (repeat' ((first|refine va0 (fun hh=>?_) fun hh=>?_|refine kR ?_|((try refine .inl ?_;conv=>whnf);(try refine⟨false,?_⟩;conv=>whnf);refine⟨_,by exact P2 b o _,?_⟩)|fail)<;>first|exact hh.elim|conv=>whnf));(refine va2 [] [49,47] ?_;(conv=>whnf);refine va3 [20,18,19,21] (sx b) ?_);conv=>whnf
     (repeat' ((first|refine va0 (fun hh=>?_) fun hh=>?_|refine kR ?_|((try refine .inl ?_;conv=>whnf);(try refine⟨false,?_⟩;conv=>whnf);refine⟨_,by exact c1 _,?_⟩)|fail)<;>first|exact hh.elim|conv=>whnf));refine⟨A2,?_⟩;conv=>whnf
     refine⟨fun _=>?_,fun q=>absurd hd (by simpa using q)⟩;conv=>whnf
     all_goals rfl
    ·have wK:I7 [1,2,3] b.p9 j8=false:=by simpa using tR
     rw[if_pos wK];refine pF Tryz.func278 ?_;conv=>whnf
     (refine va2 [] [20,18,19,21] ?_;(conv=>whnf);refine va3 [] (J2 b o hc) ?_);conv=>whnf
     refine vb6 ?_;(repeat intro hh);(refine va2 [] [] ?_;(conv=>whnf);refine va3 [20,18,19,21] e ?_);conv=>whnf
     (repeat' ((first|refine va0 (fun hh=>?_) fun hh=>?_|refine kR ?_|((try refine .inl ?_;conv=>whnf);(try refine⟨false,?_⟩;conv=>whnf);refine⟨_,by exact P2 b o _,?_⟩)|fail)<;>first|exact hh.elim|conv=>whnf));(refine va2 [] [49,47] ?_;(conv=>whnf);refine va3 [20,18,19,21] (sx b) ?_);conv=>whnf
     (repeat' ((first|refine va0 (fun hh=>?_) fun hh=>?_|refine kR ?_|((try refine .inl ?_;conv=>whnf);(try refine⟨false,?_⟩;conv=>whnf);refine⟨_,by exact c1 _,?_⟩)|fail)<;>first|exact hh.elim|conv=>whnf));all_goals rfl
   ·rw[if_pos (fun q=>hu q.2)];refine pF Tryz.func278 ?_;conv=>whnf
    (refine va2 [] [20,18,19,21] ?_;(conv=>whnf);refine va3 [] (J2 b o hc) ?_);conv=>whnf
    refine vb6 ?_;(repeat intro hh);(refine va2 [] [] ?_;(conv=>whnf);refine va3 [20,18,19,21] e ?_);conv=>whnf
    (repeat' ((first|refine va0 (fun hh=>?_) fun hh=>?_|refine kR ?_|((try refine .inl ?_;conv=>whnf);(try refine⟨false,?_⟩;conv=>whnf);refine⟨_,by exact P2 b o _,?_⟩)|fail)<;>first|exact hh.elim|conv=>whnf));all_goals rfl
  ·have e:=nP b o seq ha;rw[if_pos (fun q=>ha q.1)];refine pF Tryz.func278 ?_;conv=>whnf
   (refine va2 [] [20,18,19,21] ?_;(conv=>whnf);refine va3 [] (J2 b o hc) ?_);conv=>whnf
   refine vb6 ?_;(repeat intro hh);(refine va2 [] [] ?_;(conv=>whnf);refine va3 [20,18,19,21] e ?_);conv=>whnf
   (repeat' ((first|refine va0 (fun hh=>?_) fun hh=>?_|refine kR ?_|((try refine .inl ?_;conv=>whnf);(try refine⟨false,?_⟩;conv=>whnf);refine⟨_,by exact P2 b o _,?_⟩)|fail)<;>first|exact hh.elim|conv=>whnf));all_goals rfl
 ·have Cp:E1 b=false:=by simpa using hc
  have c:=V2 b o Cp;unfold jO;rw[if_neg hc];refine pF Tryz.func278 ?_;conv=>whnf
  (repeat' ((first|refine y7 ?_|refine y8 ?_|((try refine .inl ?_;conv=>whnf);(try refine⟨false,?_⟩;conv=>whnf);refine⟨_,by assumption,?_⟩)|refine lD ?_|refine lN ?_|refine kL ?_|fail);conv=>whnf));all_goals rfl
theorem xE(b:o7)(o:G8 b)(j8 seq:Int)(h:jO b j8 seq false [3]=0):va7 278 [au b,i64 j8,i64 seq,.bool false,.slc 1 [[u8 3]]] [] (.tup [a09 (W0 b seq false),i64 0]) (si (W0 b seq false)):=by
 obtain⟨hc,ha,hu,tR,hd⟩:=vk h;clear h;have s:=G6 hc;have c1:=fun u=>T3 b.keep b.next u b.p9 b.recipes b.log 3 (S7 o.u)
 have w0:IntKind.i64.wrap ((b.p9.length:Int)-1)=(b.p9.length:Int)-1:=C7 _ va5 va5;have A2:dG b seq<b.log.length:=iX ha;have e:=fG b o seq ha;unfold W0;unfold dG at *
 generalize b.log.findIdx (R4 seq)=i at *
 refine pW Tryz.func278 ⟨va4,?_⟩;conv=>whnf
 (refine va2 [] [20,18,19,21] ?_;(conv=>whnf);refine va3 [] (J2 b o hc) ?_);conv=>whnf
 refine vb6 ?_;(repeat intro hh);(refine va2 [] [] ?_;(conv=>whnf);refine va3 [20,18,19,21] e ?_);conv=>whnf
 (repeat' ((first|refine va0 (fun hh=>?_) fun hh=>?_|refine kR ?_|((try refine .inl ?_;conv=>whnf);(try refine⟨false,?_⟩;conv=>whnf);refine⟨_,by exact P2 b o _,?_⟩)|fail)<;>first|exact hh.elim|conv=>whnf));(refine va2 [] [49,47] ?_;(conv=>whnf);refine va3 [20,18,19,21] (sy b) ?_);conv=>whnf
 (repeat' ((first|refine va0 (fun hh=>?_) fun hh=>?_|refine kR ?_|((try refine .inl ?_;conv=>whnf);(try refine⟨false,?_⟩;conv=>whnf);refine⟨_,by exact c1 _,?_⟩)|fail)<;>first|exact hh.elim|conv=>whnf));refine⟨A2,?_⟩;conv=>whnf
 refine⟨fun q=>absurd (by simpa using q) hd,fun _=>?_⟩;conv=>whnf
 refine⟨Hf (b.log.getD i w9) false,⟨rfl,rfl,A2⟩,?_⟩;conv=>whnf
 refine⟨[18,19,21],va4,?_⟩;conv=>whnf
 exact⟨rfl,rfl⟩
theorem tU(b:o7)(o:G8 b)(j8 seq:Int)(h:¬jO b j8 seq false [3]=0):va6 278 [au b,i64 j8,i64 seq,.bool false,.slc 1 [[u8 3]]] (.tup [mB 0,i64 (jO b j8 seq false [3])]):=by
 have c1:=fun u=>T3 b.keep b.next u b.p9 b.recipes b.log 3 (S7 o.u)
 by_cases hc:E1 b=true
 ·unfold jO at h ⊢;rw[if_pos hc]at h ⊢;have s:=G6 hc;by_cases ha:b.log.any (R4 seq)=true
  ·have e:=fG b o seq ha;have A2:dG b seq<b.log.length:=iX ha;unfold dG at *
   generalize b.log.findIdx (R4 seq)=i at *
   by_cases hu:0<=j8/\j8<=(b.p9.length:Int)-1
   ·rw[if_neg (fun q=>q ⟨ha,hu⟩)]at h ⊢;by_cases tR:I7 [3] b.p9 j8=true
    ·rw[if_neg (by rw[tR];decide)]at h ⊢;have hd:(b.log.getD i w9).disputed=false:=Decidable.byContradiction fun q=>h (if_neg q)
     rw[if_pos hd];refine pF Tryz.func278 ?_;conv=>whnf
     (refine va2 [] [20,18,19,21] ?_;(conv=>whnf);refine va3 [] (J2 b o hc) ?_);conv=>whnf
     refine vb6 ?_;(repeat intro hh);(refine va2 [] [] ?_;(conv=>whnf);refine va3 [20,18,19,21] e ?_);conv=>whnf
     (repeat' ((first|refine va0 (fun hh=>?_) fun hh=>?_|refine kR ?_|((try refine .inl ?_;conv=>whnf);(try refine⟨false,?_⟩;conv=>whnf);refine⟨_,by exact P2 b o _,?_⟩)|fail)<;>first|exact hh.elim|conv=>whnf));(refine va2 [] [49,47] ?_;(conv=>whnf);refine va3 [20,18,19,21] (sy b) ?_);conv=>whnf
     (repeat' ((first|refine va0 (fun hh=>?_) fun hh=>?_|refine kR ?_|((try refine .inl ?_;conv=>whnf);(try refine⟨false,?_⟩;conv=>whnf);refine⟨_,by exact c1 _,?_⟩)|fail)<;>first|exact hh.elim|conv=>whnf));refine⟨A2,?_⟩;conv=>whnf
     refine⟨fun _=>?_,fun q=>absurd hd (by simpa using q)⟩;conv=>whnf
     all_goals rfl
    ·have wK:I7 [3] b.p9 j8=false:=by simpa using tR
     rw[if_pos wK];refine pF Tryz.func278 ?_;conv=>whnf
     (refine va2 [] [20,18,19,21] ?_;(conv=>whnf);refine va3 [] (J2 b o hc) ?_);conv=>whnf
     refine vb6 ?_;(repeat intro hh);(refine va2 [] [] ?_;(conv=>whnf);refine va3 [20,18,19,21] e ?_);conv=>whnf
     (repeat' ((first|refine va0 (fun hh=>?_) fun hh=>?_|refine kR ?_|((try refine .inl ?_;conv=>whnf);(try refine⟨false,?_⟩;conv=>whnf);refine⟨_,by exact P2 b o _,?_⟩)|fail)<;>first|exact hh.elim|conv=>whnf));(refine va2 [] [49,47] ?_;(conv=>whnf);refine va3 [20,18,19,21] (sy b) ?_);conv=>whnf
     (repeat' ((first|refine va0 (fun hh=>?_) fun hh=>?_|refine kR ?_|((try refine .inl ?_;conv=>whnf);(try refine⟨false,?_⟩;conv=>whnf);refine⟨_,by exact c1 _,?_⟩)|fail)<;>first|exact hh.elim|conv=>whnf));all_goals rfl
   ·rw[if_pos (fun q=>hu q.2)];refine pF Tryz.func278 ?_;conv=>whnf
    (refine va2 [] [20,18,19,21] ?_;(conv=>whnf);refine va3 [] (J2 b o hc) ?_);conv=>whnf
    refine vb6 ?_;(repeat intro hh);(refine va2 [] [] ?_;(conv=>whnf);refine va3 [20,18,19,21] e ?_);conv=>whnf
    (repeat' ((first|refine va0 (fun hh=>?_) fun hh=>?_|refine kR ?_|((try refine .inl ?_;conv=>whnf);(try refine⟨false,?_⟩;conv=>whnf);refine⟨_,by exact P2 b o _,?_⟩)|fail)<;>first|exact hh.elim|conv=>whnf));all_goals rfl
  ·have e:=nP b o seq ha;rw[if_pos (fun q=>ha q.1)];refine pF Tryz.func278 ?_;conv=>whnf
   (refine va2 [] [20,18,19,21] ?_;(conv=>whnf);refine va3 [] (J2 b o hc) ?_);conv=>whnf
   refine vb6 ?_;(repeat intro hh);(refine va2 [] [] ?_;(conv=>whnf);refine va3 [20,18,19,21] e ?_);conv=>whnf
   (repeat' ((first|refine va0 (fun hh=>?_) fun hh=>?_|refine kR ?_|((try refine .inl ?_;conv=>whnf);(try refine⟨false,?_⟩;conv=>whnf);refine⟨_,by exact P2 b o _,?_⟩)|fail)<;>first|exact hh.elim|conv=>whnf));all_goals rfl
 ·have Cp:E1 b=false:=by simpa using hc
  have c:=V2 b o Cp;unfold jO;rw[if_neg hc];refine pF Tryz.func278 ?_;conv=>whnf
  (repeat' ((first|refine y7 ?_|refine y8 ?_|((try refine .inl ?_;conv=>whnf);(try refine⟨false,?_⟩;conv=>whnf);refine⟨_,by assumption,?_⟩)|refine lD ?_|refine lN ?_|refine kL ?_|fail);conv=>whnf));all_goals rfl
def sA(b:o7)(j8 seq:Int):Int:=jO b j8 seq true [1,2,3]
def sB(b:o7)(j8 seq:Int):Int:=jO b j8 seq false [3]
theorem xF(b:o7)(o:G8 b)(j8 seq:Int)(h:sA b j8 seq=0):va7 232 [au b,i64 j8,i64 seq] [] (.tup [a09 (W0 b seq true),i64 0]) (si (W0 b seq true)):=by
 have c:va7 278 [au b,i64 j8,i64 seq,.tt,.slc 1 [[u8 1],[u8 2],[u8 3]]] [] (.tup [a09 (W0 b seq true),i64 0]) (si (W0 b seq true)):=(xD b o j8 seq h).tts;refine pW Tryz.func232 ⟨va4,?_⟩;conv=>whnf
 (refine Or.inr ⟨[11 ],[13,9,10],va4,?_⟩;(conv=>whnf);refine⟨[],_,_,_,_,⟨c,rfl,rfl,va4⟩,?_⟩);conv=>whnf
 refine vb8 ?_;(repeat intro hh);refine⟨[13,9,10],va4,?_⟩;conv=>whnf
 exact⟨rfl,rfl⟩
theorem tV(b:o7)(o:G8 b)(j8 seq:Int)(h:¬sA b j8 seq=0):va6 232 [au b,i64 j8,i64 seq] (.tup [mB 0,i64 (sA b j8 seq)]):=by
 have c:va6 278 [au b,i64 j8,i64 seq,.tt,.slc 1 [[u8 1],[u8 2],[u8 3]]] (.tup [mB 0,i64 (jO b j8 seq true [1,2,3])]):=(tT b o j8 seq h).tts;refine pF Tryz.func232 ?_;conv=>whnf
 ((first|refine Or.inl ?_|skip);(conv=>whnf);refine⟨true,?_⟩;(conv=>whnf);refine⟨_,c,?_⟩;(conv=>whnf))
 refine vb6 ?_;(repeat intro hh);all_goals rfl
theorem Al(b:o7)(o:G8 b)(j8 seq:Int)(h:sB b j8 seq=0):va7 233 [au b,i64 j8,i64 seq] [] (.tup [a09 (W0 b seq false),i64 0]) (si (W0 b seq false)):=by
 have c:va7 278 [au b,i64 j8,i64 seq,.ff,.slc 1 [[u8 3]]] [] (.tup [a09 (W0 b seq false),i64 0]) (si (W0 b seq false)):=(xE b o j8 seq h).tts;refine pW Tryz.func233 ⟨va4,?_⟩;conv=>whnf
 (refine Or.inr ⟨[11 ],[13,9,10],va4,?_⟩;(conv=>whnf);refine⟨[],_,_,_,_,⟨c,rfl,rfl,va4⟩,?_⟩);conv=>whnf
 refine vb8 ?_;(repeat intro hh);refine⟨[13,9,10],va4,?_⟩;conv=>whnf
 exact⟨rfl,rfl⟩
theorem xG(b:o7)(o:G8 b)(j8 seq:Int)(h:¬sB b j8 seq=0):va6 233 [au b,i64 j8,i64 seq] (.tup [mB 0,i64 (sB b j8 seq)]):=by
 have c:va6 278 [au b,i64 j8,i64 seq,.ff,.slc 1 [[u8 3]]] (.tup [mB 0,i64 (jO b j8 seq false [3])]):=(tU b o j8 seq h).tts;refine pF Tryz.func233 ?_;conv=>whnf
 ((first|refine Or.inl ?_|skip);(conv=>whnf);refine⟨true,?_⟩;(conv=>whnf);refine⟨_,c,?_⟩;(conv=>whnf))
 refine vb6 ?_;(repeat intro hh);all_goals rfl

end Go.Proofs.Tryz.My
