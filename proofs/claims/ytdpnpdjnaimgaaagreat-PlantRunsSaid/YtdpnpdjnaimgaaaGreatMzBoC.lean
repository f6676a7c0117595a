/- Helper lemmas. -/
import Derived.Test.YtdpnpdjnaimgaaaGreatMzBqX
import Derived.Test.YtdpnpdjnaimgaaaGreatEvFn
set_option linter.unusedVariables false
set_option linter.unusedSimpArgs false
set_option maxRecDepth 100000
set_option maxHeartbeats 0
namespace Go.Proofs.Tryz.My
open Go Go.Ev
theorem fE(l:List Int)(hl:l.length<2^20):va7 129 [C8 l] [] (.own 0) [.vec 3 1 0 eI l]:=by
 refine A7 hm Tryz.func129 va4 ⟨va4,?_⟩;conv=>whnf
 refine Or.inl ?_;conv=>whnf
 intro b hb;conv=>whnf
 refine⟨fun h=>?_,fun h=>?_⟩
 ·(conv=>whnf);refine Or.inr ⟨va4,.vec 3 1 0 eI [],rfl,?_⟩;conv=>whnf
  refine⟨[2],va4,?_⟩;conv=>whnf
  rw[hb h];exact⟨rfl,rfl⟩
 conv=>whnf
 refine⟨⟨Int,1,0,eI,[]⟩,l,rfl,⟨rfl,rfl⟩,rfl,?_,?_,fun y _=>⟨rfl,rfl,rfl⟩,?_⟩
 ·show(0+l.length)*8<=_;omega
 ·show 0+l.length<=_;omega
 conv=>whnf
 refine⟨[7],va4,?_⟩;conv=>whnf
 exact⟨rfl,rfl⟩
theorem nN(l:List Int)(hl:l.length<2^20):va7 126 [Iy l] [] (.own 0) [.vec 5 1 0 e8 l]:=by
 refine A7 hm Tryz.func126 va4 ⟨va4,?_⟩;conv=>whnf
 refine Or.inl ?_;conv=>whnf
 intro b hb;conv=>whnf
 refine⟨fun h=>?_,fun h=>?_⟩
 ·(conv=>whnf);refine Or.inr ⟨va4,.vec 5 1 0 e8 [],rfl,?_⟩;conv=>whnf
  refine⟨[2],va4,?_⟩;conv=>whnf
  rw[hb h];exact⟨rfl,rfl⟩
 conv=>whnf
 refine⟨⟨Int,1,0,e8,[]⟩,l,rfl,⟨rfl,rfl⟩,rfl,?_,?_,fun y _=>⟨rfl,rfl,rfl⟩,?_⟩
 ·show(0+l.length)*1<=_;omega
 ·show 0+l.length<=_;omega
 conv=>whnf
 refine⟨[7],va4,?_⟩;conv=>whnf
 exact⟨rfl,rfl⟩
theorem KI(x:A9)(hx:x.B0.length<2^20):va7 151 [Tc x] [] (.agg ((eJ x).set 11 (.own 0))) [.vec 3 1 0 eI x.B0]:=by
 refine pW Tryz.func151 ⟨va4,?_⟩;conv=>whnf
 (refine va2 [] [5] ?_;(conv=>whnf);refine va3 [] (fE x.B0 hx) ?_);conv=>whnf
 refine⟨[5],va4,?_⟩;conv=>whnf
 exact⟨rfl,rfl⟩
theorem Ae(x:B8)(hx:x.o9.length<2^20):va7 153 [Iz x] [] (.agg ((V9 x).set 3 (.own 0))) [.vec 3 1 0 eI x.o9]:=by
 refine pW Tryz.func153 ⟨va4,?_⟩;conv=>whnf
 (refine va2 [] [5] ?_;(conv=>whnf);refine va3 [] (fE x.o9 hx) ?_);conv=>whnf
 refine⟨[5],va4,?_⟩;conv=>whnf
 exact⟨rfl,rfl⟩
theorem Af(l:List A9)(hl:l.length<2^16)(ha:∀ i,(l.getD i r9).B0.length<2^20):va7 150 [pJ l,.fn (.func 151) [] []] [] (.own 0) [.nest 122 13 11 3 r9 eJ A9.B0 none l]:=by
 have w1:IntKind.i64.wrap ((l.length:Int)+1)=(l.length:Int)+1:=C7 _ va5 va5;refine pW Tryz.func150 ⟨va4,?_⟩;conv=>whnf
 refine⟨.nest 122 13 11 3 r9 eJ A9.B0 none [],⟨⟨rfl,va4,rfl,rfl⟩,va5,va5,zA1 va4⟩,?_⟩;conv=>whnf
 refine Or.inr ⟨Nat,[14],[],[(5,⟨A9,122,13,r9,eJ⟩)],fun i=>[i64 i],fun _=>[],fun i=>[.nest 122 13 11 3 r9 eJ A9.B0 none (l.take i)],fun i=>l.length-i,fun i=>i<=l.length,?_⟩;conv=>whnf
 refine⟨⟨0,?_⟩,?_⟩
 ·(conv=>whnf);exact kK ⟨zB4 _,rfl,rfl,rfl⟩
 ·intro j hj;conv=>whnf
  refine⟨fun h=>?_,fun h=>?_⟩
  ·have h:=zA1 h;have BX:j<l.length:=by omega
   have hk:(l.take j).length=j:=by rw[zB1];omega
   conv=>whnf
   refine⟨⟨va5,va5⟩,?_⟩;conv=>whnf
   (refine va2 [] [21] ?_;(conv=>whnf);refine va3 [] (KI _ (ha _)) ?_);conv=>whnf
   refine⟨_,l.getD j r9,⟨rfl,rfl,rfl,?_,?_⟩,?_⟩
   ·show((l.take j).length+1)*120<=_;rw[hk];omega
   ·rw[hk];omega
   conv=>whnf
   refine⟨j+1,?_⟩;conv=>whnf
   refine kK ⟨⟨?_,?_⟩,?_,rfl,?_⟩
   ·show l.length-(j+1)<l.length-j;omega
   ·show j+1<=l.length;omega
   ·rw[C7 _ va5 va5];rfl
   ·show [Row.nest 122 13 11 3 r9 eJ A9.B0 none (l.take j++[l.getD j r9])]=[Row.nest 122 13 11 3 r9 eJ A9.B0 none (l.take (j+1))]
    rw[List.take_add_one,zA6 BX];simp[List.getD,BX]
  ·have h:=zA0 h;have ej:l.take j=l:=List.take_of_length_le va5;rw[ej];conv=>whnf
   refine⟨[5],va4,?_⟩;conv=>whnf
   exact⟨rfl,rfl⟩
theorem KJ(l:List B8)(hl:l.length<2^16)(ha:∀ i,(l.getD i w9).o9.length<2^20):va7 152 [mw l,.fn (.func 153) [] []] [] (.own 0) [.nest 80 6 3 3 w9 V9 B8.o9 none l]:=by
 have w1:IntKind.i64.wrap ((l.length:Int)+1)=(l.length:Int)+1:=C7 _ va5 va5;refine pW Tryz.func152 ⟨va4,?_⟩;conv=>whnf
 refine⟨.nest 80 6 3 3 w9 V9 B8.o9 none [],⟨⟨rfl,va4,rfl,rfl⟩,va5,va5,zA1 va4⟩,?_⟩;conv=>whnf
 refine Or.inr ⟨Nat,[14],[],[(5,⟨B8,80,6,w9,V9⟩)],fun i=>[i64 i],fun _=>[],fun i=>[.nest 80 6 3 3 w9 V9 B8.o9 none (l.take i)],fun i=>l.length-i,fun i=>i<=l.length,?_⟩;conv=>whnf
 refine⟨⟨0,?_⟩,?_⟩
 ·(conv=>whnf);exact kK ⟨zB4 _,rfl,rfl,rfl⟩
 ·intro j hj;conv=>whnf
  refine⟨fun h=>?_,fun h=>?_⟩
  ·have h:=zA1 h;have BX:j<l.length:=by omega
   have hk:(l.take j).length=j:=by rw[zB1];omega
   conv=>whnf
   refine⟨⟨va5,va5⟩,?_⟩;conv=>whnf
   (refine va2 [] [21] ?_;(conv=>whnf);refine va3 [] (Ae _ (ha _)) ?_);conv=>whnf
   refine⟨_,l.getD j w9,⟨rfl,rfl,rfl,?_,?_⟩,?_⟩
   ·show((l.take j).length+1)*56<=_;rw[hk];omega
   ·rw[hk];omega
   conv=>whnf
   refine⟨j+1,?_⟩;conv=>whnf
   refine kK ⟨⟨?_,?_⟩,?_,rfl,?_⟩
   ·show l.length-(j+1)<l.length-j;omega
   ·show j+1<=l.length;omega
   ·rw[C7 _ va5 va5];rfl
   ·show [Row.nest 80 6 3 3 w9 V9 B8.o9 none (l.take j++[l.getD j w9])]=[Row.nest 80 6 3 3 w9 V9 B8.o9 none (l.take (j+1))]
    rw[List.take_add_one,zA6 BX];simp[List.getD,BX]
  ·have h:=zA0 h;have ej:l.take j=l:=List.take_of_length_le va5;rw[ej];conv=>whnf
   refine⟨[5],va4,?_⟩;conv=>whnf
   exact⟨rfl,rfl⟩
theorem V2(b:o7)(o:G8 b)(h:E1 b=false):va6 97 [au b] (.tup [.nilp,i64 8]):=by
 have c:va6 69 [au b] (i64 8):=by have c:=fD b o;rwa[if_neg (by rw[h];decide)]at c
 refine pF Tryz.func97 ?_;conv=>whnf
 (repeat' ((first|refine y7 ?_|refine y8 ?_|((try refine .inl ?_;conv=>whnf);(try refine⟨false,?_⟩;conv=>whnf);refine⟨_,by assumption,?_⟩)|refine lD ?_|refine lN ?_|refine kL ?_|fail);conv=>whnf));try rfl
theorem G6{b:o7}(h:E1 b=true):b.p9.length<=16/\b.recipes.length<=16/\b.log.length<=32:=by
 simp only[E1,gG,D1,zA2,zA3]at h;omega
def im(b:o7):List Row:=[.cells 182 [i64 b.keep,.own 1,.own 2,i64 b.next,.own 3],.vec 5 1 0 e8 b.p9,.nest 122 13 11 3 r9 eJ A9.B0 none b.recipes,.nest 80 6 3 3 w9 V9 B8.o9 none b.log]
theorem J2(b:o7)(o:G8 b)(h:E1 b=true):va7 97 [au b] [] (.tup [.ptr 0 0 0 0,i64 0]) (im b):=by
 have c:va6 69 [au b] (i64 0):=by have c:=fD b o;rwa[if_pos h]at c
 have s:=G6 h;refine pW Tryz.func97 ⟨va4,?_⟩;conv=>whnf
 refine vb5 ?_;(repeat intro hh);(refine va2 [] [12] ?_;(conv=>whnf);refine va3 [] (nN b.p9 o.u) ?_);conv=>whnf
 (refine va2 [] [16] ?_;(conv=>whnf);refine va3 [] (Af b.recipes va5 o.a) ?_);conv=>whnf
 (refine va2 [] [20] ?_;(conv=>whnf);refine va3 [] (KJ b.log va5 o.p) ?_);conv=>whnf
 refine⟨[24,12,16,20],va4,?_⟩;conv=>whnf
 exact⟨rfl,rfl⟩
def tO(b:o7)(j9:Int):o7:=⟨b.keep,b.p9++[j9],b.recipes,b.next,b.log⟩
def iq(b:o7)(j9:Int):Int:=if E1 b then(if j9<1∨3<j9 then 2 else if (b.p9.length:Int)=16 then 9 else 0)else 8
abbrev a09(b:o7):AV := .agg [i64 b.keep,.own 0,.own 1,i64 b.next,.own 2]
def si(b:o7):List Row:=[.vec 5 1 0 e8 b.p9,.nest 122 13 11 3 r9 eJ A9.B0 none b.recipes,.nest 80 6 3 3 w9 V9 B8.o9 none b.log]
theorem xz(b:o7)(o:G8 b)(j9:Int)(h:iq b j9=0):va7 226 [au b,u8 j9] [] (.tup [a09 (tO b j9),i64 b.p9.length,i64 0]) (si (tO b j9)):=by
 have hc:E1 b=true:=by
  unfold iq at h;split at h
  ·assumption
  ·cases h
 have hr:¬(j9<1∨3<j9):=fun q=>by
  unfold iq at h;rw[if_pos hc,if_pos q]at h;cases h
 have hu:¬(b.p9.length:Int)=16:=fun q=>by
  unfold iq at h;rw[if_pos hc,if_neg hr,if_pos q]at h;cases h
 have s:=G6 hc;have w1:IntKind.i64.wrap (((b.p9++[j9]).length:Int)-1)=b.p9.length:=by
  have hl:((b.p9++[j9]).length:Int)=b.p9.length+1:=by simp
  rw[hl,C7 _ va5 va5];omega
 refine pW Tryz.func226 ⟨va4,?_⟩;conv=>whnf
 (refine va2 [] [11,9,12,13] ?_;(conv=>whnf);refine va3 [] (J2 b o hc) ?_);conv=>whnf
 refine vb6 ?_;(repeat intro hh);refine vb8 ?_;(repeat intro hh);refine⟨⟨Int,1,0,e8,b.p9⟩,[j9],rfl,rfl,⟨rfl,rfl⟩,?_,?_,fun y _=>⟨rfl,rfl,rfl⟩,?_⟩
 ·show(b.p9.length+1)*1<=_;omega
 ·show b.p9.length+1<=_;omega
 conv=>whnf
 refine vb8 ?_;(repeat intro hh);refine⟨[44,12,13],va4,?_⟩;conv=>whnf
 refine⟨?_,rfl⟩;rw[w1];rfl
theorem tP(b:o7)(o:G8 b)(j9:Int)(h:¬iq b j9=0):va6 226 [au b,u8 j9] (.tup [mB 0,i64 0,i64 (iq b j9)]):=by
 by_cases hc:E1 b=true
 ·have s:=G6 hc;unfold iq at h ⊢;rw[if_pos hc]at h ⊢;refine pF Tryz.func226 ?_;conv=>whnf
  (refine va2 [] [11,9,12,13] ?_;(conv=>whnf);refine va3 [] (J2 b o hc) ?_);conv=>whnf
  refine vb6 ?_;(repeat intro hh);(repeat' ((first|refine va0 (fun hh=>?_) fun hh=>?_|refine kR ?_|fail)<;>first|exact hh.elim|conv=>whnf));all_goals first
   | (exfalso;apply h;rw[if_neg va5,if_neg va5];done)
   | (rw[if_pos va5];done)
   | (rw[if_neg va5,if_pos va5];done)
  
 ·have hc:E1 b=false:=by simpa using hc
  have c:=V2 b o hc;unfold iq;rw[if_neg (by rw[hc];decide)];refine pF Tryz.func226 ?_;conv=>whnf
  (repeat' ((first|refine y7 ?_|refine y8 ?_|((try refine .inl ?_;conv=>whnf);(try refine⟨false,?_⟩;conv=>whnf);refine⟨_,by assumption,?_⟩)|refine lD ?_|refine lN ?_|refine kL ?_|fail);conv=>whnf));try rfl
theorem cO(b:o7)(a:Int):va7 160 [.ptr 0 0 0 0,.own 4] (im b++[.lit 5 1 [[u8 a]]]) (.fn (.func 207) [] [.ptr 5 0 0 0,.ptr 6 0 0 0]) (im b++[.lit 5 1 [[u8 a]],.cells 176 [.ptr 0 0 0 0],.cells 33 [.own 4]]):=by
 refine A7 hm Tryz.func160 va4 ⟨va4,?_⟩;conv=>whnf
 refine⟨[2,3],va4,?_⟩;conv=>whnf
 exact⟨rfl,rfl⟩
def L8(j8:Int)(g:x8):A9:=⟨j8,g,[],1⟩
def tQ(b:o7)(j8:Int)(g:x8):o7:=⟨b.keep,b.p9,b.recipes++[L8 j8 g],b.next,b.log⟩
def iU(b:o7)(j8:Int)(g:x8):Int :=
 if E1 b then(if ¬(0<=j8/\j8<=(b.p9.length:Int)-1)then 6 else if I7 [2] b.p9 j8=false then 100 else if ¬S6 g=true then 8 else if (b.recipes.length:Int)=16 then 9 else 0)else 8
theorem Dm(b:o7)(o:G8 b)(j8:Int)(g:x8)(h:iU b j8 g=0):va7 228 [au b,i64 j8,Ta g] [] (.tup [a09 (tQ b j8 g),i64 b.recipes.length,i64 0]) (si (tQ b j8 g)):=by
 have hc:E1 b=true:=by
  unfold iU at h;split at h
  ·assumption
  ·cases h
 unfold iU at h;rw[if_pos hc]at h;have hu:0<=j8/\j8<=(b.p9.length:Int)-1:=Decidable.byContradiction fun q=>by rw[if_pos q]at h;cases h
 rw[if_neg (show ¬¬(0<=j8/\j8<=(b.p9.length:Int)-1) from fun q=>q hu)]at h;have tR:I7 [2] b.p9 j8=true:=by
  cases e:I7 [2] b.p9 j8 with
  | true=>rfl
  | false=>rw[if_pos e]at h;cases h
 rw[if_neg (show ¬I7 [2] b.p9 j8=false by rw[tR];decide)]at h;have hg:S6 g=true:=Decidable.byContradiction fun q=>by rw[if_pos q]at h;cases h
 rw[if_neg (show ¬¬S6 g=true from fun q=>q hg)]at h;have hl:¬(b.recipes.length:Int)=16:=fun q=>by rw[if_pos q]at h;cases h
 clear h;have s:=G6 hc;have c1:=fun u=>T3 b.keep b.next u b.p9 b.recipes b.log 2 (S7 o.u)
 have w0:IntKind.i64.wrap ((b.p9.length:Int)-1)=(b.p9.length:Int)-1:=C7 _ va5 va5;have c2:∀ u,va6 105 [i64 0,i64 (IntKind.i64.wrap ((b.p9.length:Int)-1)),i64 u] (.bool (decide (0<=u) && decide (u<=(b.p9.length:Int)-1))):=fun u=>by rw[w0];exact M1 0 _ u
 refine pW Tryz.func228 ⟨va4,?_⟩;conv=>whnf
 (refine va2 [] [14,9,12,15] ?_;(conv=>whnf);refine va3 [] (J2 b o hc) ?_);conv=>whnf
 (repeat' ((first|refine y7 ?_|refine y8 ?_|((try refine .inl ?_;conv=>whnf);(try refine⟨false,?_⟩;conv=>whnf);refine⟨_,by exact c2 _,?_⟩)|refine lD ?_|refine lN ?_|refine kL ?_|fail);conv=>whnf));refine vb8 ?_;(repeat intro hh);(refine va2 [] [37,35] ?_;(conv=>whnf);refine va3 [14,9,12,15,36] (cO b 2) ?_);conv=>whnf
 (repeat' ((first|refine va0 (fun hh=>?_) fun hh=>?_|refine kR ?_|((try refine .inl ?_;conv=>whnf);(try refine⟨false,?_⟩;conv=>whnf);refine⟨_,by first|exact c1 _|exact X9 g,?_⟩)|fail)<;>first|exact hh.elim|conv=>whnf));refine⟨L8 j8 g,⟨rfl,rfl,?_,?_⟩,?_⟩
 ·show(b.recipes.length+1)*120<=_;omega
 ·omega
 have w1:IntKind.i64.wrap (((b.recipes++[L8 j8 g]).length:Int)-1)=b.recipes.length:=by
  have hl:((b.recipes++[L8 j8 g]).length:Int)=b.recipes.length+1:=by simp
  rw[hl,C7 _ va5 va5];omega
 conv=>whnf
 refine vb8 ?_;(repeat intro hh);refine⟨[9,66,15],va4,?_⟩;conv=>whnf
 refine⟨?_,rfl⟩;rw[w1];rfl
theorem Ag(b:o7)(o:G8 b)(j8:Int)(g:x8)(h:¬iU b j8 g=0):va6 228 [au b,i64 j8,Ta g] (.tup [mB 0,i64 0,i64 (iU b j8 g)]):=by
 by_cases hc:E1 b=true
 ·unfold iU at h ⊢;rw[if_pos hc]at h ⊢;have s:=G6 hc;have c1:=fun u=>T3 b.keep b.next u b.p9 b.recipes b.log 2 (S7 o.u)
  have w0:IntKind.i64.wrap ((b.p9.length:Int)-1)=(b.p9.length:Int)-1:=C7 _ va5 va5;have c2:∀ u,va6 105 [i64 0,i64 (IntKind.i64.wrap ((b.p9.length:Int)-1)),i64 u] (.bool (decide (0<=u) && decide (u<=(b.p9.length:Int)-1))):=fun u=>by rw[w0];exact M1 0 _ u
  by_cases hu:0<=j8/\j8<=(b.p9.length:Int)-1
  ·rw[if_neg (show ¬¬(0<=j8/\j8<=(b.p9.length:Int)-1) from fun q=>q hu)]at h ⊢;refine pF Tryz.func228 ?_;conv=>whnf
   (refine va2 [] [14,9,12,15] ?_;(conv=>whnf);refine va3 [] (J2 b o hc) ?_);conv=>whnf
   (repeat' ((first|refine y7 ?_|refine y8 ?_|((try refine .inl ?_;conv=>whnf);(try refine⟨false,?_⟩;conv=>whnf);refine⟨_,by exact c2 _,?_⟩)|refine lD ?_|refine lN ?_|refine kL ?_|fail);conv=>whnf));refine vb8 ?_;(repeat intro hh);(refine va2 [] [37,35] ?_;(conv=>whnf);refine va3 [14,9,12,15,36] (cO b 2) ?_);conv=>whnf
   (repeat' ((first|refine va0 (fun hh=>?_) fun hh=>?_|refine kR ?_|((try refine .inl ?_;conv=>whnf);(try refine⟨false,?_⟩;conv=>whnf);refine⟨_,by first|exact c1 _|exact X9 g,?_⟩)|fail)<;>first|exact hh.elim|conv=>whnf));all_goals first
    | (exfalso;apply h;simp_all;done)
    | (simp_all;done)
    | (exfalso;omega)
   
  ·rw[if_pos hu];refine pF Tryz.func228 ?_;conv=>whnf
   (refine va2 [] [14,9,12,15] ?_;(conv=>whnf);refine va3 [] (J2 b o hc) ?_);conv=>whnf
   (repeat' ((first|refine y7 ?_|refine y8 ?_|((try refine .inl ?_;conv=>whnf);(try refine⟨false,?_⟩;conv=>whnf);refine⟨_,by exact c2 _,?_⟩)|refine lD ?_|refine lN ?_|refine kL ?_|fail);conv=>whnf));try exact va1
   all_goals first
    | (exfalso;apply h;simp_all;done)
    | (simp_all;done)
    | (exfalso;omega)
   
 ·have hc:E1 b=false:=by simpa using hc
  have c:=V2 b o hc;unfold iU;rw[if_neg (by rw[hc];decide)];refine pF Tryz.func228 ?_;conv=>whnf
  (repeat' ((first|refine y7 ?_|refine y8 ?_|((try refine .inl ?_;conv=>whnf);(try refine⟨false,?_⟩;conv=>whnf);refine⟨_,by assumption,?_⟩)|refine lD ?_|refine lN ?_|refine kL ?_|fail);conv=>whnf));try rfl
def ai(x:A9)(n:Int):A9:=⟨x.author,x.gauge,x.B0,n⟩
def mC(b:o7)(i:Nat):o7:=⟨b.keep,b.p9,b.recipes.set i (ai (b.recipes.getD i r9) 4),b.next,b.log⟩
theorem sj(b:o7)(hr:b.recipes.length<2^20)(i:Nat)(hi:i<b.recipes.length)(h3:(b.recipes.getD i r9).state=3)(uz:∀ m,m<i->¬(b.recipes.getD m r9).state=3):va7 277 [.ptr 0 0 0 0] (im b) (.bool true) (im (mC b i)):=by
 refine pW Tryz.func277 ⟨va4,?_⟩;conv=>whnf
 refine Or.inr ⟨Nat,[11],[],[],fun k=>[i64 k],fun _=>[],fun _=>[],fun k=>b.recipes.length-k,fun k=>k<=i,?_⟩;conv=>whnf
 refine⟨⟨0,?_⟩,?_⟩
 ·(conv=>whnf);exact kK ⟨zB4 _,rfl,rfl,rfl⟩
 intro k hk;conv=>whnf
 refine⟨fun h=>?_,fun h=>absurd (zA0 h) va5⟩;have L7:k<b.recipes.length:=by omega
 conv=>whnf
 refine⟨⟨va5,va5⟩,?_⟩;conv=>whnf
 refine⟨L7,?_⟩;conv=>whnf
 rw[show Int.toNat (k:Int)=k from rfl];refine⟨fun q=>?_,fun q=>?_⟩
 ·have q:=zA1 q;have e:k=i:=by
   by_cases e:k=i
   ·exact e
   ·exact absurd q (uz k va5)
  subst e;conv=>whnf
  refine⟨⟨va5,va5⟩,?_⟩;conv=>whnf
  refine⟨ai (b.recipes.getD k r9) 4,⟨rfl,rfl,L7⟩,?_⟩;conv=>whnf
  try exact va1
 ·have q:=zA0 q;have e:¬k=i:=fun e=>q (e ▸ h3)
  refine⟨k+1,?_⟩;conv=>whnf
  refine kK ⟨⟨?_,?_⟩,?_,rfl,rfl⟩
  ·show b.recipes.length-(k+1)<b.recipes.length-k;omega
  ·show k+1<=i;omega
  ·rw[C7 _ va5 va5];rfl
theorem a1q(b:o7)(hr:b.recipes.length<2^20)(uz:∀ m,m<b.recipes.length->¬(b.recipes.getD m r9).state=3):va7 277 [.ptr 0 0 0 0] (im b) (.bool false) (im b):=by
 refine pW Tryz.func277 ⟨va4,?_⟩;conv=>whnf
 refine Or.inr ⟨Nat,[11],[],[],fun k=>[i64 k],fun _=>[],fun _=>[],fun k=>b.recipes.length-k,fun k=>k<=b.recipes.length,?_⟩;conv=>whnf
 refine⟨⟨0,?_⟩,?_⟩
 ·(conv=>whnf);exact kK ⟨zB4 _,rfl,rfl,rfl⟩
 intro k hk;conv=>whnf
 refine⟨fun h=>?_,fun h=>?_⟩
 ·have L7:k<b.recipes.length:=by have:=zA1 h;omega
  conv=>whnf
  refine⟨⟨va5,va5⟩,?_⟩;conv=>whnf
  refine⟨L7,?_⟩;conv=>whnf
  rw[show Int.toNat (k:Int)=k from rfl];refine⟨fun q=>absurd (zA1 q) (uz k L7),fun q=>?_⟩;refine⟨k+1,?_⟩;conv=>whnf
  refine kK ⟨⟨?_,?_⟩,?_,rfl,rfl⟩
  ·show b.recipes.length-(k+1)<b.recipes.length-k;omega
  ·show k+1<=b.recipes.length;omega
  ·rw[C7 _ va5 va5];rfl
 conv=>whnf
 try exact va1
def C9(x:A9):Bool:=decide (x.state=3)
def A4(l:List A9):Nat:=l.findIdx C9
theorem J4{l:List A9}(h:l.any C9=true):A4 l<l.length:=by
 obtain⟨x,hx,hp⟩:=List.any_eq_true.1 h;exact List.findIdx_lt_length_of_exists ⟨x,hx,hp⟩
theorem O6{l:List A9}(h:l.any C9=true):(l.getD (A4 l) r9).state=3:=by
 have hl:=J4 h;have:=List.findIdx_getElem (p:=C9) (xs:=l) (w:=hl);simp only[List.getD,zA6 hl,Option.getD_some];exact zA1 this
theorem nO{l:List A9}{m:Nat}(h:m<A4 l):¬(l.getD m r9).state=3:=by
 have hl:m<l.length:=zB5 h List.findIdx_le_length;have:=List.not_of_lt_findIdx h;simp only[List.getD,zA6 hl,Option.getD_some];intro q;simp[C9,q]at this
theorem KK{l:List A9}(h:¬l.any C9=true)(m:Nat)(hm:m<l.length):¬(l.getD m r9).state=3:=fun q=>h (List.any_eq_true.2 ⟨l[m],List.getElem_mem hm,by
 simp only[List.getD,zA6 hm,Option.getD_some]at q
 exact zA4 q⟩)
def iV(b:o7)(j8:Int):Int :=
 if E1 b then(if ¬(0<=j8/\j8<=(b.p9.length:Int)-1)then 6 else if I7 [3] b.p9 j8=false then 100 else if ¬b.recipes.any C9=true then 102 else 0)else 8
theorem Ah(b:o7)(o:G8 b)(j8:Int)(h:iV b j8=0):va7 231 [au b,i64 j8] [] (.tup [a09 (mC b (A4 b.recipes)),i64 0]) (si (mC b (A4 b.recipes))):=by
 have hc:E1 b=true:=by
  unfold iV at h;split at h
  ·assumption
  ·cases h
 unfold iV at h;rw[if_pos hc]at h;have hu:0<=j8/\j8<=(b.p9.length:Int)-1:=Decidable.byContradiction fun q=>by rw[if_pos q]at h;cases h
 rw[if_neg (show ¬¬(0<=j8/\j8<=(b.p9.length:Int)-1) from fun q=>q hu)]at h;have tR:I7 [3] b.p9 j8=true:=by
  cases e:I7 [3] b.p9 j8 with
  | true=>rfl
  | false=>rw[if_pos e]at h;cases h
 rw[if_neg (show ¬I7 [3] b.p9 j8=false by rw[tR];decide)]at h;have hg:b.recipes.any C9=true:=Decidable.byContradiction fun q=>by rw[if_pos q]at h;cases h
 clear h;have s:=G6 hc;have c1:=fun u=>T3 b.keep b.next u b.p9 b.recipes b.log 3 (S7 o.u)
 have w0:IntKind.i64.wrap ((b.p9.length:Int)-1)=(b.p9.length:Int)-1:=C7 _ va5 va5;have c2:∀ u,va6 105 [i64 0,i64 (IntKind.i64.wrap ((b.p9.length:Int)-1)),i64 u] (.bool (decide (0<=u) && decide (u<=(b.p9.length:Int)-1))):=fun u=>by rw[w0];exact M1 0 _ u
 have r:=sj b o.r (A4 b.recipes) (J4 hg) (O6 hg) (fun m hm=>nO hm);refine pW Tryz.func231 ⟨va4,?_⟩;conv=>whnf
 (refine va2 [] [10,8,11,12] ?_;(conv=>whnf);refine va3 [] (J2 b o hc) ?_);conv=>whnf
 (repeat' ((first|refine y7 ?_|refine y8 ?_|((try refine .inl ?_;conv=>whnf);(try refine⟨false,?_⟩;conv=>whnf);refine⟨_,by exact c2 _,?_⟩)|refine lD ?_|refine lN ?_|refine kL ?_|fail);conv=>whnf));refine vb8 ?_;(repeat intro hh);(refine va2 [] [33,31] ?_;(conv=>whnf);refine va3 [10,8,11,12,32] (cO b 3) ?_);conv=>whnf
 (repeat' ((first|refine va0 (fun hh=>?_) fun hh=>?_|refine kR ?_|((try refine .inl ?_;conv=>whnf);(try refine⟨false,?_⟩;conv=>whnf);refine⟨_,by exact c1 _,?_⟩)|fail)<;>first|exact hh.elim|conv=>whnf));(refine va2 [] [] ?_;(conv=>whnf);refine va3 [10,8,11,12] r ?_);conv=>whnf
 refine vb6 ?_;(repeat intro hh);refine⟨[8,11,12],va4,?_⟩;conv=>whnf
 exact⟨rfl,rfl⟩
theorem xA(b:o7)(o:G8 b)(j8:Int)(h:¬iV b j8=0):va6 231 [au b,i64 j8] (.tup [mB 0,i64 (iV b j8)]):=by
 by_cases hc:E1 b=true
 ·unfold iV at h ⊢;rw[if_pos hc]at h ⊢;have s:=G6 hc;have c1:=fun u=>T3 b.keep b.next u b.p9 b.recipes b.log 3 (S7 o.u)
  have w0:IntKind.i64.wrap ((b.p9.length:Int)-1)=(b.p9.length:Int)-1:=C7 _ va5 va5;have c2:∀ u,va6 105 [i64 0,i64 (IntKind.i64.wrap ((b.p9.length:Int)-1)),i64 u] (.bool (decide (0<=u) && decide (u<=(b.p9.length:Int)-1))):=fun u=>by rw[w0];exact M1 0 _ u
  by_cases hu:0<=j8/\j8<=(b.p9.length:Int)-1
  ·rw[if_neg (show ¬¬(0<=j8/\j8<=(b.p9.length:Int)-1) from fun q=>q hu)]at h ⊢;by_cases tR:I7 [3] b.p9 j8=true
   ·rw[if_neg (show ¬I7 [3] b.p9 j8=false by rw[tR];decide)]at h ⊢;have hg:¬b.recipes.any C9=true:=fun q=>h (if_neg (fun e=>e q))
    rw[if_pos hg];have r:=a1q b o.r (fun m hm=>KK hg m hm);refine pF Tryz.func231 ?_;conv=>whnf
    (refine va2 [] [10,8,11,12] ?_;(conv=>whnf);refine va3 [] (J2 b o hc) ?_);conv=>whnf
    (repeat' ((first|refine y7 ?_|refine y8 ?_|((try refine .inl ?_;conv=>whnf);(try refine⟨false,?_⟩;conv=>whnf);refine⟨_,by exact c2 _,?_⟩)|refine lD ?_|refine lN ?_|refine kL ?_|fail);conv=>whnf));refine vb8 ?_;(repeat intro hh);(refine va2 [] [33,31] ?_;(conv=>whnf);refine va3 [10,8,11,12,32] (cO b 3) ?_);conv=>whnf
    (repeat' ((first|refine va0 (fun hh=>?_) fun hh=>?_|refine kR ?_|((try refine .inl ?_;conv=>whnf);(try refine⟨false,?_⟩;conv=>whnf);refine⟨_,by exact c1 _,?_⟩)|fail)<;>first|exact hh.elim|conv=>whnf));(refine va2 [] [] ?_;(conv=>whnf);refine va3 [10,8,11,12] r ?_);conv=>whnf
    (repeat' ((first|refine y7 ?_|refine y8 ?_|refine lD ?_|refine lN ?_|refine kL ?_|fail);conv=>whnf));all_goals rfl
   ·have wK:I7 [3] b.p9 j8=false:=by simpa using tR
    rw[if_pos wK];refine pF Tryz.func231 ?_;conv=>whnf
    (refine va2 [] [10,8,11,12] ?_;(conv=>whnf);refine va3 [] (J2 b o hc) ?_);conv=>whnf
    (repeat' ((first|refine y7 ?_|refine y8 ?_|((try refine .inl ?_;conv=>whnf);(try refine⟨false,?_⟩;conv=>whnf);refine⟨_,by exact c2 _,?_⟩)|refine lD ?_|refine lN ?_|refine kL ?_|fail);conv=>whnf));refine vb8 ?_;(repeat intro hh);(refine va2 [] [33,31] ?_;(conv=>whnf);refine va3 [10,8,11,12,32] (cO b 3) ?_);conv=>whnf
    (repeat' ((first|refine va0 (fun hh=>?_) fun hh=>?_|refine kR ?_|((try refine .inl ?_;conv=>whnf);(try refine⟨false,?_⟩;conv=>whnf);refine⟨_,by exact c1 _,?_⟩)|fail)<;>first|exact hh.elim|conv=>whnf));all_goals rfl
  ·rw[if_pos hu];refine pF Tryz.func231 ?_;conv=>whnf
   (refine va2 [] [10,8,11,12] ?_;(conv=>whnf);refine va3 [] (J2 b o hc) ?_);conv=>whnf
   (repeat' ((first|refine y7 ?_|refine y8 ?_|((try refine .inl ?_;conv=>whnf);(try refine⟨false,?_⟩;conv=>whnf);refine⟨_,by exact c2 _,?_⟩)|refine lD ?_|refine lN ?_|refine kL ?_|fail);conv=>whnf));try exact va1
   all_goals rfl
 ·have hc:E1 b=false:=by simpa using hc
  have c:=V2 b o hc;unfold iV;rw[if_neg (by rw[hc];decide)];refine pF Tryz.func231 ?_;conv=>whnf
  (repeat' ((first|refine y7 ?_|refine y8 ?_|((try refine .inl ?_;conv=>whnf);(try refine⟨false,?_⟩;conv=>whnf);refine⟨_,by assumption,?_⟩)|refine lD ?_|refine lN ?_|refine kL ?_|fail);conv=>whnf));try rfl
theorem sr(x:A9):va6 308 [Tc x] (.bool (C9 x)):=by
 refine pF Tryz.func308 ?_;conv=>whnf
 try rfl
def Hb(l:List A9):Int:=if l.any C9 then A4 l else -1
theorem KL{l:List A9}{k:Nat}(hk:k<l.length)(h:C9 (l.getD k r9)=true)(uz:∀ m,m<k->C9 (l.getD m r9)=false):Hb l=k:=by
 have ha:l.any C9=true:=List.any_eq_true.2 ⟨l.getD k r9,by simp only[List.getD,zA6 hk,Option.getD_some];exact List.getElem_mem hk,h⟩;unfold Hb;rw[if_pos ha];have e:A4 l=k:=by
  have h1:=O6 ha;rcases Nat.lt_trichotomy (A4 l) k with h2|h2|h2
  ·exact absurd h1 (zA0 (uz _ h2))
  ·exact h2
  ·exact absurd (zA1 h) (nO h2)
 rw[e]
theorem Hc{l:List A9}(uz:∀ m,m<l.length->C9 (l.getD m r9)=false):Hb l = -1:=by
 unfold Hb;rw[if_neg];intro h;have h1:=O6 h;exact absurd h1 (zA0 (uz _ (J4 h)))
theorem KM(l:List A9)(hl:l.length<2^40):va6 307 [pJ l,.fn (.func 308) [] []] (i64 (Hb l)):=by
 refine pF Tryz.func307 ?_;conv=>whnf
 refine Or.inr ⟨Nat,[8],[],[],fun k=>[i64 k],fun _=>[],fun _=>[],fun k=>l.length-k,fun k=>k<=l.length/\∀ m,m<k->C9 (l.getD m r9)=false,?_⟩;conv=>whnf
 refine⟨⟨0,?_⟩,?_⟩
 ·(conv=>whnf);exact kK ⟨⟨zB4 _,fun i hi=>absurd hi (zB3 i)⟩,rfl,rfl,rfl⟩
 intro k hk;conv=>whnf
 refine⟨fun h=>?_,fun h=>?_⟩
 ·have h:=zA1 h;have L7:k<l.length:=by omega
  conv=>whnf
  refine⟨⟨va5,va5⟩,?_⟩;conv=>whnf
  rw[show Int.toNat (k:Int)=k from rfl];(repeat' (first|(refine⟨_,by exact sr _,?_⟩;(conv=>whnf))|(refine Or.inl ?_;(conv=>whnf);refine⟨_,by exact sr _,?_⟩;(conv=>whnf))|(refine Or.inl ?_;(conv=>whnf);refine⟨false,?_⟩;(conv=>whnf);refine⟨_,by exact sr _,?_⟩;(conv=>whnf))|(refine⟨va4,?_⟩;(conv=>whnf))|fail));refine⟨fun q=>?_,fun q=>?_⟩
  ·(conv=>whnf);exact congrArg i64 (KL L7 q hk.2).symm
  ·refine⟨k+1,?_⟩;conv=>whnf
   refine kK ⟨⟨?_,?_,?_⟩,?_,rfl,rfl⟩
   ·show l.length-(k+1)<l.length-k;omega
   ·omega
   ·intro m hm;by_cases e:m=k
    ·subst e;exact q
    ·exact hk.2 m va5
   ·rw[C7 _ va5 va5];rfl
 ·have h:=zA0 h;conv=>whnf
  exact congrArg i64 (Hc fun m hm=>hk.2 m va5).symm
def Ai(b:o7):Int:=if E1 b then(if b.recipes.any C9 then 0 else 102)else 8
def He(b:o7):Int:=if E1 b then(if b.recipes.any C9 then A4 b.recipes else 0)else 0
theorem vj(b:o7)(o:G8 b):va6 271 [au b] (.tup [i64 (He b),i64 (Ai b)]):=by
 have c:=fD b o;have c2:=KM b.recipes (S7 o.r);unfold He Ai;by_cases hc:E1 b=true
 ·rw[if_pos hc]at c;rw[if_pos hc,if_pos hc];unfold Hb at c2;by_cases ha:b.recipes.any C9=true
  ·rw[if_pos ha]at c2;rw[if_pos ha,if_pos ha];refine pF Tryz.func271 ?_;conv=>whnf
   (repeat' ((first|refine y7 ?_|refine y8 ?_|((try refine .inl ?_;conv=>whnf);(try refine⟨false,?_⟩;conv=>whnf);refine⟨_,by assumption,?_⟩)|refine lD ?_|refine lN ?_|refine kL ?_|fail);conv=>whnf));all_goals rfl
  ·rw[if_neg ha]at c2;rw[if_neg ha,if_neg ha];refine pF Tryz.func271 ?_;conv=>whnf
   (repeat' ((first|refine y7 ?_|refine y8 ?_|((try refine .inl ?_;conv=>whnf);(try refine⟨false,?_⟩;conv=>whnf);refine⟨_,by assumption,?_⟩)|refine lD ?_|refine lN ?_|refine kL ?_|fail);conv=>whnf));all_goals rfl
 ·rw[if_neg hc]at c;rw[if_neg hc,if_neg hc];refine pF Tryz.func271 ?_;conv=>whnf
  (repeat' ((first|refine y7 ?_|refine y8 ?_|((try refine .inl ?_;conv=>whnf);(try refine⟨false,?_⟩;conv=>whnf);refine⟨_,by assumption,?_⟩)|refine lD ?_|refine lN ?_|refine kL ?_|fail);conv=>whnf));all_goals rfl
theorem P2(b:o7)(o:G8 b)(u:Int):va6 105 [i64 0,i64 (IntKind.i64.wrap ((b.p9.length:Int)-1)),i64 u] (.bool (decide (0<=u) && decide (u<=(b.p9.length:Int)-1))):=by
 have:=o.u;rw[C7 _ va5 va5];exact M1 0 _ u
theorem mD(b:o7)(o:G8 b)(u:Int):va6 105 [i64 0,i64 (IntKind.i64.wrap ((b.recipes.length:Int)-1)),i64 u] (.bool (decide (0<=u) && decide (u<=(b.recipes.length:Int)-1))):=by
 have:=o.r;rw[C7 _ va5 va5];exact M1 0 _ u
def dp(b:o7)(j8 a7:Int):Prop:=(0<=j8/\j8<=(b.p9.length:Int)-1)/\(0<=a7/\a7<=(b.recipes.length:Int)-1)
instance (b:o7)(j8 a7:Int):Decidable (dp b j8 a7):=by unfold dp;infer_instance
theorem S8(b:o7)(o:G8 b)(hc:E1 b=true)(j8 a7:Int)(h:dp b j8 a7):va7 274 [au b,i64 j8,i64 a7] [] (.tup [.ptr 0 0 0 0,.ptr 2 13 a7.toNat 0,i64 0]) (im b):=by
 obtain⟨h1,h2⟩:=h;refine pW Tryz.func274 ⟨va4,?_⟩;conv=>whnf
 (refine va2 [] [13,11,12,14] ?_;(conv=>whnf);refine va3 [] (J2 b o hc) ?_);conv=>whnf
 (repeat' ((first|refine y7 ?_|refine y8 ?_|((try refine .inl ?_;conv=>whnf);(try refine⟨false,?_⟩;conv=>whnf);refine⟨_,by first|exact P2 b o _|exact mD b o _,?_⟩)|refine lD ?_|refine lN ?_|refine kL ?_|fail);conv=>whnf));(repeat' ((first|refine va0 (fun hh=>?_) fun hh=>?_|refine kR ?_|((try refine .inl ?_;conv=>whnf);(try refine⟨false,?_⟩;conv=>whnf);refine⟨_,by first|exact P2 b o _|exact mD b o _,?_⟩)|fail)<;>first|exact hh.elim|conv=>whnf));refine⟨[13,11,12,14],va4,?_⟩;conv=>whnf
 exact⟨rfl,rfl⟩
theorem pn(b:o7)(o:G8 b)(j8 a7:Int)(h:¬(E1 b=true/\dp b j8 a7)):va6 274 [au b,i64 j8,i64 a7] (.tup [.nilp,.nilp,i64 (if E1 b then 6 else 8)]):=by
 by_cases hc:E1 b=true
 ·have hn:¬dp b j8 a7:=fun q=>h ⟨hc,q⟩
  unfold dp at hn;rw[if_pos hc];refine pF Tryz.func274 ?_;conv=>whnf
  (refine va2 [] [13,11,12,14] ?_;(conv=>whnf);refine va3 [] (J2 b o hc) ?_);conv=>whnf
  (repeat' ((first|refine y7 ?_|refine y8 ?_|((try refine .inl ?_;conv=>whnf);(try refine⟨false,?_⟩;conv=>whnf);refine⟨_,by first|exact P2 b o _|exact mD b o _,?_⟩)|refine lD ?_|refine lN ?_|refine kL ?_|fail);conv=>whnf));(repeat' ((first|refine va0 (fun hh=>?_) fun hh=>?_|refine kR ?_|((try refine .inl ?_;conv=>whnf);(try refine⟨false,?_⟩;conv=>whnf);refine⟨_,by first|exact P2 b o _|exact mD b o _,?_⟩)|fail)<;>first|exact hh.elim|conv=>whnf));all_goals (first|rfl|(exfalso;omega))
 ·have Cp:E1 b=false:=by simpa using hc
  rw[if_neg hc];have c:=V2 b o Cp;refine pF Tryz.func274 ?_;conv=>whnf
  (repeat' ((first|refine y7 ?_|refine y8 ?_|((try refine .inl ?_;conv=>whnf);(try refine⟨false,?_⟩;conv=>whnf);refine⟨_,by assumption,?_⟩)|refine lD ?_|refine lN ?_|refine kL ?_|fail);conv=>whnf));try rfl
def Rk(b:o7)(i:Nat)(n:Int):o7:=⟨b.keep,b.p9,b.recipes.set i (ai (b.recipes.getD i r9) n),b.next,b.log⟩
def K6(b:o7):o7:=if b.recipes.any C9 then mC b (A4 b.recipes)else b
def fF(b:o7)(a7:Int):o7:=Rk (K6 b) a7.toNat 3
def dq(b:o7)(j8 a7:Int):Int :=
 if E1 b=true/\dp b j8 a7 then(if I7 [2] b.p9 j8=false then 100 else if ¬(b.recipes.getD a7.toNat r9).state=2 then 101 else 0)else(if E1 b then 6 else 8)
theorem gH{b:o7}{j8 a7:Int}(h:dq b j8 a7=0):E1 b=true/\dp b j8 a7/\I7 [2] b.p9 j8=true/\(b.recipes.getD a7.toNat r9).state=2:=by
 unfold dq at h;by_cases h1:E1 b=true/\dp b j8 a7
 ·rw[if_pos h1]at h;by_cases h2:I7 [2] b.p9 j8=false
  ·rw[if_pos h2]at h;cases h
  ·rw[if_neg h2]at h;by_cases h3:(b.recipes.getD a7.toNat r9).state=2
   ·exact⟨h1.1,h1.2,by simpa using h2,h3⟩
   ·rw[if_pos h3]at h;cases h
 ·rw[if_neg h1]at h;split at h<;>cases h
theorem tS(b:o7)(o:G8 b)(j8 a7:Int)(h:dq b j8 a7=0):va7 230 [au b,i64 j8,i64 a7] [] (.tup [a09 (fF b a7),i64 0]) (si (fF b a7)):=by
 obtain⟨hc,hn,tR,h2⟩:=gH h;clear h;have s:=G6 hc;have c1:=fun u=>T3 b.keep b.next u b.p9 b.recipes b.log 2 (S7 o.u)
 have A2:a7.toNat<b.recipes.length:=by have:=hn.2;omega
 have hi:0<=a7/\a7<(b.recipes.length:Int):=by have:=hn.2;omega
 by_cases ha:b.recipes.any C9=true
 ·have r:=sj b o.r (A4 b.recipes) (J4 ha) (O6 ha) (fun m hm=>nO hm);have e:fF b a7=Rk (mC b (A4 b.recipes)) a7.toNat 3:=by unfold fF K6;rw[if_pos ha]
  rw[e];have IM:a7.toNat<(mC b (A4 b.recipes)).recipes.length:=by show a7.toNat<(b.recipes.set _ _).length;rw[List.length_set];exact A2
  refine pW Tryz.func230 ⟨va4,?_⟩;conv=>whnf
  (refine va2 [] [15,12,13,14] ?_;(conv=>whnf);refine va3 [] (S8 b o hc j8 a7 hn) ?_);conv=>whnf
  refine vb6 ?_;(repeat intro hh);(refine va2 [] [27,25] ?_;(conv=>whnf);refine va3 [15,12,13,14,26] (cO b 2) ?_);conv=>whnf
  (repeat' ((first|refine va0 (fun hh=>?_) fun hh=>?_|refine kR ?_|((try refine .inl ?_;conv=>whnf);(try refine⟨false,?_⟩;conv=>whnf);refine⟨_,by exact c1 _,?_⟩)|fail)<;>first|exact hh.elim|conv=>whnf));refine⟨A2,?_⟩;conv=>whnf
  refine vb8 ?_;(repeat intro hh);(refine va2 [] [] ?_;(conv=>whnf);refine va3 [15,12,13,14] r ?_);conv=>whnf
  refine⟨ai ((mC b (A4 b.recipes)).recipes.getD a7.toNat r9) 3,⟨rfl,rfl,IM⟩,?_⟩;conv=>whnf
  refine⟨[12,13,14],va4,?_⟩;conv=>whnf
  exact⟨rfl,rfl⟩
 ·have r:=a1q b o.r (fun m hm=>KK ha m hm);have e:fF b a7=Rk b a7.toNat 3:=by unfold fF K6;rw[if_neg ha]
  rw[e];have IM:=A2;refine pW Tryz.func230 ⟨va4,?_⟩;conv=>whnf
  (refine va2 [] [15,12,13,14] ?_;(conv=>whnf);refine va3 [] (S8 b o hc j8 a7 hn) ?_);conv=>whnf
  refine vb6 ?_;(repeat intro hh);(refine va2 [] [27,25] ?_;(conv=>whnf);refine va3 [15,12,13,14,26] (cO b 2) ?_);conv=>whnf
  (repeat' ((first|refine va0 (fun hh=>?_) fun hh=>?_|refine kR ?_|((try refine .inl ?_;conv=>whnf);(try refine⟨false,?_⟩;conv=>whnf);refine⟨_,by exact c1 _,?_⟩)|fail)<;>first|exact hh.elim|conv=>whnf));refine⟨A2,?_⟩;conv=>whnf
  refine vb8 ?_;(repeat intro hh);(refine va2 [] [] ?_;(conv=>whnf);refine va3 [15,12,13,14] r ?_);conv=>whnf
  refine⟨ai ((b).recipes.getD a7.toNat r9) 3,⟨rfl,rfl,IM⟩,?_⟩;conv=>whnf
  refine⟨[12,13,14],va4,?_⟩;conv=>whnf
  exact⟨rfl,rfl⟩
theorem su(b:o7)(o:G8 b)(j8 a7:Int)(h:¬dq b j8 a7=0):va6 230 [au b,i64 j8,i64 a7] (.tup [mB 0,i64 (dq b j8 a7)]):=by
 by_cases h1:E1 b=true/\dp b j8 a7
 ·unfold dq at h ⊢;rw[if_pos h1]at h ⊢;obtain⟨hc,hn⟩:=h1;have s:=G6 hc;have c1:=fun u=>T3 b.keep b.next u b.p9 b.recipes b.log 2 (S7 o.u)
  have A2:a7.toNat<b.recipes.length:=by have:=hn.2;omega
  by_cases tR:I7 [2] b.p9 j8=false
  ·rw[if_pos tR];refine pF Tryz.func230 ?_;conv=>whnf
   (refine va2 [] [15,12,13,14] ?_;(conv=>whnf);refine va3 [] (S8 b o hc j8 a7 hn) ?_);conv=>whnf
   refine vb6 ?_;(repeat intro hh);(refine va2 [] [27,25] ?_;(conv=>whnf);refine va3 [15,12,13,14,26] (cO b 2) ?_);conv=>whnf
   (repeat' ((first|refine va0 (fun hh=>?_) fun hh=>?_|refine kR ?_|((try refine .inl ?_;conv=>whnf);(try refine⟨false,?_⟩;conv=>whnf);refine⟨_,by exact c1 _,?_⟩)|fail)<;>first|exact hh.elim|conv=>whnf));all_goals rfl
  ·rw[if_neg tR]at h ⊢;have hmt:I7 [2] b.p9 j8=true:=by simpa using tR
   have h2:¬(b.recipes.getD a7.toNat r9).state=2:=fun q=>h (if_neg (fun e=>e q))
   rw[if_pos h2];refine pF Tryz.func230 ?_;conv=>whnf
   (refine va2 [] [15,12,13,14] ?_;(conv=>whnf);refine va3 [] (S8 b o hc j8 a7 hn) ?_);conv=>whnf
   refine vb6 ?_;(repeat intro hh);(refine va2 [] [27,25] ?_;(conv=>whnf);refine va3 [15,12,13,14,26] (cO b 2) ?_);conv=>whnf
   (repeat' ((first|refine va0 (fun hh=>?_) fun hh=>?_|refine kR ?_|((try refine .inl ?_;conv=>whnf);(try refine⟨false,?_⟩;conv=>whnf);refine⟨_,by exact c1 _,?_⟩)|fail)<;>first|exact hh.elim|conv=>whnf));refine⟨A2,?_⟩;conv=>whnf
   try exact va1
   all_goals rfl
 ·have c:=pn b o j8 a7 h1;unfold dq;rw[if_neg h1];by_cases hc:E1 b=true
  ·rw[if_pos hc]at c ⊢;refine pF Tryz.func230 ?_;conv=>whnf
   (repeat' ((first|refine y7 ?_|refine y8 ?_|((try refine .inl ?_;conv=>whnf);(try refine⟨false,?_⟩;conv=>whnf);refine⟨_,by assumption,?_⟩)|refine lD ?_|refine lN ?_|refine kL ?_|fail);conv=>whnf));all_goals rfl
  ·rw[if_neg hc]at c ⊢;refine pF Tryz.func230 ?_;conv=>whnf
   (repeat' ((first|refine y7 ?_|refine y8 ?_|((try refine .inl ?_;conv=>whnf);(try refine⟨false,?_⟩;conv=>whnf);refine⟨_,by assumption,?_⟩)|refine lD ?_|refine lN ?_|refine kL ?_|fail);conv=>whnf));all_goals rfl
def pK{α:Type}(f:α->α)(d:α)(l:List α):Nat->List α
 | 0=>l
 | k+1=>(pK f d l k).set k (f ((pK f d l k).getD k d))
theorem gI{α:Type}(f:α->α)(d:α)(l:List α):∀ k,(pK f d l k).length=l.length
 | 0=>rfl
 | k+1=>by
  show((pK f d l k).set k _).length=_
  rw[List.length_set,gI f d l k]
theorem V3{α:Type}{d y:α}{l:List α}{j:Nat}(h:j<l.length):(l.set j y).getD j d=y:=by
 rw[List.getD,List.getElem?_set_self h];rfl
theorem xB{α:Type}(f:α->α)(d:α)(l:List α):∀ k i,k<=i->(pK f d l k).getD i d=l.getD i d
 | 0,_,_=>rfl
 | k+1,i,h=>by
  show((pK f d l k).set k _).getD i d=_
  rw[List.getD,List.getElem?_set_ne va5];exact xB f d l k i va5

end Go.Proofs.Tryz.My
