/- Helper lemmas. -/
import Derived.Test.YtdpnpdjnaimgaaaGreatMzBqX
import Derived.Test.YtdpnpdjnaimgaaaGreatEvFn
set_option linter.unusedVariables false
set_option linter.unusedSimpArgs false
set_option maxRecDepth 100000
set_option maxHeartbeats 0
namespace Go.Proofs.Tryz.My
open Go Go.Ev
theorem fE (l:List Int) (hl:l.length < 2 ^ 20):PW Tryz.prog 129 [C8 l] [] (.own 0) [.vec 3 1 0 eI l]:=by
 refine A7 hm Tryz.func129 (by kernel_rfl) ⟨by kernel_rfl,?_⟩
 conv=>whnf
 refine Or.inl ?_
 conv=>whnf
 intro b hb
 conv=>whnf
 refine ⟨fun h=>?_,fun h=>?_⟩
 ·(conv=>whnf)
  refine Or.inr ⟨by kernel_rfl,.vec 3 1 0 eI [],rfl,?_⟩
  conv=>whnf
  refine ⟨[2],by kernel_rfl,?_⟩
  conv=>whnf
  rw [hb h]
  exact ⟨rfl,rfl⟩
 conv=>whnf
 refine ⟨⟨Int,1,0,eI,[]⟩,l,rfl,⟨rfl,rfl⟩,rfl,?_,?_,fun y _=>⟨rfl,rfl,rfl⟩,?_⟩
 ·show (0 + l.length) * 8<=_;omega
 ·show 0 + l.length<=_;omega
 conv=>whnf
 refine ⟨[7],by kernel_rfl,?_⟩
 conv=>whnf
 exact ⟨rfl,rfl⟩
theorem nN (l:List Int) (hl:l.length < 2 ^ 20):PW Tryz.prog 126 [Iy l] [] (.own 0) [.vec 5 1 0 e8 l]:=by
 refine A7 hm Tryz.func126 (by kernel_rfl) ⟨by kernel_rfl,?_⟩
 conv=>whnf
 refine Or.inl ?_
 conv=>whnf
 intro b hb
 conv=>whnf
 refine ⟨fun h=>?_,fun h=>?_⟩
 ·(conv=>whnf)
  refine Or.inr ⟨by kernel_rfl,.vec 5 1 0 e8 [],rfl,?_⟩
  conv=>whnf
  refine ⟨[2],by kernel_rfl,?_⟩
  conv=>whnf
  rw [hb h]
  exact ⟨rfl,rfl⟩
 conv=>whnf
 refine ⟨⟨Int,1,0,e8,[]⟩,l,rfl,⟨rfl,rfl⟩,rfl,?_,?_,fun y _=>⟨rfl,rfl,rfl⟩,?_⟩
 ·show (0 + l.length) * 1<=_;omega
 ·show 0 + l.length<=_;omega
 conv=>whnf
 refine ⟨[7],by kernel_rfl,?_⟩
 conv=>whnf
 exact ⟨rfl,rfl⟩
theorem KI (x:A9) (hx:x.B0.length < 2 ^ 20):PW Tryz.prog 151 [Tc x] [] (.agg ((eJ x).set 11 (.own 0))) [.vec 3 1 0 eI x.B0]:=by
 refine pW Tryz.func151 ⟨by kernel_rfl,?_⟩
 conv=>whnf
 (refine Or.inr ⟨[],[5],by kernel_rfl,?_⟩;(conv=>whnf);refine ⟨[],_,_,_,_,⟨fE x.B0 hx,rfl,rfl,by kernel_rfl⟩,?_⟩)
 conv=>whnf
 refine ⟨[5],by kernel_rfl,?_⟩
 conv=>whnf
 exact ⟨rfl,rfl⟩
theorem Ae (x:B8) (hx:x.o9.length < 2 ^ 20):PW Tryz.prog 153 [Iz x] [] (.agg ((V9 x).set 3 (.own 0))) [.vec 3 1 0 eI x.o9]:=by
 refine pW Tryz.func153 ⟨by kernel_rfl,?_⟩
 conv=>whnf
 (refine Or.inr ⟨[],[5],by kernel_rfl,?_⟩;(conv=>whnf);refine ⟨[],_,_,_,_,⟨fE x.o9 hx,rfl,rfl,by kernel_rfl⟩,?_⟩)
 conv=>whnf
 refine ⟨[5],by kernel_rfl,?_⟩
 conv=>whnf
 exact ⟨rfl,rfl⟩
theorem Af (l:List A9) (hl:l.length < 2 ^ 16) (ha:∀ i,(l.getD i r9).B0.length < 2 ^ 20):PW Tryz.prog 150 [pJ l,.fn (.func 151) [] []] [] (.own 0) [.nest 122 13 11 3 r9 eJ A9.B0 none l]:=by
 have w1:IntKind.i64.wrap ((l.length:Int) + 1)=(l.length:Int) + 1:=C7 _ (by omega) (by omega)
 refine pW Tryz.func150 ⟨by kernel_rfl,?_⟩
 conv=>whnf
 refine ⟨.nest 122 13 11 3 r9 eJ A9.B0 none [],⟨⟨rfl,by kernel_rfl,rfl,rfl⟩,by omega,by omega,of_decide_eq_true (by kernel_rfl)⟩,?_⟩
 conv=>whnf
 refine Or.inr ⟨Nat,[14],[],[(5,⟨A9,122,13,r9,eJ⟩)],fun i=>[i64 i],fun _=>[],fun i=>[.nest 122 13 11 3 r9 eJ A9.B0 none (l.take i)],fun i=>l.length - i,fun i=>i<=l.length,?_⟩
 conv=>whnf
 refine ⟨⟨0,?_⟩,?_⟩
 ·(conv=>whnf)
  exact kK ⟨Nat.zero_le _,rfl,rfl,rfl⟩
 ·intro j hj
  conv=>whnf
  refine ⟨fun h=>?_,fun h=>?_⟩
  ·have h:=of_decide_eq_true h
   have BX:j < l.length:=by omega
   have hk:(l.take j).length=j:=by rw [List.length_take];omega
   conv=>whnf
   refine ⟨⟨by omega,by omega⟩,?_⟩
   conv=>whnf
   (refine Or.inr ⟨[],[21],by kernel_rfl,?_⟩;(conv=>whnf);refine ⟨[],_,_,_,_,⟨KI _ (ha _),rfl,rfl,by kernel_rfl⟩,?_⟩)
   conv=>whnf
   refine ⟨_,l.getD j r9,⟨rfl,rfl,rfl,?_,?_⟩,?_⟩
   ·show ((l.take j).length + 1) * 120<=_;rw [hk];omega
   ·rw [hk];omega
   conv=>whnf
   refine ⟨j + 1,?_⟩
   conv=>whnf
   refine kK ⟨⟨?_,?_⟩,?_,rfl,?_⟩
   ·show l.length - (j + 1) < l.length - j;omega
   ·show j + 1<=l.length;omega
   ·rw [C7 _ (by omega) (by omega)];rfl
   ·show [Row.nest 122 13 11 3 r9 eJ A9.B0 none (l.take j++[l.getD j r9])]=[Row.nest 122 13 11 3 r9 eJ A9.B0 none (l.take (j + 1))]
    rw [List.take_add_one,List.getElem?_eq_getElem BX]
    simp [List.getD,BX]
  ·have h:=of_decide_eq_false h
   have ej:l.take j=l:=List.take_of_length_le (by omega)
   rw [ej]
   conv=>whnf
   refine ⟨[5],by kernel_rfl,?_⟩
   conv=>whnf
   exact ⟨rfl,rfl⟩
theorem KJ (l:List B8) (hl:l.length < 2 ^ 16) (ha:∀ i,(l.getD i w9).o9.length < 2 ^ 20):PW Tryz.prog 152 [mw l,.fn (.func 153) [] []] [] (.own 0) [.nest 80 6 3 3 w9 V9 B8.o9 none l]:=by
 have w1:IntKind.i64.wrap ((l.length:Int) + 1)=(l.length:Int) + 1:=C7 _ (by omega) (by omega)
 refine pW Tryz.func152 ⟨by kernel_rfl,?_⟩
 conv=>whnf
 refine ⟨.nest 80 6 3 3 w9 V9 B8.o9 none [],⟨⟨rfl,by kernel_rfl,rfl,rfl⟩,by omega,by omega,of_decide_eq_true (by kernel_rfl)⟩,?_⟩
 conv=>whnf
 refine Or.inr ⟨Nat,[14],[],[(5,⟨B8,80,6,w9,V9⟩)],fun i=>[i64 i],fun _=>[],fun i=>[.nest 80 6 3 3 w9 V9 B8.o9 none (l.take i)],fun i=>l.length - i,fun i=>i<=l.length,?_⟩
 conv=>whnf
 refine ⟨⟨0,?_⟩,?_⟩
 ·(conv=>whnf)
  exact kK ⟨Nat.zero_le _,rfl,rfl,rfl⟩
 ·intro j hj
  conv=>whnf
  refine ⟨fun h=>?_,fun h=>?_⟩
  ·have h:=of_decide_eq_true h
   have BX:j < l.length:=by omega
   have hk:(l.take j).length=j:=by rw [List.length_take];omega
   conv=>whnf
   refine ⟨⟨by omega,by omega⟩,?_⟩
   conv=>whnf
   (refine Or.inr ⟨[],[21],by kernel_rfl,?_⟩;(conv=>whnf);refine ⟨[],_,_,_,_,⟨Ae _ (ha _),rfl,rfl,by kernel_rfl⟩,?_⟩)
   conv=>whnf
   refine ⟨_,l.getD j w9,⟨rfl,rfl,rfl,?_,?_⟩,?_⟩
   ·show ((l.take j).length + 1) * 56<=_;rw [hk];omega
   ·rw [hk];omega
   conv=>whnf
   refine ⟨j + 1,?_⟩
   conv=>whnf
   refine kK ⟨⟨?_,?_⟩,?_,rfl,?_⟩
   ·show l.length - (j + 1) < l.length - j;omega
   ·show j + 1<=l.length;omega
   ·rw [C7 _ (by omega) (by omega)];rfl
   ·show [Row.nest 80 6 3 3 w9 V9 B8.o9 none (l.take j++[l.getD j w9])]=[Row.nest 80 6 3 3 w9 V9 B8.o9 none (l.take (j + 1))]
    rw [List.take_add_one,List.getElem?_eq_getElem BX]
    simp [List.getD,BX]
  ·have h:=of_decide_eq_false h
   have ej:l.take j=l:=List.take_of_length_le (by omega)
   rw [ej]
   conv=>whnf
   refine ⟨[5],by kernel_rfl,?_⟩
   conv=>whnf
   exact ⟨rfl,rfl⟩
theorem V2 (b:o7) (o:G8 b) (h:E1 b=false):PC Tryz.prog 97 [au b] (.tup [.nilp,i64 8]):=by
 have c:PC Tryz.prog 69 [au b] (i64 8):=by have c:=fD b o;rwa [if_neg (by rw [h];decide)] at c
 refine pF Tryz.func97 ?_
 conv=>whnf
 (repeat' ((first|refine y7 ?_|refine y8 ?_|((try refine Or.inl ?_;conv=>whnf);(try refine ⟨false,?_⟩;conv=>whnf);refine ⟨_,by exact c,?_⟩)|refine lD ?_|refine lN ?_|refine kL ?_|fail);conv=>whnf))
 try rfl
theorem G6 {b:o7} (h:E1 b=true):b.p9.length<=16/\b.b8.length<=16/\b.log.length<=32:=by
 simp only [E1,gG,D1,Bool.and_eq_true,decide_eq_true_eq] at h
 omega
def im (b:o7):List Row:=[.cells 182 [i64 b.keep,.own 1,.own 2,i64 b.next,.own 3],.vec 5 1 0 e8 b.p9,.nest 122 13 11 3 r9 eJ A9.B0 none b.b8,.nest 80 6 3 3 w9 V9 B8.o9 none b.log]
theorem J2 (b:o7) (o:G8 b) (h:E1 b=true):PW Tryz.prog 97 [au b] [] (.tup [.ptr 0 0 0 0,i64 0]) (im b):=by
 have c:PC Tryz.prog 69 [au b] (i64 0):=by have c:=fD b o;rwa [if_pos h] at c
 have s:=G6 h
 refine pW Tryz.func97 ⟨by kernel_rfl,?_⟩
 conv=>whnf
 (repeat' ((first|refine y7 ?_|refine y8 ?_|((try refine Or.inl ?_;conv=>whnf);(try refine ⟨false,?_⟩;conv=>whnf);refine ⟨_,by exact c,?_⟩)|refine lD ?_|refine lN ?_|refine kL ?_|fail);conv=>whnf))
 (refine Or.inr ⟨[],[12],by kernel_rfl,?_⟩;(conv=>whnf);refine ⟨[],_,_,_,_,⟨nN b.p9 o.u,rfl,rfl,by kernel_rfl⟩,?_⟩)
 conv=>whnf
 (refine Or.inr ⟨[],[16],by kernel_rfl,?_⟩;(conv=>whnf);refine ⟨[],_,_,_,_,⟨Af b.b8 (by omega) o.a,rfl,rfl,by kernel_rfl⟩,?_⟩)
 conv=>whnf
 (refine Or.inr ⟨[],[20],by kernel_rfl,?_⟩;(conv=>whnf);refine ⟨[],_,_,_,_,⟨KJ b.log (by omega) o.p,rfl,rfl,by kernel_rfl⟩,?_⟩)
 conv=>whnf
 refine ⟨[24,12,16,20],by kernel_rfl,?_⟩
 conv=>whnf
 exact ⟨rfl,rfl⟩
def tO (b:o7) (j9:Int):o7:=⟨b.keep,b.p9++[j9],b.b8,b.next,b.log⟩
def iq (b:o7) (j9:Int):Int:=if E1 b then (if j9 < 1∨3 < j9 then 2 else if (b.p9.length:Int)=16 then 9 else 0) else 8
abbrev sd (b:o7):AV := .agg [i64 b.keep,.own 0,.own 1,i64 b.next,.own 2]
def si (b:o7):List Row:=[.vec 5 1 0 e8 b.p9,.nest 122 13 11 3 r9 eJ A9.B0 none b.b8,.nest 80 6 3 3 w9 V9 B8.o9 none b.log]
theorem xz (b:o7) (o:G8 b) (j9:Int) (h:iq b j9=0):PW Tryz.prog 226 [au b,u8 j9] [] (.tup [sd (tO b j9),i64 b.p9.length,i64 0]) (si (tO b j9)):=by
 have hc:E1 b=true:=by
  unfold iq at h
  split at h
  ·assumption
  ·cases h
 have hr:¬(j9 < 1∨3 < j9):=fun q=>by
  unfold iq at h
  rw [if_pos hc,if_pos q] at h
  cases h
 have hu:¬(b.p9.length:Int)=16:=fun q=>by
  unfold iq at h
  rw [if_pos hc,if_neg hr,if_pos q] at h
  cases h
 have s:=G6 hc
 have w1:IntKind.i64.wrap (((b.p9++[j9]).length:Int) - 1)=b.p9.length:=by
  have hl:((b.p9++[j9]).length:Int)=b.p9.length + 1:=by simp
  rw [hl,C7 _ (by omega) (by omega)]
  omega
 refine pW Tryz.func226 ⟨by kernel_rfl,?_⟩
 conv=>whnf
 (refine Or.inr ⟨[],[11,9,12,13],by kernel_rfl,?_⟩;(conv=>whnf);refine ⟨[],_,_,_,_,⟨J2 b o hc,rfl,rfl,by kernel_rfl⟩,?_⟩)
 conv=>whnf
 (repeat' ((first|refine y7 ?_|refine y8 ?_|refine lD ?_|refine lN ?_|refine kL ?_|fail);conv=>whnf))
 (repeat' ((first|refine aU fun hh=>?_|refine aV fun hh=>?_|refine aS (fun hh=>?_) fun hh=>?_|refine kR ?_|fail)<;>conv=>whnf))
 refine ⟨⟨Int,1,0,e8,b.p9⟩,[j9],rfl,rfl,⟨rfl,rfl⟩,?_,?_,fun y _=>⟨rfl,rfl,rfl⟩,?_⟩
 ·show (b.p9.length + 1) * 1<=_;omega
 ·show b.p9.length + 1<=_;omega
 conv=>whnf
 (repeat' ((first|refine aU fun hh=>?_|refine aV fun hh=>?_|refine aS (fun hh=>?_) fun hh=>?_|refine kR ?_|fail)<;>conv=>whnf))
 refine ⟨[44,12,13],by kernel_rfl,?_⟩
 conv=>whnf
 refine ⟨?_,rfl⟩
 rw [w1]
 rfl
theorem tP (b:o7) (o:G8 b) (j9:Int) (h:¬iq b j9=0):PC Tryz.prog 226 [au b,u8 j9] (.tup [mB 0,i64 0,i64 (iq b j9)]):=by
 by_cases hc:E1 b=true
 ·have s:=G6 hc
  unfold iq at h ⊢
  rw [if_pos hc] at h ⊢
  refine pF Tryz.func226 ?_
  conv=>whnf
  (refine Or.inr ⟨[],[11,9,12,13],by kernel_rfl,?_⟩;(conv=>whnf);refine ⟨[],_,_,_,_,⟨J2 b o hc,rfl,rfl,by kernel_rfl⟩,?_⟩)
  conv=>whnf
  (repeat' ((first|refine y7 ?_|refine y8 ?_|refine lD ?_|refine lN ?_|refine kL ?_|fail);conv=>whnf))
  (repeat' ((first|refine aU fun hh=>?_|refine aV fun hh=>?_|refine aS (fun hh=>?_) fun hh=>?_|refine kR ?_|fail)<;>conv=>whnf))
  all_goals first
   | (exfalso;apply h;rw [if_neg (by omega),if_neg (by omega)];done)
   | (rw [if_pos (by omega)];done)
   | (rw [if_neg (by omega),if_pos (by omega)];done)
  
 ·have hc:E1 b=false:=by simpa using hc
  have c:=V2 b o hc
  unfold iq
  rw [if_neg (by rw [hc];decide)]
  refine pF Tryz.func226 ?_
  conv=>whnf
  (repeat' ((first|refine y7 ?_|refine y8 ?_|((try refine Or.inl ?_;conv=>whnf);(try refine ⟨false,?_⟩;conv=>whnf);refine ⟨_,by exact c,?_⟩)|refine lD ?_|refine lN ?_|refine kL ?_|fail);conv=>whnf))
  try rfl
theorem cO (b:o7) (a:Int):PW Tryz.prog 160 [.ptr 0 0 0 0,.own 4] (im b++[.lit 5 1 [[u8 a]]]) (.fn (.func 207) [] [.ptr 5 0 0 0,.ptr 6 0 0 0]) (im b++[.lit 5 1 [[u8 a]],.cells 176 [.ptr 0 0 0 0],.cells 33 [.own 4]]):=by
 refine A7 hm Tryz.func160 (by kernel_rfl) ⟨by kernel_rfl,?_⟩
 conv=>whnf
 refine ⟨[2,3],by kernel_rfl,?_⟩
 conv=>whnf
 exact ⟨rfl,rfl⟩
def L8 (j8:Int) (g:x8):A9:=⟨j8,g,[],1⟩
def tQ (b:o7) (j8:Int) (g:x8):o7:=⟨b.keep,b.p9,b.b8++[L8 j8 g],b.next,b.log⟩
def iU (b:o7) (j8:Int) (g:x8):Int :=
 if E1 b then (if ¬(0<=j8/\j8<=(b.p9.length:Int) - 1) then 6 else if I7 [2] b.p9 j8=false then 100 else if ¬S6 g=true then 8 else if (b.b8.length:Int)=16 then 9 else 0) else 8
theorem Dm (b:o7) (o:G8 b) (j8:Int) (g:x8) (h:iU b j8 g=0):PW Tryz.prog 228 [au b,i64 j8,Ta g] [] (.tup [sd (tQ b j8 g),i64 b.b8.length,i64 0]) (si (tQ b j8 g)):=by
 have hc:E1 b=true:=by
  unfold iU at h
  split at h
  ·assumption
  ·cases h
 unfold iU at h
 rw [if_pos hc] at h
 have hu:0<=j8/\j8<=(b.p9.length:Int) - 1:=Decidable.byContradiction fun q=>by rw [if_pos q] at h;cases h
 rw [if_neg (show ¬¬(0<=j8/\j8<=(b.p9.length:Int) - 1) from fun q=>q hu)] at h
 have tR:I7 [2] b.p9 j8=true:=by
  cases e:I7 [2] b.p9 j8 with
  | true=>rfl
  | false=>rw [if_pos e] at h;cases h
 rw [if_neg (show ¬I7 [2] b.p9 j8=false by rw [tR];decide)] at h
 have hg:S6 g=true:=Decidable.byContradiction fun q=>by rw [if_pos q] at h;cases h
 rw [if_neg (show ¬¬S6 g=true from fun q=>q hg)] at h
 have hl:¬(b.b8.length:Int)=16:=fun q=>by rw [if_pos q] at h;cases h
 clear h
 have s:=G6 hc
 have c1:=fun u=>T3 b.keep b.next u b.p9 b.b8 b.log 2 (S7 o.u)
 have w0:IntKind.i64.wrap ((b.p9.length:Int) - 1)=(b.p9.length:Int) - 1:=C7 _ (by omega) (by omega)
 have c2:∀ u,PC Tryz.prog 105 [i64 0,i64 (IntKind.i64.wrap ((b.p9.length:Int) - 1)),i64 u] (.bool (decide (0<=u) && decide (u<=(b.p9.length:Int) - 1))):=fun u=>by rw [w0];exact M1 0 _ u
 refine pW Tryz.func228 ⟨by kernel_rfl,?_⟩
 conv=>whnf
 (refine Or.inr ⟨[],[14,9,12,15],by kernel_rfl,?_⟩;(conv=>whnf);refine ⟨[],_,_,_,_,⟨J2 b o hc,rfl,rfl,by kernel_rfl⟩,?_⟩)
 conv=>whnf
 (repeat' ((first|refine y7 ?_|refine y8 ?_|((try refine Or.inl ?_;conv=>whnf);(try refine ⟨false,?_⟩;conv=>whnf);refine ⟨_,by exact c2 _,?_⟩)|refine lD ?_|refine lN ?_|refine kL ?_|fail);conv=>whnf))
 (repeat' ((first|refine aU fun hh=>?_|refine aV fun hh=>?_|refine aS (fun hh=>?_) fun hh=>?_|refine kR ?_|fail)<;>conv=>whnf))
 (refine Or.inr ⟨[],[37,35],by kernel_rfl,?_⟩;(conv=>whnf);refine ⟨[14,9,12,15,36],_,_,_,_,⟨cO b 2,rfl,rfl,by kernel_rfl⟩,?_⟩)
 conv=>whnf
 (repeat' ((first|refine aU fun hh=>?_|refine aV fun hh=>?_|refine aS (fun hh=>?_) fun hh=>?_|refine kR ?_|((try refine Or.inl ?_;conv=>whnf);(try refine ⟨false,?_⟩;conv=>whnf);refine ⟨_,by first|exact c1 _|exact X9 g,?_⟩)|fail)<;>conv=>whnf))
 refine ⟨L8 j8 g,⟨rfl,rfl,?_,?_⟩,?_⟩
 ·show (b.b8.length + 1) * 120<=_;omega
 ·omega
 have w1:IntKind.i64.wrap (((b.b8++[L8 j8 g]).length:Int) - 1)=b.b8.length:=by
  have hl:((b.b8++[L8 j8 g]).length:Int)=b.b8.length + 1:=by simp
  rw [hl,C7 _ (by omega) (by omega)]
  omega
 conv=>whnf
 (repeat' ((first|refine aU fun hh=>?_|refine aV fun hh=>?_|refine aS (fun hh=>?_) fun hh=>?_|refine kR ?_|fail)<;>conv=>whnf))
 refine ⟨[9,66,15],by kernel_rfl,?_⟩
 conv=>whnf
 refine ⟨?_,rfl⟩
 rw [w1]
 rfl
theorem Ag (b:o7) (o:G8 b) (j8:Int) (g:x8) (h:¬iU b j8 g=0):PC Tryz.prog 228 [au b,i64 j8,Ta g] (.tup [mB 0,i64 0,i64 (iU b j8 g)]):=by
 by_cases hc:E1 b=true
 ·unfold iU at h ⊢
  rw [if_pos hc] at h ⊢
  have s:=G6 hc
  have c1:=fun u=>T3 b.keep b.next u b.p9 b.b8 b.log 2 (S7 o.u)
  have w0:IntKind.i64.wrap ((b.p9.length:Int) - 1)=(b.p9.length:Int) - 1:=C7 _ (by omega) (by omega)
  have c2:∀ u,PC Tryz.prog 105 [i64 0,i64 (IntKind.i64.wrap ((b.p9.length:Int) - 1)),i64 u] (.bool (decide (0<=u) && decide (u<=(b.p9.length:Int) - 1))):=fun u=>by rw [w0];exact M1 0 _ u
  by_cases hu:0<=j8/\j8<=(b.p9.length:Int) - 1
  ·rw [if_neg (show ¬¬(0<=j8/\j8<=(b.p9.length:Int) - 1) from fun q=>q hu)] at h ⊢
   refine pF Tryz.func228 ?_
   conv=>whnf
   (refine Or.inr ⟨[],[14,9,12,15],by kernel_rfl,?_⟩;(conv=>whnf);refine ⟨[],_,_,_,_,⟨J2 b o hc,rfl,rfl,by kernel_rfl⟩,?_⟩)
   conv=>whnf
   (repeat' ((first|refine y7 ?_|refine y8 ?_|((try refine Or.inl ?_;conv=>whnf);(try refine ⟨false,?_⟩;conv=>whnf);refine ⟨_,by exact c2 _,?_⟩)|refine lD ?_|refine lN ?_|refine kL ?_|fail);conv=>whnf))
   (repeat' ((first|refine aU fun hh=>?_|refine aV fun hh=>?_|refine aS (fun hh=>?_) fun hh=>?_|refine kR ?_|fail)<;>conv=>whnf))
   (refine Or.inr ⟨[],[37,35],by kernel_rfl,?_⟩;(conv=>whnf);refine ⟨[14,9,12,15,36],_,_,_,_,⟨cO b 2,rfl,rfl,by kernel_rfl⟩,?_⟩)
   conv=>whnf
   (repeat' ((first|refine aU fun hh=>?_|refine aV fun hh=>?_|refine aS (fun hh=>?_) fun hh=>?_|refine kR ?_|((try refine Or.inl ?_;conv=>whnf);(try refine ⟨false,?_⟩;conv=>whnf);refine ⟨_,by first|exact c1 _|exact X9 g,?_⟩)|fail)<;>conv=>whnf))
   all_goals first
    | (exfalso;apply h;simp_all;done)
    | (simp_all;done)
    | (exfalso;omega)
   
  ·rw [if_pos hu]
   refine pF Tryz.func228 ?_
   conv=>whnf
   (refine Or.inr ⟨[],[14,9,12,15],by kernel_rfl,?_⟩;(conv=>whnf);refine ⟨[],_,_,_,_,⟨J2 b o hc,rfl,rfl,by kernel_rfl⟩,?_⟩)
   conv=>whnf
   (repeat' ((first|refine y7 ?_|refine y8 ?_|((try refine Or.inl ?_;conv=>whnf);(try refine ⟨false,?_⟩;conv=>whnf);refine ⟨_,by exact c2 _,?_⟩)|refine lD ?_|refine lN ?_|refine kL ?_|fail);conv=>whnf))
   (repeat' ((first|refine aU fun hh=>?_|refine aV fun hh=>?_|refine aS (fun hh=>?_) fun hh=>?_|refine kR ?_|fail)<;>conv=>whnf))
   all_goals first
    | (exfalso;apply h;simp_all;done)
    | (simp_all;done)
    | (exfalso;omega)
   
 ·have hc:E1 b=false:=by simpa using hc
  have c:=V2 b o hc
  unfold iU
  rw [if_neg (by rw [hc];decide)]
  refine pF Tryz.func228 ?_
  conv=>whnf
  (repeat' ((first|refine y7 ?_|refine y8 ?_|((try refine Or.inl ?_;conv=>whnf);(try refine ⟨false,?_⟩;conv=>whnf);refine ⟨_,by exact c,?_⟩)|refine lD ?_|refine lN ?_|refine kL ?_|fail);conv=>whnf))
  try rfl
def ai (x:A9) (n:Int):A9:=⟨x.author,x.b9,x.B0,n⟩
def mC (b:o7) (i:Nat):o7:=⟨b.keep,b.p9,b.b8.set i (ai (b.b8.getD i r9) 4),b.next,b.log⟩
theorem sj (b:o7) (hr:b.b8.length < 2 ^ 20) (i:Nat) (hi:i < b.b8.length) (h3:(b.b8.getD i r9).state=3) (uz:∀ m,m < i->¬(b.b8.getD m r9).state=3):PW Tryz.prog 277 [.ptr 0 0 0 0] (im b) (.bool true) (im (mC b i)):=by
 refine pW Tryz.func277 ⟨by kernel_rfl,?_⟩
 conv=>whnf
 refine Or.inr ⟨Nat,[11],[],[],fun k=>[i64 k],fun _=>[],fun _=>[],fun k=>b.b8.length - k,fun k=>k<=i,?_⟩
 conv=>whnf
 refine ⟨⟨0,?_⟩,?_⟩
 ·(conv=>whnf)
  exact kK ⟨Nat.zero_le _,rfl,rfl,rfl⟩
 intro k hk
 conv=>whnf
 refine ⟨fun h=>?_,fun h=>absurd (of_decide_eq_false h) (by omega)⟩
 have L7:k < b.b8.length:=by omega
 conv=>whnf
 refine ⟨⟨by omega,by omega⟩,?_⟩
 conv=>whnf
 refine ⟨L7,?_⟩
 conv=>whnf
 rw [show Int.toNat (k:Int)=k from rfl]
 refine ⟨fun q=>?_,fun q=>?_⟩
 ·have q:=of_decide_eq_true q
  have e:k=i:=by
   by_cases e:k=i
   ·exact e
   ·exact absurd q (uz k (by omega))
  subst e
  conv=>whnf
  refine ⟨⟨by omega,by omega⟩,?_⟩
  conv=>whnf
  refine ⟨ai (b.b8.getD k r9) 4,⟨rfl,rfl,L7⟩,?_⟩
  conv=>whnf
  refine ⟨[],by kernel_rfl,?_⟩
  conv=>whnf
  exact ⟨rfl,rfl⟩
 ·have q:=of_decide_eq_false q
  have e:¬k=i:=fun e=>q (e ▸ h3)
  refine ⟨k + 1,?_⟩
  conv=>whnf
  refine kK ⟨⟨?_,?_⟩,?_,rfl,rfl⟩
  ·show b.b8.length - (k + 1) < b.b8.length - k;omega
  ·show k + 1<=i;omega
  ·rw [C7 _ (by omega) (by omega)];rfl
theorem so (b:o7) (hr:b.b8.length < 2 ^ 20) (uz:∀ m,m < b.b8.length->¬(b.b8.getD m r9).state=3):PW Tryz.prog 277 [.ptr 0 0 0 0] (im b) (.bool false) (im b):=by
 refine pW Tryz.func277 ⟨by kernel_rfl,?_⟩
 conv=>whnf
 refine Or.inr ⟨Nat,[11],[],[],fun k=>[i64 k],fun _=>[],fun _=>[],fun k=>b.b8.length - k,fun k=>k<=b.b8.length,?_⟩
 conv=>whnf
 refine ⟨⟨0,?_⟩,?_⟩
 ·(conv=>whnf)
  exact kK ⟨Nat.zero_le _,rfl,rfl,rfl⟩
 intro k hk
 conv=>whnf
 refine ⟨fun h=>?_,fun h=>?_⟩
 ·have L7:k < b.b8.length:=by have:=of_decide_eq_true h;omega
  conv=>whnf
  refine ⟨⟨by omega,by omega⟩,?_⟩
  conv=>whnf
  refine ⟨L7,?_⟩
  conv=>whnf
  rw [show Int.toNat (k:Int)=k from rfl]
  refine ⟨fun q=>absurd (of_decide_eq_true q) (uz k L7),fun q=>?_⟩
  refine ⟨k + 1,?_⟩
  conv=>whnf
  refine kK ⟨⟨?_,?_⟩,?_,rfl,rfl⟩
  ·show b.b8.length - (k + 1) < b.b8.length - k;omega
  ·show k + 1<=b.b8.length;omega
  ·rw [C7 _ (by omega) (by omega)];rfl
 conv=>whnf
 refine ⟨[],by kernel_rfl,?_⟩
 conv=>whnf
 exact ⟨rfl,rfl⟩
def C9 (x:A9):Bool:=decide (x.state=3)
def A4 (l:List A9):Nat:=l.findIdx C9
theorem J4 {l:List A9} (h:l.any C9=true):A4 l < l.length:=by
 obtain ⟨x,hx,hp⟩:=List.any_eq_true.1 h
 exact List.findIdx_lt_length_of_exists ⟨x,hx,hp⟩
theorem O6 {l:List A9} (h:l.any C9=true):(l.getD (A4 l) r9).state=3:=by
 have hl:=J4 h
 have:=List.findIdx_getElem (p:=C9) (xs:=l) (w:=hl)
 simp only [List.getD,List.getElem?_eq_getElem hl,Option.getD_some]
 exact of_decide_eq_true this
theorem nO {l:List A9} {m:Nat} (h:m < A4 l):¬(l.getD m r9).state=3:=by
 have hl:m < l.length:=Nat.lt_of_lt_of_le h List.findIdx_le_length
 have:=List.not_of_lt_findIdx h
 simp only [List.getD,List.getElem?_eq_getElem hl,Option.getD_some]
 intro q
 simp [C9,q] at this
theorem KK {l:List A9} (h:¬l.any C9=true) (m:Nat) (hm:m < l.length):¬(l.getD m r9).state=3:=fun q=>h (List.any_eq_true.2 ⟨l[m],List.getElem_mem hm,by
 simp only [List.getD,List.getElem?_eq_getElem hm,Option.getD_some] at q
 exact decide_eq_true q⟩)
def iV (b:o7) (j8:Int):Int :=
 if E1 b then (if ¬(0<=j8/\j8<=(b.p9.length:Int) - 1) then 6 else if I7 [3] b.p9 j8=false then 100 else if ¬b.b8.any C9=true then 102 else 0) else 8
theorem Ah (b:o7) (o:G8 b) (j8:Int) (h:iV b j8=0):PW Tryz.prog 231 [au b,i64 j8] [] (.tup [sd (mC b (A4 b.b8)),i64 0]) (si (mC b (A4 b.b8))):=by
 have hc:E1 b=true:=by
  unfold iV at h
  split at h
  ·assumption
  ·cases h
 unfold iV at h
 rw [if_pos hc] at h
 have hu:0<=j8/\j8<=(b.p9.length:Int) - 1:=Decidable.byContradiction fun q=>by rw [if_pos q] at h;cases h
 rw [if_neg (show ¬¬(0<=j8/\j8<=(b.p9.length:Int) - 1) from fun q=>q hu)] at h
 have tR:I7 [3] b.p9 j8=true:=by
  cases e:I7 [3] b.p9 j8 with
  | true=>rfl
  | false=>rw [if_pos e] at h;cases h
 rw [if_neg (show ¬I7 [3] b.p9 j8=false by rw [tR];decide)] at h
 have hg:b.b8.any C9=true:=Decidable.byContradiction fun q=>by rw [if_pos q] at h;cases h
 clear h
 have s:=G6 hc
 have c1:=fun u=>T3 b.keep b.next u b.p9 b.b8 b.log 3 (S7 o.u)
 have w0:IntKind.i64.wrap ((b.p9.length:Int) - 1)=(b.p9.length:Int) - 1:=C7 _ (by omega) (by omega)
 have c2:∀ u,PC Tryz.prog 105 [i64 0,i64 (IntKind.i64.wrap ((b.p9.length:Int) - 1)),i64 u] (.bool (decide (0<=u) && decide (u<=(b.p9.length:Int) - 1))):=fun u=>by rw [w0];exact M1 0 _ u
 have r:=sj b o.r (A4 b.b8) (J4 hg) (O6 hg) (fun m hm=>nO hm)
 refine pW Tryz.func231 ⟨by kernel_rfl,?_⟩
 conv=>whnf
 (refine Or.inr ⟨[],[10,8,11,12],by kernel_rfl,?_⟩;(conv=>whnf);refine ⟨[],_,_,_,_,⟨J2 b o hc,rfl,rfl,by kernel_rfl⟩,?_⟩)
 conv=>whnf
 (repeat' ((first|refine y7 ?_|refine y8 ?_|((try refine Or.inl ?_;conv=>whnf);(try refine ⟨false,?_⟩;conv=>whnf);refine ⟨_,by exact c2 _,?_⟩)|refine lD ?_|refine lN ?_|refine kL ?_|fail);conv=>whnf))
 (repeat' ((first|refine aU fun hh=>?_|refine aV fun hh=>?_|refine aS (fun hh=>?_) fun hh=>?_|refine kR ?_|fail)<;>conv=>whnf))
 (refine Or.inr ⟨[],[33,31],by kernel_rfl,?_⟩;(conv=>whnf);refine ⟨[10,8,11,12,32],_,_,_,_,⟨cO b 3,rfl,rfl,by kernel_rfl⟩,?_⟩)
 conv=>whnf
 (repeat' ((first|refine aU fun hh=>?_|refine aV fun hh=>?_|refine aS (fun hh=>?_) fun hh=>?_|refine kR ?_|((try refine Or.inl ?_;conv=>whnf);(try refine ⟨false,?_⟩;conv=>whnf);refine ⟨_,by exact c1 _,?_⟩)|fail)<;>conv=>whnf))
 (refine Or.inr ⟨[],[],by kernel_rfl,?_⟩;(conv=>whnf);refine ⟨[10,8,11,12],_,_,_,_,⟨r,rfl,rfl,by kernel_rfl⟩,?_⟩)
 conv=>whnf
 (repeat' ((first|refine y7 ?_|refine y8 ?_|refine lD ?_|refine lN ?_|refine kL ?_|fail);conv=>whnf))
 refine ⟨[8,11,12],by kernel_rfl,?_⟩
 conv=>whnf
 exact ⟨rfl,rfl⟩
theorem xA (b:o7) (o:G8 b) (j8:Int) (h:¬iV b j8=0):PC Tryz.prog 231 [au b,i64 j8] (.tup [mB 0,i64 (iV b j8)]):=by
 by_cases hc:E1 b=true
 ·unfold iV at h ⊢
  rw [if_pos hc] at h ⊢
  have s:=G6 hc
  have c1:=fun u=>T3 b.keep b.next u b.p9 b.b8 b.log 3 (S7 o.u)
  have w0:IntKind.i64.wrap ((b.p9.length:Int) - 1)=(b.p9.length:Int) - 1:=C7 _ (by omega) (by omega)
  have c2:∀ u,PC Tryz.prog 105 [i64 0,i64 (IntKind.i64.wrap ((b.p9.length:Int) - 1)),i64 u] (.bool (decide (0<=u) && decide (u<=(b.p9.length:Int) - 1))):=fun u=>by rw [w0];exact M1 0 _ u
  by_cases hu:0<=j8/\j8<=(b.p9.length:Int) - 1
  ·rw [if_neg (show ¬¬(0<=j8/\j8<=(b.p9.length:Int) - 1) from fun q=>q hu)] at h ⊢
   by_cases tR:I7 [3] b.p9 j8=true
   ·rw [if_neg (show ¬I7 [3] b.p9 j8=false by rw [tR];decide)] at h ⊢
    have hg:¬b.b8.any C9=true:=fun q=>h (if_neg (fun e=>e q))
    rw [if_pos hg]
    have r:=so b o.r (fun m hm=>KK hg m hm)
    refine pF Tryz.func231 ?_
    conv=>whnf
    (refine Or.inr ⟨[],[10,8,11,12],by kernel_rfl,?_⟩;(conv=>whnf);refine ⟨[],_,_,_,_,⟨J2 b o hc,rfl,rfl,by kernel_rfl⟩,?_⟩)
    conv=>whnf
    (repeat' ((first|refine y7 ?_|refine y8 ?_|((try refine Or.inl ?_;conv=>whnf);(try refine ⟨false,?_⟩;conv=>whnf);refine ⟨_,by exact c2 _,?_⟩)|refine lD ?_|refine lN ?_|refine kL ?_|fail);conv=>whnf))
    (repeat' ((first|refine aU fun hh=>?_|refine aV fun hh=>?_|refine aS (fun hh=>?_) fun hh=>?_|refine kR ?_|fail)<;>conv=>whnf))
    (refine Or.inr ⟨[],[33,31],by kernel_rfl,?_⟩;(conv=>whnf);refine ⟨[10,8,11,12,32],_,_,_,_,⟨cO b 3,rfl,rfl,by kernel_rfl⟩,?_⟩)
    conv=>whnf
    (repeat' ((first|refine aU fun hh=>?_|refine aV fun hh=>?_|refine aS (fun hh=>?_) fun hh=>?_|refine kR ?_|((try refine Or.inl ?_;conv=>whnf);(try refine ⟨false,?_⟩;conv=>whnf);refine ⟨_,by exact c1 _,?_⟩)|fail)<;>conv=>whnf))
    (refine Or.inr ⟨[],[],by kernel_rfl,?_⟩;(conv=>whnf);refine ⟨[10,8,11,12],_,_,_,_,⟨r,rfl,rfl,by kernel_rfl⟩,?_⟩)
    conv=>whnf
    (repeat' ((first|refine y7 ?_|refine y8 ?_|refine lD ?_|refine lN ?_|refine kL ?_|fail);conv=>whnf))
    all_goals rfl
   ·have wK:I7 [3] b.p9 j8=false:=by simpa using tR
    rw [if_pos wK]
    refine pF Tryz.func231 ?_
    conv=>whnf
    (refine Or.inr ⟨[],[10,8,11,12],by kernel_rfl,?_⟩;(conv=>whnf);refine ⟨[],_,_,_,_,⟨J2 b o hc,rfl,rfl,by kernel_rfl⟩,?_⟩)
    conv=>whnf
    (repeat' ((first|refine y7 ?_|refine y8 ?_|((try refine Or.inl ?_;conv=>whnf);(try refine ⟨false,?_⟩;conv=>whnf);refine ⟨_,by exact c2 _,?_⟩)|refine lD ?_|refine lN ?_|refine kL ?_|fail);conv=>whnf))
    (repeat' ((first|refine aU fun hh=>?_|refine aV fun hh=>?_|refine aS (fun hh=>?_) fun hh=>?_|refine kR ?_|fail)<;>conv=>whnf))
    (refine Or.inr ⟨[],[33,31],by kernel_rfl,?_⟩;(conv=>whnf);refine ⟨[10,8,11,12,32],_,_,_,_,⟨cO b 3,rfl,rfl,by kernel_rfl⟩,?_⟩)
    conv=>whnf
    (repeat' ((first|refine aU fun hh=>?_|refine aV fun hh=>?_|refine aS (fun hh=>?_) fun hh=>?_|refine kR ?_|((try refine Or.inl ?_;conv=>whnf);(try refine ⟨false,?_⟩;conv=>whnf);refine ⟨_,by exact c1 _,?_⟩)|fail)<;>conv=>whnf))
    all_goals rfl
  ·rw [if_pos hu]
   refine pF Tryz.func231 ?_
   conv=>whnf
   (refine Or.inr ⟨[],[10,8,11,12],by kernel_rfl,?_⟩;(conv=>whnf);refine ⟨[],_,_,_,_,⟨J2 b o hc,rfl,rfl,by kernel_rfl⟩,?_⟩)
   conv=>whnf
   (repeat' ((first|refine y7 ?_|refine y8 ?_|((try refine Or.inl ?_;conv=>whnf);(try refine ⟨false,?_⟩;conv=>whnf);refine ⟨_,by exact c2 _,?_⟩)|refine lD ?_|refine lN ?_|refine kL ?_|fail);conv=>whnf))
   (repeat' ((first|refine aU fun hh=>?_|refine aV fun hh=>?_|refine aS (fun hh=>?_) fun hh=>?_|refine kR ?_|fail)<;>conv=>whnf))
   all_goals rfl
 ·have hc:E1 b=false:=by simpa using hc
  have c:=V2 b o hc
  unfold iV
  rw [if_neg (by rw [hc];decide)]
  refine pF Tryz.func231 ?_
  conv=>whnf
  (repeat' ((first|refine y7 ?_|refine y8 ?_|((try refine Or.inl ?_;conv=>whnf);(try refine ⟨false,?_⟩;conv=>whnf);refine ⟨_,by exact c,?_⟩)|refine lD ?_|refine lN ?_|refine kL ?_|fail);conv=>whnf))
  try rfl
theorem sr (x:A9):PC Tryz.prog 308 [Tc x] (.bool (C9 x)):=by
 refine pF Tryz.func308 ?_
 conv=>whnf
 try rfl
def Hb (l:List A9):Int:=if l.any C9 then A4 l else -1
theorem KL {l:List A9} {k:Nat} (hk:k < l.length) (h:C9 (l.getD k r9)=true) (uz:∀ m,m < k->C9 (l.getD m r9)=false):Hb l=k:=by
 have ha:l.any C9=true:=List.any_eq_true.2 ⟨l.getD k r9,by simp only [List.getD,List.getElem?_eq_getElem hk,Option.getD_some];exact List.getElem_mem hk,h⟩
 unfold Hb
 rw [if_pos ha]
 have e:A4 l=k:=by
  have h1:=O6 ha
  rcases Nat.lt_trichotomy (A4 l) k with h2|h2|h2
  ·exact absurd h1 (of_decide_eq_false (uz _ h2))
  ·exact h2
  ·exact absurd (of_decide_eq_true h) (nO h2)
 rw [e]
theorem Hc {l:List A9} (uz:∀ m,m < l.length->C9 (l.getD m r9)=false):Hb l = -1:=by
 unfold Hb
 rw [if_neg]
 intro h
 have h1:=O6 h
 exact absurd h1 (of_decide_eq_false (uz _ (J4 h)))
theorem KM (l:List A9) (hl:l.length < 2 ^ 40):PC Tryz.prog 307 [pJ l,.fn (.func 308) [] []] (i64 (Hb l)):=by
 refine pF Tryz.func307 ?_
 conv=>whnf
 refine Or.inr ⟨Nat,[8],[],[],fun k=>[i64 k],fun _=>[],fun _=>[],fun k=>l.length - k,fun k=>k<=l.length/\∀ m,m < k->C9 (l.getD m r9)=false,?_⟩
 conv=>whnf
 refine ⟨⟨0,?_⟩,?_⟩
 ·(conv=>whnf)
  exact kK ⟨⟨Nat.zero_le _,fun i hi=>absurd hi (Nat.not_lt_zero i)⟩,rfl,rfl,rfl⟩
 intro k hk
 conv=>whnf
 refine ⟨fun h=>?_,fun h=>?_⟩
 ·have h:=of_decide_eq_true h
  have L7:k < l.length:=by omega
  conv=>whnf
  refine ⟨⟨by omega,by omega⟩,?_⟩
  conv=>whnf
  rw [show Int.toNat (k:Int)=k from rfl]
  (repeat' (first|(refine ⟨_,by exact sr _,?_⟩;(conv=>whnf))|(refine Or.inl ?_;(conv=>whnf);refine ⟨_,by exact sr _,?_⟩;(conv=>whnf))|(refine Or.inl ?_;(conv=>whnf);refine ⟨false,?_⟩;(conv=>whnf);refine ⟨_,by exact sr _,?_⟩;(conv=>whnf))|(refine ⟨by kernel_rfl,?_⟩;(conv=>whnf))|fail))
  refine ⟨fun q=>?_,fun q=>?_⟩
  ·(conv=>whnf)
   exact congrArg i64 (KL L7 q hk.2).symm
  ·refine ⟨k + 1,?_⟩
   conv=>whnf
   refine kK ⟨⟨?_,?_,?_⟩,?_,rfl,rfl⟩
   ·show l.length - (k + 1) < l.length - k;omega
   ·omega
   ·intro m hm
    by_cases e:m=k
    ·subst e;exact q
    ·exact hk.2 m (by omega)
   ·rw [C7 _ (by omega) (by omega)];rfl
 ·have h:=of_decide_eq_false h
  conv=>whnf
  exact congrArg i64 (Hc fun m hm=>hk.2 m (by omega)).symm
def Ai (b:o7):Int:=if E1 b then (if b.b8.any C9 then 0 else 102) else 8
def He (b:o7):Int:=if E1 b then (if b.b8.any C9 then A4 b.b8 else 0) else 0
theorem vj (b:o7) (o:G8 b):PC Tryz.prog 271 [au b] (.tup [i64 (He b),i64 (Ai b)]):=by
 have c:=fD b o
 have c2:=KM b.b8 (S7 o.r)
 unfold He Ai
 by_cases hc:E1 b=true
 ·rw [if_pos hc] at c
  rw [if_pos hc,if_pos hc]
  unfold Hb at c2
  by_cases ha:b.b8.any C9=true
  ·rw [if_pos ha] at c2
   rw [if_pos ha,if_pos ha]
   refine pF Tryz.func271 ?_
   conv=>whnf
   (repeat' ((first|refine y7 ?_|refine y8 ?_|((try refine Or.inl ?_;conv=>whnf);(try refine ⟨false,?_⟩;conv=>whnf);refine ⟨_,by first|exact c|exact c2,?_⟩)|refine lD ?_|refine lN ?_|refine kL ?_|fail);conv=>whnf))
   all_goals rfl
  ·rw [if_neg ha] at c2
   rw [if_neg ha,if_neg ha]
   refine pF Tryz.func271 ?_
   conv=>whnf
   (repeat' ((first|refine y7 ?_|refine y8 ?_|((try refine Or.inl ?_;conv=>whnf);(try refine ⟨false,?_⟩;conv=>whnf);refine ⟨_,by first|exact c|exact c2,?_⟩)|refine lD ?_|refine lN ?_|refine kL ?_|fail);conv=>whnf))
   all_goals rfl
 ·rw [if_neg hc] at c
  rw [if_neg hc,if_neg hc]
  refine pF Tryz.func271 ?_
  conv=>whnf
  (repeat' ((first|refine y7 ?_|refine y8 ?_|((try refine Or.inl ?_;conv=>whnf);(try refine ⟨false,?_⟩;conv=>whnf);refine ⟨_,by exact c,?_⟩)|refine lD ?_|refine lN ?_|refine kL ?_|fail);conv=>whnf))
  all_goals rfl
theorem P2 (b:o7) (o:G8 b) (u:Int):PC Tryz.prog 105 [i64 0,i64 (IntKind.i64.wrap ((b.p9.length:Int) - 1)),i64 u] (.bool (decide (0<=u) && decide (u<=(b.p9.length:Int) - 1))):=by
 have:=o.u
 rw [C7 _ (by omega) (by omega)];exact M1 0 _ u
theorem mD (b:o7) (o:G8 b) (u:Int):PC Tryz.prog 105 [i64 0,i64 (IntKind.i64.wrap ((b.b8.length:Int) - 1)),i64 u] (.bool (decide (0<=u) && decide (u<=(b.b8.length:Int) - 1))):=by
 have:=o.r
 rw [C7 _ (by omega) (by omega)];exact M1 0 _ u
def dp (b:o7) (j8 a7:Int):Prop:=(0<=j8/\j8<=(b.p9.length:Int) - 1)/\(0<=a7/\a7<=(b.b8.length:Int) - 1)
instance (b:o7) (j8 a7:Int):Decidable (dp b j8 a7):=by unfold dp;infer_instance
theorem S8 (b:o7) (o:G8 b) (hc:E1 b=true) (j8 a7:Int) (h:dp b j8 a7):PW Tryz.prog 274 [au b,i64 j8,i64 a7] [] (.tup [.ptr 0 0 0 0,.ptr 2 13 a7.toNat 0,i64 0]) (im b):=by
 obtain ⟨h1,h2⟩:=h
 refine pW Tryz.func274 ⟨by kernel_rfl,?_⟩
 conv=>whnf
 (refine Or.inr ⟨[],[13,11,12,14],by kernel_rfl,?_⟩;(conv=>whnf);refine ⟨[],_,_,_,_,⟨J2 b o hc,rfl,rfl,by kernel_rfl⟩,?_⟩)
 conv=>whnf
 (repeat' ((first|refine y7 ?_|refine y8 ?_|((try refine Or.inl ?_;conv=>whnf);(try refine ⟨false,?_⟩;conv=>whnf);refine ⟨_,by first|exact P2 b o _|exact mD b o _,?_⟩)|refine lD ?_|refine lN ?_|refine kL ?_|fail);conv=>whnf))
 (repeat' ((first|refine aU fun hh=>?_|refine aV fun hh=>?_|refine aS (fun hh=>?_) fun hh=>?_|refine kR ?_|((try refine Or.inl ?_;conv=>whnf);(try refine ⟨false,?_⟩;conv=>whnf);refine ⟨_,by first|exact P2 b o _|exact mD b o _,?_⟩)|fail)<;>conv=>whnf))
 refine ⟨[13,11,12,14],by kernel_rfl,?_⟩
 conv=>whnf
 exact ⟨rfl,rfl⟩
theorem pn (b:o7) (o:G8 b) (j8 a7:Int) (h:¬(E1 b=true/\dp b j8 a7)):PC Tryz.prog 274 [au b,i64 j8,i64 a7] (.tup [.nilp,.nilp,i64 (if E1 b then 6 else 8)]):=by
 by_cases hc:E1 b=true
 ·have hn:¬dp b j8 a7:=fun q=>h ⟨hc,q⟩
  unfold dp at hn
  rw [if_pos hc]
  refine pF Tryz.func274 ?_
  conv=>whnf
  (refine Or.inr ⟨[],[13,11,12,14],by kernel_rfl,?_⟩;(conv=>whnf);refine ⟨[],_,_,_,_,⟨J2 b o hc,rfl,rfl,by kernel_rfl⟩,?_⟩)
  conv=>whnf
  (repeat' ((first|refine y7 ?_|refine y8 ?_|((try refine Or.inl ?_;conv=>whnf);(try refine ⟨false,?_⟩;conv=>whnf);refine ⟨_,by first|exact P2 b o _|exact mD b o _,?_⟩)|refine lD ?_|refine lN ?_|refine kL ?_|fail);conv=>whnf))
  (repeat' ((first|refine aU fun hh=>?_|refine aV fun hh=>?_|refine aS (fun hh=>?_) fun hh=>?_|refine kR ?_|((try refine Or.inl ?_;conv=>whnf);(try refine ⟨false,?_⟩;conv=>whnf);refine ⟨_,by first|exact P2 b o _|exact mD b o _,?_⟩)|fail)<;>conv=>whnf))
  all_goals (first|rfl|(exfalso;omega))
 ·have Cp:E1 b=false:=by simpa using hc
  rw [if_neg hc]
  have c:=V2 b o Cp
  refine pF Tryz.func274 ?_
  conv=>whnf
  (repeat' ((first|refine y7 ?_|refine y8 ?_|((try refine Or.inl ?_;conv=>whnf);(try refine ⟨false,?_⟩;conv=>whnf);refine ⟨_,by exact c,?_⟩)|refine lD ?_|refine lN ?_|refine kL ?_|fail);conv=>whnf))
  try rfl
def Rk (b:o7) (i:Nat) (n:Int):o7:=⟨b.keep,b.p9,b.b8.set i (ai (b.b8.getD i r9) n),b.next,b.log⟩
def K6 (b:o7):o7:=if b.b8.any C9 then mC b (A4 b.b8) else b
def fF (b:o7) (a7:Int):o7:=Rk (K6 b) a7.toNat 3
def dq (b:o7) (j8 a7:Int):Int :=
 if E1 b=true/\dp b j8 a7 then (if I7 [2] b.p9 j8=false then 100 else if ¬(b.b8.getD a7.toNat r9).state=2 then 101 else 0) else (if E1 b then 6 else 8)
theorem gH {b:o7} {j8 a7:Int} (h:dq b j8 a7=0):E1 b=true/\dp b j8 a7/\I7 [2] b.p9 j8=true/\(b.b8.getD a7.toNat r9).state=2:=by
 unfold dq at h
 by_cases h1:E1 b=true/\dp b j8 a7
 ·rw [if_pos h1] at h
  by_cases h2:I7 [2] b.p9 j8=false
  ·rw [if_pos h2] at h;cases h
  ·rw [if_neg h2] at h
   by_cases h3:(b.b8.getD a7.toNat r9).state=2
   ·exact ⟨h1.1,h1.2,by simpa using h2,h3⟩
   ·rw [if_pos h3] at h;cases h
 ·rw [if_neg h1] at h
  split at h<;>cases h
theorem tS (b:o7) (o:G8 b) (j8 a7:Int) (h:dq b j8 a7=0):PW Tryz.prog 230 [au b,i64 j8,i64 a7] [] (.tup [sd (fF b a7),i64 0]) (si (fF b a7)):=by
 obtain ⟨hc,hn,tR,h2⟩:=gH h
 clear h
 have s:=G6 hc
 have c1:=fun u=>T3 b.keep b.next u b.p9 b.b8 b.log 2 (S7 o.u)
 have A2:a7.toNat < b.b8.length:=by have:=hn.2;omega
 have hi:0<=a7/\a7 < (b.b8.length:Int):=by have:=hn.2;omega
 by_cases ha:b.b8.any C9=true
 ·have r:=sj b o.r (A4 b.b8) (J4 ha) (O6 ha) (fun m hm=>nO hm)
  have e:fF b a7=Rk (mC b (A4 b.b8)) a7.toNat 3:=by unfold fF K6;rw [if_pos ha]
  rw [e]
  have IM:a7.toNat < (mC b (A4 b.b8)).b8.length:=by show a7.toNat < (b.b8.set _ _).length;rw [List.length_set];exact A2
  refine pW Tryz.func230 ⟨by kernel_rfl,?_⟩
  conv=>whnf
  (refine Or.inr ⟨[],[15,12,13,14],by kernel_rfl,?_⟩;(conv=>whnf);refine ⟨[],_,_,_,_,⟨S8 b o hc j8 a7 hn,rfl,rfl,by kernel_rfl⟩,?_⟩)
  conv=>whnf
  (repeat' ((first|refine y7 ?_|refine y8 ?_|refine lD ?_|refine lN ?_|refine kL ?_|fail);conv=>whnf))
  (refine Or.inr ⟨[],[27,25],by kernel_rfl,?_⟩;(conv=>whnf);refine ⟨[15,12,13,14,26],_,_,_,_,⟨cO b 2,rfl,rfl,by kernel_rfl⟩,?_⟩)
  conv=>whnf
  (repeat' ((first|refine aU fun hh=>?_|refine aV fun hh=>?_|refine aS (fun hh=>?_) fun hh=>?_|refine kR ?_|((try refine Or.inl ?_;conv=>whnf);(try refine ⟨false,?_⟩;conv=>whnf);refine ⟨_,by exact c1 _,?_⟩)|fail)<;>conv=>whnf))
  refine ⟨A2,?_⟩
  conv=>whnf
  (repeat' ((first|refine aU fun hh=>?_|refine aV fun hh=>?_|refine aS (fun hh=>?_) fun hh=>?_|refine kR ?_|fail)<;>conv=>whnf))
  (refine Or.inr ⟨[],[],by kernel_rfl,?_⟩;(conv=>whnf);refine ⟨[15,12,13,14],_,_,_,_,⟨r,rfl,rfl,by kernel_rfl⟩,?_⟩)
  conv=>whnf
  refine ⟨ai ((mC b (A4 b.b8)).b8.getD a7.toNat r9) 3,⟨rfl,rfl,IM⟩,?_⟩
  conv=>whnf
  refine ⟨[12,13,14],by kernel_rfl,?_⟩
  conv=>whnf
  exact ⟨rfl,rfl⟩
 ·have r:=so b o.r (fun m hm=>KK ha m hm)
  have e:fF b a7=Rk b a7.toNat 3:=by unfold fF K6;rw [if_neg ha]
  rw [e]
  have IM:=A2
  refine pW Tryz.func230 ⟨by kernel_rfl,?_⟩
  conv=>whnf
  (refine Or.inr ⟨[],[15,12,13,14],by kernel_rfl,?_⟩;(conv=>whnf);refine ⟨[],_,_,_,_,⟨S8 b o hc j8 a7 hn,rfl,rfl,by kernel_rfl⟩,?_⟩)
  conv=>whnf
  (repeat' ((first|refine y7 ?_|refine y8 ?_|refine lD ?_|refine lN ?_|refine kL ?_|fail);conv=>whnf))
  (refine Or.inr ⟨[],[27,25],by kernel_rfl,?_⟩;(conv=>whnf);refine ⟨[15,12,13,14,26],_,_,_,_,⟨cO b 2,rfl,rfl,by kernel_rfl⟩,?_⟩)
  conv=>whnf
  (repeat' ((first|refine aU fun hh=>?_|refine aV fun hh=>?_|refine aS (fun hh=>?_) fun hh=>?_|refine kR ?_|((try refine Or.inl ?_;conv=>whnf);(try refine ⟨false,?_⟩;conv=>whnf);refine ⟨_,by exact c1 _,?_⟩)|fail)<;>conv=>whnf))
  refine ⟨A2,?_⟩
  conv=>whnf
  (repeat' ((first|refine aU fun hh=>?_|refine aV fun hh=>?_|refine aS (fun hh=>?_) fun hh=>?_|refine kR ?_|fail)<;>conv=>whnf))
  (refine Or.inr ⟨[],[],by kernel_rfl,?_⟩;(conv=>whnf);refine ⟨[15,12,13,14],_,_,_,_,⟨r,rfl,rfl,by kernel_rfl⟩,?_⟩)
  conv=>whnf
  refine ⟨ai ((b).b8.getD a7.toNat r9) 3,⟨rfl,rfl,IM⟩,?_⟩
  conv=>whnf
  refine ⟨[12,13,14],by kernel_rfl,?_⟩
  conv=>whnf
  exact ⟨rfl,rfl⟩
theorem su (b:o7) (o:G8 b) (j8 a7:Int) (h:¬dq b j8 a7=0):PC Tryz.prog 230 [au b,i64 j8,i64 a7] (.tup [mB 0,i64 (dq b j8 a7)]):=by
 by_cases h1:E1 b=true/\dp b j8 a7
 ·unfold dq at h ⊢
  rw [if_pos h1] at h ⊢
  obtain ⟨hc,hn⟩:=h1
  have s:=G6 hc
  have c1:=fun u=>T3 b.keep b.next u b.p9 b.b8 b.log 2 (S7 o.u)
  have A2:a7.toNat < b.b8.length:=by have:=hn.2;omega
  by_cases tR:I7 [2] b.p9 j8=false
  ·rw [if_pos tR]
   refine pF Tryz.func230 ?_
   conv=>whnf
   (refine Or.inr ⟨[],[15,12,13,14],by kernel_rfl,?_⟩;(conv=>whnf);refine ⟨[],_,_,_,_,⟨S8 b o hc j8 a7 hn,rfl,rfl,by kernel_rfl⟩,?_⟩)
   conv=>whnf
   (repeat' ((first|refine y7 ?_|refine y8 ?_|refine lD ?_|refine lN ?_|refine kL ?_|fail);conv=>whnf))
   (refine Or.inr ⟨[],[27,25],by kernel_rfl,?_⟩;(conv=>whnf);refine ⟨[15,12,13,14,26],_,_,_,_,⟨cO b 2,rfl,rfl,by kernel_rfl⟩,?_⟩)
   conv=>whnf
   (repeat' ((first|refine aU fun hh=>?_|refine aV fun hh=>?_|refine aS (fun hh=>?_) fun hh=>?_|refine kR ?_|((try refine Or.inl ?_;conv=>whnf);(try refine ⟨false,?_⟩;conv=>whnf);refine ⟨_,by exact c1 _,?_⟩)|fail)<;>conv=>whnf))
   all_goals rfl
  ·rw [if_neg tR] at h ⊢
   have hmt:I7 [2] b.p9 j8=true:=by simpa using tR
   have h2:¬(b.b8.getD a7.toNat r9).state=2:=fun q=>h (if_neg (fun e=>e q))
   rw [if_pos h2]
   refine pF Tryz.func230 ?_
   conv=>whnf
   (refine Or.inr ⟨[],[15,12,13,14],by kernel_rfl,?_⟩;(conv=>whnf);refine ⟨[],_,_,_,_,⟨S8 b o hc j8 a7 hn,rfl,rfl,by kernel_rfl⟩,?_⟩)
   conv=>whnf
   (repeat' ((first|refine y7 ?_|refine y8 ?_|refine lD ?_|refine lN ?_|refine kL ?_|fail);conv=>whnf))
   (refine Or.inr ⟨[],[27,25],by kernel_rfl,?_⟩;(conv=>whnf);refine ⟨[15,12,13,14,26],_,_,_,_,⟨cO b 2,rfl,rfl,by kernel_rfl⟩,?_⟩)
   conv=>whnf
   (repeat' ((first|refine aU fun hh=>?_|refine aV fun hh=>?_|refine aS (fun hh=>?_) fun hh=>?_|refine kR ?_|((try refine Or.inl ?_;conv=>whnf);(try refine ⟨false,?_⟩;conv=>whnf);refine ⟨_,by exact c1 _,?_⟩)|fail)<;>conv=>whnf))
   refine ⟨A2,?_⟩
   conv=>whnf
   (repeat' ((first|refine aU fun hh=>?_|refine aV fun hh=>?_|refine aS (fun hh=>?_) fun hh=>?_|refine kR ?_|fail)<;>conv=>whnf))
   all_goals rfl
 ·have c:=pn b o j8 a7 h1
  unfold dq
  rw [if_neg h1]
  by_cases hc:E1 b=true
  ·rw [if_pos hc] at c ⊢
   refine pF Tryz.func230 ?_
   conv=>whnf
   (repeat' ((first|refine y7 ?_|refine y8 ?_|((try refine Or.inl ?_;conv=>whnf);(try refine ⟨false,?_⟩;conv=>whnf);refine ⟨_,by exact c,?_⟩)|refine lD ?_|refine lN ?_|refine kL ?_|fail);conv=>whnf))
   all_goals rfl
  ·rw [if_neg hc] at c ⊢
   refine pF Tryz.func230 ?_
   conv=>whnf
   (repeat' ((first|refine y7 ?_|refine y8 ?_|((try refine Or.inl ?_;conv=>whnf);(try refine ⟨false,?_⟩;conv=>whnf);refine ⟨_,by exact c,?_⟩)|refine lD ?_|refine lN ?_|refine kL ?_|fail);conv=>whnf))
   all_goals rfl
def pK {α:Type} (f:α->α) (d:α) (l:List α):Nat->List α
 | 0=>l
 | k + 1=>(pK f d l k).set k (f ((pK f d l k).getD k d))
theorem gI {α:Type} (f:α->α) (d:α) (l:List α):∀ k,(pK f d l k).length=l.length
 | 0=>rfl
 | k + 1=>by
  show ((pK f d l k).set k _).length=_
  rw [List.length_set,gI f d l k]
theorem V3 {α:Type} {d y:α} {l:List α} {j:Nat} (h:j < l.length):(l.set j y).getD j d=y:=by
 rw [List.getD,List.getElem?_set_self h];rfl
theorem xB {α:Type} (f:α->α) (d:α) (l:List α):∀ k i,k<=i->(pK f d l k).getD i d=l.getD i d
 | 0,_,_=>rfl
 | k + 1,i,h=>by
  show ((pK f d l k).set k _).getD i d=_
  rw [List.getD,List.getElem?_set_ne (by omega)]
  exact xB f d l k i (by omega)

end Go.Proofs.Tryz.My
