/- Helper lemmas. -/
import Derived.Test.YtpmmjoccamogdaaGreatMyBpA
import Derived.Test.YtpmmjoccamogdaaGreatEvDel
set_option linter.unusedVariables false
set_option linter.unusedSimpArgs false
set_option maxRecDepth 100000
set_option maxHeartbeats 0
namespace Go.Proofs.Tryz.My
open Go Go.Ev
def IT:Go.Shelf.Ren:=⟨fun n=>match n with|21=>44|27=>69|28=>70|35=>88|39=>99|n=>n,fun t=>match t with|22=>34|t=>t,fun n=>n⟩
theorem Ge:Go.Proofs.Lays2.n21 Tryz.prog IT where
 mixed:=hm
 f21:=by kernel_rfl
 f27:=by kernel_rfl
 f28:=by kernel_rfl
 f35:=by kernel_rfl
 f39:=by kernel_rfl
 t0:=by kernel_rfl
 a0:=fun w=>by kernel_rfl
 z0:=fun w=>by kernel_rfl
 v0:=fun w=>by kernel_rfl
 t3:=by kernel_rfl
 a3:=fun w=>by kernel_rfl
 z3:=fun w=>by kernel_rfl
 v3:=fun w=>by kernel_rfl
 t4:=by kernel_rfl
 a4:=fun w=>by kernel_rfl
 z4:=fun w=>by kernel_rfl
 v4:=fun w=>by kernel_rfl
 t22:=by kernel_rfl
 a22:=fun w=>by kernel_rfl
 z22:=fun w=>by kernel_rfl
 v22:=fun w=>by kernel_rfl
 i3:=by kernel_rfl
theorem DU (zs:List Int) (u:Int) (k:Nat) (hk:k<=zs.length) (hl:zs.length < 1073741824):PW Tryz.prog 44 [.own 0,i64 k,.own 1] [.vec 3 1 0 eI zs,.lit 3 1 [[i64 u]]] (.own 2) [.none,.none,.vec 3 1 0 eI (zs.take k++u :: zs.drop k)] :=
 uU Ge Tryz.func44 (by kernel_rfl) rfl zs u k hk hl 3
def df (l:List Int) (u:Int):List Int:=l.take (cE l u)++u :: l.drop (cE l u)
theorem qL (l:List Int) (u:Int):(df l u).length=l.length + 1:=by
 have:=oB l u
 unfold df
 simp
 omega
def qM (b:b9) (b8:Int) (x:x7):Bool:=x.k9.contains b8 || (decide (b8=x.author) || !C7 [2,3] b.k8 b8)
def kF (us:List Int) (x:x7) (b8:Int):x7:=⟨x.author,x.o6,df x.k9 b8,if D9 us (df x.k9 b8)=true then 2 else x.state⟩
def By (b:b9) (i:Nat) (y:x7):b9:=⟨b.keep,b.k8,b.a7.set i y,b.next,b.log⟩
def fB (b:b9) (b8 a8:Int):b9:=By b a8.toNat (kF b.k8 (b.a7.getD a8.toNat n5) b8)
def lL (b:b9) (b8 a8:Int):Int :=
 if A8 b=true/\ae b b8 a8 then (if qM b b8 (b.a7.getD a8.toNat n5)=true then 100 else if (b.a7.getD a8.toNat n5).state > 2 then 101 else 0) else (if A8 b then 6 else 8)
theorem gJ {b:b9} {b8 a8:Int} (h:lL b b8 a8=0):A8 b=true/\ae b b8 a8/\qM b b8 (b.a7.getD a8.toNat n5)=false/\¬(b.a7.getD a8.toNat n5).state > 2:=by
 unfold lL at h
 by_cases h1:A8 b=true/\ae b b8 a8
 ·rw [if_pos h1] at h
  by_cases h2:qM b b8 (b.a7.getD a8.toNat n5)=true
  ·rw [if_pos h2] at h;cases h
  ·rw [if_neg h2] at h
   by_cases h3:(b.a7.getD a8.toNat n5).state > 2
   ·rw [if_pos h3] at h;cases h
   ·exact ⟨h1.1,h1.2,by simpa using h2,h3⟩
 ·rw [if_neg h1] at h
  split at h<;>cases h
theorem iP {b:b9} {b8:Int} {x:x7} (h:qM b b8 x=false):x.k9.contains b8=false/\¬b8=x.author/\C7 [2,3] b.k8 b8=true:=by
 unfold qM at h
 simp only [Bool.or_eq_false_iff,decide_eq_false_iff_not,Bool.not_eq_false'] at h
 exact ⟨h.1,h.2.1,h.2.2⟩
theorem oG {b:b9} (h:A8 b=true) {i:Nat} (hi:i < b.a7.length):ir b.k8 (b.a7.getD i n5)=true/\gC b.k8 (b.a7.getD i n5)=true:=by
 simp only [A8,L5,Bool.and_eq_true] at h
 have h:=(qy (p:=fw b.k8) (d:=n5)).1 h.1.2.1 i hi
 unfold fw at h
 rw [Bool.and_eq_true] at h
 exact h
theorem oH (b:b9) (a c:Int):PW Tryz.prog 40 [.ptr 0 0 0 0,.own 4] (bV b++[.lit 5 1 [[u8 a],[u8 c]]]) (.fn (.func 65) [] [.ptr 5 0 0 0,.ptr 6 0 0 0]) (bV b++[.lit 5 1 [[u8 a],[u8 c]],.cells 80 [.ptr 0 0 0 0],.cells 24 [.own 4]]):=by
 refine M8 hm Tryz.func40 (by kernel_rfl) ⟨by kernel_rfl,?_⟩
 conv=>whnf
 refine ⟨[2,3],by kernel_rfl,?_⟩
 conv=>whnf
 exact ⟨rfl,rfl⟩
theorem oI (b:b9) (o:H5 b) (b8 a8:Int) (h:lL b b8 a8=0):PW Tryz.prog 22 [G4 b,i64 b8,i64 a8] [] (.tup [kq (fB b b8 a8),i64 0]) (kr (fB b b8 a8)):=by
 obtain ⟨hc,hn,hb,h2⟩:=gJ h
 clear h
 obtain ⟨pd,X0,Et⟩:=iP hb
 have s:=B9 hc
 have u2:a8.toNat < b.a7.length:=by have:=hn.2;omega
 have hi:0<=a8/\a8 < (b.a7.length:Int):=by have:=hn.2;omega
 have hx:=o.a a8.toNat
 have c1:=fun u=>km b.keep b.next u b.k8 b.a7 b.log 2 3 (R4 o.u)
 have c2:=tZ (b.a7.getD a8.toNat n5).k9 (yU (oG hc u2).1) (by omega) b8
 rw [pd] at c2
 have IQ:=qz (oG hc u2).1
 obtain ⟨R,hR⟩:∃ R:x7,R=⟨(b.a7.getD a8.toNat n5).author,(b.a7.getD a8.toNat n5).o6,df (b.a7.getD a8.toNat n5).k9 b8,(b.a7.getD a8.toNat n5).state⟩:=⟨_,rfl⟩
 have Kd:a8.toNat < (b.a7.set a8.toNat R).length:=by rw [List.length_set];exact u2
 have IU:(b.a7.set a8.toNat R).getD a8.toNat n5=R:=P7 u2
 have IV:R.k9=df (b.a7.getD a8.toNat n5).k9 b8:=by rw [hR]
 have c4:=mH b.keep b.next b.k8 (b.a7.set a8.toNat R) b.log (R4 o.u) ((b.a7.set a8.toNat R).getD a8.toNat n5).k9 (by rw [IU,IV,qL];omega)
 have hE:D9 b.k8 ((b.a7.set a8.toNat R).getD a8.toNat n5).k9=D9 b.k8 (df (b.a7.getD a8.toNat n5).k9 b8):=by rw [IU,IV]
 rw [hE] at c4
 refine pW Tryz.func22 ⟨by kernel_rfl,?_⟩
 conv=>whnf
 (refine Or.inr ⟨[],[21,18,19,20],by kernel_rfl,?_⟩;(conv=>whnf);refine ⟨[],_,_,_,_,⟨K5 b o hc b8 a8 hn,rfl,rfl,by kernel_rfl⟩,?_⟩)
 conv=>whnf
 (repeat' ((first|refine u6 ?_|refine u7 ?_|refine lD ?_|refine lN ?_|refine kL ?_|fail);conv=>whnf))
 (repeat' ((first|refine aU fun hh=>?_|refine aV fun hh=>?_|refine aS (fun hh=>?_) fun hh=>?_|refine kR ?_|((try refine Or.inl ?_;conv=>whnf);(try refine ⟨false,?_⟩;conv=>whnf);refine ⟨_,by first|exact c2|exact c1 _,?_⟩)|fail)<;>conv=>whnf))
 refine ⟨u2,?_⟩
 conv=>whnf
 refine Or.inl ?_
 conv=>whnf
 (repeat' ((first|refine aU fun hh=>?_|refine aV fun hh=>?_|refine aS (fun hh=>?_) fun hh=>?_|refine kR ?_|((try refine Or.inl ?_;conv=>whnf);(try refine ⟨false,?_⟩;conv=>whnf);refine ⟨_,by first|exact c2|exact c1 _,?_⟩)|fail)<;>conv=>whnf))
 refine ⟨u2,?_⟩
 conv=>whnf
 (repeat' ((first|refine aU fun hh=>?_|refine aV fun hh=>?_|refine aS (fun hh=>?_) fun hh=>?_|refine kR ?_|((try refine Or.inl ?_;conv=>whnf);(try refine ⟨false,?_⟩;conv=>whnf);refine ⟨_,by first|exact c2|exact c1 _,?_⟩)|fail)<;>conv=>whnf))
 (refine Or.inr ⟨[],[50,48],by kernel_rfl,?_⟩;(conv=>whnf);refine ⟨[21,18,19,20,46],_,_,_,_,⟨oH b 2 3,rfl,rfl,by kernel_rfl⟩,?_⟩)
 conv=>whnf
 (repeat' ((first|refine aU fun hh=>?_|refine aV fun hh=>?_|refine aS (fun hh=>?_) fun hh=>?_|refine kR ?_|((try refine Or.inl ?_;conv=>whnf);(try refine ⟨false,?_⟩;conv=>whnf);refine ⟨_,by exact c1 _,?_⟩)|fail)<;>conv=>whnf))
 refine ⟨u2,?_⟩
 conv=>whnf
 (repeat' ((first|refine aU fun hh=>?_|refine aV fun hh=>?_|refine aS (fun hh=>?_) fun hh=>?_|refine kR ?_|fail)<;>conv=>whnf))
 refine ⟨u2,?_⟩
 conv=>whnf
 refine Or.inr ⟨19,a8.toNat,63,[64],by kernel_rfl,?_⟩
 conv=>whnf
 refine ⟨⟨u2,rfl⟩,?_⟩
 conv=>whnf
 refine ⟨[],[62],by kernel_rfl,?_⟩
 conv=>whnf
 refine ⟨[63,67],_,_,_,_,⟨DU (b.a7.getD a8.toNat n5).k9 b8 (cE (b.a7.getD a8.toNat n5).k9 b8) (oB _ _) (by omega),rfl,rfl,by kernel_rfl⟩,?_⟩
 conv=>whnf
 refine ⟨df (b.a7.getD a8.toNat n5).k9 b8,R,⟨rfl,IV,by rw [hR];rfl,u2,rfl⟩,?_⟩
 conv=>whnf
 refine ⟨Kd,?_⟩
 conv=>whnf
 refine Or.inl ?_
 conv=>whnf
 by_cases he:D9 b.k8 (df (b.a7.getD a8.toNat n5).k9 b8)=true
 ·have hB:fB b b8 a8=⟨b.keep,b.k8,(b.a7.set a8.toNat R).set a8.toNat (ad ((b.a7.set a8.toNat R).getD a8.toNat n5) 2),b.next,b.log⟩:=by
   unfold fB By kF
   rw [if_pos he,List.set_set,IU,hR]
   rfl
  rw [hB]
  rw [he] at c4
  (repeat' ((first|refine u6 ?_|refine u7 ?_|((try refine Or.inl ?_;conv=>whnf);(try refine ⟨false,?_⟩;conv=>whnf);refine ⟨_,by exact c4,?_⟩)|refine lD ?_|refine lN ?_|refine kL ?_|fail);conv=>whnf))
  (repeat' ((first|refine aU fun hh=>?_|refine aV fun hh=>?_|refine aS (fun hh=>?_) fun hh=>?_|refine kR ?_|fail)<;>conv=>whnf))
  refine ⟨ad ((b.a7.set a8.toNat R).getD a8.toNat n5) 2,⟨rfl,rfl,Kd⟩,?_⟩
  conv=>whnf
  refine ⟨[18,19,20],by kernel_rfl,?_⟩
  conv=>whnf
  exact ⟨rfl,rfl⟩
 ·have hB:fB b b8 a8=⟨b.keep,b.k8,b.a7.set a8.toNat R,b.next,b.log⟩:=by
   unfold fB By kF
   rw [if_neg he,hR]
  rw [hB]
  have GP:D9 b.k8 (df (b.a7.getD a8.toNat n5).k9 b8)=false:=by simpa using he
  rw [GP] at c4
  (repeat' ((first|refine u6 ?_|refine u7 ?_|((try refine Or.inl ?_;conv=>whnf);(try refine ⟨false,?_⟩;conv=>whnf);refine ⟨_,by exact c4,?_⟩)|refine lD ?_|refine lN ?_|refine kL ?_|fail);conv=>whnf))
  (repeat' ((first|refine aU fun hh=>?_|refine aV fun hh=>?_|refine aS (fun hh=>?_) fun hh=>?_|refine kR ?_|fail)<;>conv=>whnf))
  refine ⟨[18,19,20],by kernel_rfl,?_⟩
  conv=>whnf
  exact ⟨rfl,rfl⟩
theorem aA (b:b9) (o:H5 b) (b8 a8:Int) (h:¬lL b b8 a8=0):PC Tryz.prog 22 [G4 b,i64 b8,i64 a8] (.tup [aZ 0,i64 (lL b b8 a8)]):=by
 by_cases h1:A8 b=true/\ae b b8 a8
 ·unfold lL at h ⊢
  rw [if_pos h1] at h ⊢
  obtain ⟨hc,hn⟩:=h1
  have s:=B9 hc
  have u2:a8.toNat < b.a7.length:=by have:=hn.2;omega
  have hi:0<=a8/\a8 < (b.a7.length:Int):=by have:=hn.2;omega
  have hx:=o.a a8.toNat
  have c1:=fun u=>km b.keep b.next u b.k8 b.a7 b.log 2 3 (R4 o.u)
  have c2:=tZ (b.a7.getD a8.toNat n5).k9 (yU (oG hc u2).1) (by omega) b8
  by_cases hb:qM b b8 (b.a7.getD a8.toNat n5)=true
  ·rw [if_pos hb]
   unfold qM at hb
   by_cases q1:(b.a7.getD a8.toNat n5).k9.contains b8=true
   ·rw [q1] at c2
    clear hb q1
    refine pF Tryz.func22 ?_
    conv=>whnf
    (refine Or.inr ⟨[],[21,18,19,20],by kernel_rfl,?_⟩;(conv=>whnf);refine ⟨[],_,_,_,_,⟨K5 b o hc b8 a8 hn,rfl,rfl,by kernel_rfl⟩,?_⟩)
    conv=>whnf
    (repeat' ((first|refine u6 ?_|refine u7 ?_|refine lD ?_|refine lN ?_|refine kL ?_|fail);conv=>whnf))
    (repeat' ((first|refine aU fun hh=>?_|refine aV fun hh=>?_|refine aS (fun hh=>?_) fun hh=>?_|refine kR ?_|fail)<;>conv=>whnf))
    refine ⟨u2,?_⟩
    conv=>whnf
    refine Or.inl ?_
    conv=>whnf
    (repeat' ((first|refine aU fun hh=>?_|refine aV fun hh=>?_|refine aS (fun hh=>?_) fun hh=>?_|refine kR ?_|((try refine Or.inl ?_;conv=>whnf);(try refine ⟨false,?_⟩;conv=>whnf);refine ⟨_,by exact c2,?_⟩)|fail)<;>conv=>whnf))
    all_goals rfl
   ·have q1:(b.a7.getD a8.toNat n5).k9.contains b8=false:=by simpa using q1
    rw [q1] at c2 hb
    rw [Bool.false_or] at hb
    by_cases q2:b8=(b.a7.getD a8.toNat n5).author
    ·clear hb q1
     refine pF Tryz.func22 ?_
     conv=>whnf
     (refine Or.inr ⟨[],[21,18,19,20],by kernel_rfl,?_⟩;(conv=>whnf);refine ⟨[],_,_,_,_,⟨K5 b o hc b8 a8 hn,rfl,rfl,by kernel_rfl⟩,?_⟩)
     conv=>whnf
     (repeat' ((first|refine u6 ?_|refine u7 ?_|refine lD ?_|refine lN ?_|refine kL ?_|fail);conv=>whnf))
     (repeat' ((first|refine aU fun hh=>?_|refine aV fun hh=>?_|refine aS (fun hh=>?_) fun hh=>?_|refine kR ?_|fail)<;>conv=>whnf))
     refine ⟨u2,?_⟩
     conv=>whnf
     refine Or.inl ?_
     conv=>whnf
     (repeat' ((first|refine aU fun hh=>?_|refine aV fun hh=>?_|refine aS (fun hh=>?_) fun hh=>?_|refine kR ?_|((try refine Or.inl ?_;conv=>whnf);(try refine ⟨false,?_⟩;conv=>whnf);refine ⟨_,by exact c2,?_⟩)|fail)<;>conv=>whnf))
     refine ⟨u2,?_⟩
     conv=>whnf
     (repeat' ((first|refine aU fun hh=>?_|refine aV fun hh=>?_|refine aS (fun hh=>?_) fun hh=>?_|refine kR ?_|fail)<;>conv=>whnf))
     all_goals rfl
    ·have q3:C7 [2,3] b.k8 b8=false:=by
      rw [decide_eq_false q2,Bool.false_or,Bool.not_eq_true'] at hb
      exact hb
     clear hb q1
     refine pF Tryz.func22 ?_
     conv=>whnf
     (refine Or.inr ⟨[],[21,18,19,20],by kernel_rfl,?_⟩;(conv=>whnf);refine ⟨[],_,_,_,_,⟨K5 b o hc b8 a8 hn,rfl,rfl,by kernel_rfl⟩,?_⟩)
     conv=>whnf
     (repeat' ((first|refine u6 ?_|refine u7 ?_|refine lD ?_|refine lN ?_|refine kL ?_|fail);conv=>whnf))
     (repeat' ((first|refine aU fun hh=>?_|refine aV fun hh=>?_|refine aS (fun hh=>?_) fun hh=>?_|refine kR ?_|fail)<;>conv=>whnf))
     refine ⟨u2,?_⟩
     conv=>whnf
     refine Or.inl ?_
     conv=>whnf
     (repeat' ((first|refine aU fun hh=>?_|refine aV fun hh=>?_|refine aS (fun hh=>?_) fun hh=>?_|refine kR ?_|((try refine Or.inl ?_;conv=>whnf);(try refine ⟨false,?_⟩;conv=>whnf);refine ⟨_,by exact c2,?_⟩)|fail)<;>conv=>whnf))
     refine ⟨u2,?_⟩
     conv=>whnf
     (repeat' ((first|refine aU fun hh=>?_|refine aV fun hh=>?_|refine aS (fun hh=>?_) fun hh=>?_|refine kR ?_|fail)<;>conv=>whnf))
     (refine Or.inr ⟨[],[50,48],by kernel_rfl,?_⟩;(conv=>whnf);refine ⟨[21,18,19,20,46],_,_,_,_,⟨oH b 2 3,rfl,rfl,by kernel_rfl⟩,?_⟩)
     conv=>whnf
     (repeat' ((first|refine aU fun hh=>?_|refine aV fun hh=>?_|refine aS (fun hh=>?_) fun hh=>?_|refine kR ?_|((try refine Or.inl ?_;conv=>whnf);(try refine ⟨false,?_⟩;conv=>whnf);refine ⟨_,by exact c1 _,?_⟩)|fail)<;>conv=>whnf))
     all_goals rfl
  ·have X0:qM b b8 (b.a7.getD a8.toNat n5)=false:=by simpa using hb
   rw [if_neg hb] at h ⊢
   obtain ⟨pd,X0,Et⟩:=iP X0
   rw [pd] at c2
   have h2:(b.a7.getD a8.toNat n5).state > 2:=Decidable.byContradiction fun q=>h (if_neg q)
   rw [if_pos h2]
   clear h hb pd
   refine pF Tryz.func22 ?_
   conv=>whnf
   (refine Or.inr ⟨[],[21,18,19,20],by kernel_rfl,?_⟩;(conv=>whnf);refine ⟨[],_,_,_,_,⟨K5 b o hc b8 a8 hn,rfl,rfl,by kernel_rfl⟩,?_⟩)
   conv=>whnf
   (repeat' ((first|refine u6 ?_|refine u7 ?_|refine lD ?_|refine lN ?_|refine kL ?_|fail);conv=>whnf))
   (repeat' ((first|refine aU fun hh=>?_|refine aV fun hh=>?_|refine aS (fun hh=>?_) fun hh=>?_|refine kR ?_|fail)<;>conv=>whnf))
   refine ⟨u2,?_⟩
   conv=>whnf
   refine Or.inl ?_
   conv=>whnf
   (repeat' ((first|refine aU fun hh=>?_|refine aV fun hh=>?_|refine aS (fun hh=>?_) fun hh=>?_|refine kR ?_|((try refine Or.inl ?_;conv=>whnf);(try refine ⟨false,?_⟩;conv=>whnf);refine ⟨_,by exact c2,?_⟩)|fail)<;>conv=>whnf))
   refine ⟨u2,?_⟩
   conv=>whnf
   (repeat' ((first|refine aU fun hh=>?_|refine aV fun hh=>?_|refine aS (fun hh=>?_) fun hh=>?_|refine kR ?_|fail)<;>conv=>whnf))
   (refine Or.inr ⟨[],[50,48],by kernel_rfl,?_⟩;(conv=>whnf);refine ⟨[21,18,19,20,46],_,_,_,_,⟨oH b 2 3,rfl,rfl,by kernel_rfl⟩,?_⟩)
   conv=>whnf
   (repeat' ((first|refine aU fun hh=>?_|refine aV fun hh=>?_|refine aS (fun hh=>?_) fun hh=>?_|refine kR ?_|((try refine Or.inl ?_;conv=>whnf);(try refine ⟨false,?_⟩;conv=>whnf);refine ⟨_,by exact c1 _,?_⟩)|fail)<;>conv=>whnf))
   refine ⟨u2,?_⟩
   conv=>whnf
   (repeat' ((first|refine aU fun hh=>?_|refine aV fun hh=>?_|refine aS (fun hh=>?_) fun hh=>?_|refine kR ?_|fail)<;>conv=>whnf))
   all_goals rfl
 ·have c:=iu b o b8 a8 h1
  unfold lL
  rw [if_neg h1]
  by_cases hc:A8 b=true
  ·rw [if_pos hc] at c ⊢
   refine pF Tryz.func22 ?_
   conv=>whnf
   (repeat' ((first|refine u6 ?_|refine u7 ?_|((try refine Or.inl ?_;conv=>whnf);(try refine ⟨false,?_⟩;conv=>whnf);refine ⟨_,by exact c,?_⟩)|refine lD ?_|refine lN ?_|refine kL ?_|fail);conv=>whnf))
   all_goals rfl
  ·rw [if_neg hc] at c ⊢
   refine pF Tryz.func22 ?_
   conv=>whnf
   (repeat' ((first|refine u6 ?_|refine u7 ?_|((try refine Or.inl ?_;conv=>whnf);(try refine ⟨false,?_⟩;conv=>whnf);refine ⟨_,by exact c,?_⟩)|refine lD ?_|refine lN ?_|refine kL ?_|fail);conv=>whnf))
   all_goals rfl
theorem R5 (b:b9) (o:H5 b) (I4:Int) (h:iI b I4=0):PC Tryz.prog 20 [G4 b,u8 I4] (.tup [G4 (yQ b I4),i64 b.k8.length,i64 0]):=(oz b o I4 h).toPC 6 (by kernel_rfl)
theorem kG (b:b9) (o:H5 b) (b8:Int) (g:H4) (h:kt b b8 g=0):PC Tryz.prog 21 [G4 b,i64 b8,DF g] (.tup [G4 (lF b b8 g),i64 b.a7.length,i64 0]):=(sT b o b8 g h).toPC 6 (by kernel_rfl)
theorem bJ (b:b9) (o:H5 b) (b8 a8:Int) (h:lL b b8 a8=0):PC Tryz.prog 22 [G4 b,i64 b8,i64 a8] (.tup [G4 (fB b b8 a8),i64 0]):=(oI b o b8 a8 h).toPC 6 (by kernel_rfl)
theorem dx (b:b9) (o:H5 b) (b8 a8:Int) (h:fA b b8 a8=0):PC Tryz.prog 16 [G4 b,i64 b8,i64 a8] (.tup [G4 (dw b a8),i64 0]):=(lH b o b8 a8 h).toPC 6 (by kernel_rfl)
theorem qN (b:b9) (o:H5 b) (b8:Int) (h:kz b b8=0):PC Tryz.prog 23 [G4 b,i64 b8] (.tup [G4 (fx b (A2 b.a7)),i64 0]):=(qG b o b8 h).toPC 6 (by kernel_rfl)
theorem fC (b:b9) (o:H5 b) (b8 seq:Int) (h:yW b b8 seq=0):PC Tryz.prog 17 [G4 b,i64 b8,i64 seq] (.tup [G4 (P9 b seq true),i64 0]):=(oE b o b8 seq h).toPC 6 (by kernel_rfl)
theorem qO (b:b9) (o:H5 b) (b8 seq:Int) (h:yX b b8 seq=0):PC Tryz.prog 24 [G4 b,i64 b8,i64 seq] (.tup [G4 (P9 b seq false),i64 0]):=(qK b o b8 seq h).toPC 6 (by kernel_rfl)
def IW:Go.Shelf.Ren:=⟨fun n=>match n with|45=>37|n=>n,fun t=>match t with|22=>26|23=>52|t=>t,fun n=>n⟩
theorem Gf:Go.Proofs.SlLaysE0.n45 Tryz.prog IW where
 mixed:=hm
 f45:=⟨Tryz.f37.name,by kernel_rfl,by kernel_rfl⟩
 t0:=by kernel_rfl
 a0:=fun w=>by kernel_rfl
 z0:=fun w=>by kernel_rfl
 v0:=fun w=>by kernel_rfl
 t3:=by kernel_rfl
 a3:=fun w=>by kernel_rfl
 z3:=fun w=>by kernel_rfl
 v3:=fun w=>by kernel_rfl
 t4:=by kernel_rfl
 a4:=fun w=>by kernel_rfl
 z4:=fun w=>by kernel_rfl
 v4:=fun w=>by kernel_rfl
 t22:=by kernel_rfl
 a22:=fun w=>by kernel_rfl
 z22:=fun w=>by kernel_rfl
 v22:=fun w=>by kernel_rfl
def fD (l:List A1) (i:Nat):List A1:=l.take i++l.drop (i + 1)
theorem ub (l:List A1) (i:Nat) (hi:i < l.length):PW Tryz.prog 37 [.own 0,i64 i,i64 ((i:Int) + 1)] [.vec 52 6 o8 V8 l] (.own 1) [.none,.vec 52 6 o8 V8 (fD l i)] :=
 sn Gf Tryz.func37 (by kernel_rfl) rfl (fun w=>by kernel_rfl) ((Tryz.prog.info? 52).get (by kernel_rfl)) (by kernel_rfl) (by kernel_rfl) (.agg #[.int .i64 0,.int .i64 0,.int .i64 0,.slice none 0 0,.int .u8 0,.bool false]) (fun w=>by kernel_rfl) (by kernel_rfl) (fun v hv=>by
  have h:v ∈ [Value.int .i64 0,.int .i64 0,.int .i64 0,.slice none 0 0,.int .u8 0,.bool false]:=hv
  simp only [List.mem_cons,List.not_mem_nil,or_false] at h
  rcases h with h|h|h|h|h|h<;>rw [h]<;>rfl) 52 o8 V8 (fun y j hj=>by
  match j,hj with
  | 0,_=>rfl
  | 1,_=>rfl
  | 2,_=>rfl
  | 3,_=>rfl
  | 4,_=>rfl
  | 5,_=>rfl) l i hi
theorem yY (x:A1) (hx:x.j8.length < 2 ^ 20):PC Tryz.prog 61 [wk x] (wk x):=(qD x hx).toPC 6 (by kernel_rfl)
theorem vO (l:List A1) (hl:l.length < 2 ^ 16) (ha:∀ i,(l.getD i o8).j8.length < 2 ^ 20):PW Tryz.prog 60 [vG l,.fn (.func 61) [] []] [] (.own 0) [.vec 52 6 o8 V8 l]:=by
 have w1:IntKind.i64.wrap ((l.length:Int) + 1)=(l.length:Int) + 1:=L9 _ (by omega) (by omega)
 refine pW Tryz.func60 ⟨by kernel_rfl,?_⟩
 conv=>whnf
 refine ⟨.vec 52 6 o8 V8 [],⟨⟨rfl,rfl,rfl⟩,by omega,by omega,of_decide_eq_true (by kernel_rfl)⟩,?_⟩
 conv=>whnf
 refine Or.inr ⟨Nat,[14],[],[(5,⟨A1,52,6,o8,V8⟩)],fun i=>[i64 i],fun _=>[],fun i=>[.vec 52 6 o8 V8 (l.take i)],fun i=>l.length - i,fun i=>i<=l.length,?_⟩
 conv=>whnf
 refine ⟨⟨0,?_⟩,?_⟩
 ·(conv=>whnf)
  exact kK ⟨Nat.zero_le _,rfl,rfl,rfl⟩
 ·intro j hj
  conv=>whnf
  refine ⟨fun h=>?_,fun h=>?_⟩
  ·have h:=of_decide_eq_true h
   have rq:j < l.length:=by omega
   have hk:(l.take j).length=j:=by rw [List.length_take];omega
   conv=>whnf
   refine ⟨⟨by omega,by omega⟩,?_⟩
   conv=>whnf
   (repeat' ((first|refine u6 ?_|refine u7 ?_|((try refine Or.inl ?_;conv=>whnf);(try refine ⟨false,?_⟩;conv=>whnf);refine ⟨_,by exact yY _ (ha _),?_⟩)|refine lD ?_|refine lN ?_|refine kL ?_|fail);conv=>whnf))
   refine ⟨⟨A1,6,o8,V8,l.take j⟩,[l.getD j o8],rfl,rfl,⟨rfl,rfl⟩,?_,?_,fun y _=>⟨rfl,rfl,rfl⟩,?_⟩
   ·show ((l.take j).length + 1) * 56<=_;rw [hk];omega
   ·show (l.take j).length + 1<=_;rw [hk];omega
   conv=>whnf
   refine ⟨j + 1,?_⟩
   conv=>whnf
   refine kK ⟨⟨?_,?_⟩,?_,rfl,?_⟩
   ·show l.length - (j + 1) < l.length - j;omega
   ·show j + 1<=l.length;omega
   ·rw [L9 _ (by omega) (by omega)];rfl
   ·show [Row.vec 52 6 o8 V8 (l.take j++[l.getD j o8])]=[Row.vec 52 6 o8 V8 (l.take (j + 1))]
    rw [List.take_add_one,List.getElem?_eq_getElem rq]
    simp [List.getD,rq]
  ·have h:=of_decide_eq_false h
   have ej:l.take j=l:=List.take_of_length_le (by omega)
   rw [ej]
   conv=>whnf
   refine ⟨[5],by kernel_rfl,?_⟩
   conv=>whnf
   exact ⟨rfl,rfl⟩
def IX (b:b9):List Row:=[.cells 86 [i64 b.keep,.own 1,.own 2,i64 b.next,.own 3],.vec 5 1 0 e8 b.k8,.nest 54 13 11 3 n5 iH x7.k9 none b.a7,.vec 52 6 o8 V8 b.log]
theorem U7 (b:b9) (o:H5 b) (h:A8 b=true):PW Tryz.prog 31 [G4 b] [] (.tup [.ptr 0 0 0 0,i64 0]) (IX b):=by
 have c:PC Tryz.prog 56 [G4 b] (i64 0):=by have c:=cP b o;rwa [if_pos h] at c
 have s:=B9 h
 refine pW Tryz.func31 ⟨by kernel_rfl,?_⟩
 conv=>whnf
 (repeat' ((first|refine u6 ?_|refine u7 ?_|((try refine Or.inl ?_;conv=>whnf);(try refine ⟨false,?_⟩;conv=>whnf);refine ⟨_,by exact c,?_⟩)|refine lD ?_|refine lN ?_|refine kL ?_|fail);conv=>whnf))
 (refine Or.inr ⟨[],[12],by kernel_rfl,?_⟩;(conv=>whnf);refine ⟨[],_,_,_,_,⟨mJ b.k8 o.u,rfl,rfl,by kernel_rfl⟩,?_⟩)
 conv=>whnf
 (refine Or.inr ⟨[],[16],by kernel_rfl,?_⟩;(conv=>whnf);refine ⟨[],_,_,_,_,⟨qE b.a7 (by omega) o.a,rfl,rfl,by kernel_rfl⟩,?_⟩)
 conv=>whnf
 (refine Or.inr ⟨[],[20],by kernel_rfl,?_⟩;(conv=>whnf);refine ⟨[],_,_,_,_,⟨vO b.log (by omega) o.p,rfl,rfl,by kernel_rfl⟩,?_⟩)
 conv=>whnf
 refine ⟨[24,12,16,20],by kernel_rfl,?_⟩
 conv=>whnf
 exact ⟨rfl,rfl⟩
def W0 (x:A1):Bool := !x.disputed
theorem gK (x:A1):PC Tryz.prog 36 [wk x] (.bool (W0 x)):=by
 refine pF Tryz.func36 ?_
 conv=>whnf
 try rfl
theorem mN (l:List A1) (hl:l.length < 2 ^ 40):PC Tryz.prog 35 [vG l,.fn (.func 36) [] []] (i64 (zQ W0 l)):=by
 refine pF Tryz.func35 ?_
 conv=>whnf
 refine Or.inr ⟨Nat,[8],[],[],fun k=>[i64 k],fun _=>[],fun _=>[],fun k=>l.length - k,fun k=>k<=l.length/\∀ m,m < k->W0 (l.getD m o8)=false,?_⟩
 conv=>whnf
 refine ⟨⟨0,?_⟩,?_⟩
 ·(conv=>whnf)
  exact kK ⟨⟨Nat.zero_le _,fun i hi=>absurd hi (Nat.not_lt_zero i)⟩,rfl,rfl,rfl⟩
 intro k hk
 conv=>whnf
 refine ⟨fun h=>?_,fun h=>?_⟩
 ·have h:=of_decide_eq_true h
  have cD:k < l.length:=by omega
  conv=>whnf
  refine ⟨⟨by omega,by omega⟩,?_⟩
  conv=>whnf
  rw [show Int.toNat (k:Int)=k from rfl]
  (repeat' (first|(refine ⟨_,by exact gK _,?_⟩;(conv=>whnf))|(refine Or.inl ?_;(conv=>whnf);refine ⟨_,by exact gK _,?_⟩;(conv=>whnf))|(refine Or.inl ?_;(conv=>whnf);refine ⟨false,?_⟩;(conv=>whnf);refine ⟨_,by exact gK _,?_⟩;(conv=>whnf))|(refine ⟨by kernel_rfl,?_⟩;(conv=>whnf))|fail))
  refine ⟨fun q1=>?_,fun q1=>?_⟩
  ·(conv=>whnf)
   exact congrArg i64 (ua cD q1 hk.2).symm
  ·refine ⟨k + 1,?_⟩
   conv=>whnf
   refine kK ⟨⟨?_,?_,?_⟩,?_,rfl,rfl⟩
   ·show l.length - (k + 1) < l.length - k;omega
   ·omega
   ·intro m h2
    by_cases e:m=k
    ·subst e;exact q1
    ·exact hk.2 m (by omega)
   ·rw [L9 _ (by omega) (by omega)];rfl
 ·have h:=of_decide_eq_false h
  conv=>whnf
  exact congrArg i64 (qI fun m h2=>hk.2 m (by omega)).symm
def kH (b:b9):H4:=(b.a7.getD (A2 b.a7) n5).o6
def lM (b:b9) (part:Int) (j8:List Int):A1:=⟨b.next,A2 b.a7,part,j8,(I3 (kH b) j8).2.1,false⟩
def kI (b:b9):List A1:=if (b.log.length:Int)=b.keep then fD b.log (b.log.findIdx W0) else b.log
def sU (b:b9) (part:Int) (j8:List Int):b9:=⟨b.keep,b.k8,b.a7,b.next + 1,kI b++[lM b part j8]⟩
def lO (b:b9) (part:Int) (j8:List Int):Int :=
 if A8 b then (if ¬(0<=part/\part<=1099511627776) then 2 else if ¬b.a7.any H6=true then 102 else if ¬(I3 (kH b) j8).2.2=0 then (I3 (kH b) j8).2.2 else
  if ((b.log.length:Int)=b.keep/\¬b.log.any W0=true)∨b.next=1099511627776 then 9 else 0) else 8
theorem gM {b:b9} {part:Int} {j8:List Int} (h:lO b part j8=0):A8 b=true/\(0<=part/\part<=1099511627776)/\b.a7.any H6=true/\(I3 (kH b) j8).2.2=0/\((b.log.length:Int)=b.keep->b.log.any W0=true)/\¬b.next=1099511627776:=by
 unfold lO at h
 by_cases h1:A8 b=true
 ·rw [if_pos h1] at h
  by_cases h2:0<=part/\part<=1099511627776
  ·rw [if_neg (fun q=>q h2)] at h
   by_cases h3:b.a7.any H6=true
   ·rw [if_neg (fun q=>q h3)] at h
    by_cases h4:(I3 (kH b) j8).2.2=0
    ·rw [if_neg (fun q=>q h4)] at h
     by_cases h5:((b.log.length:Int)=b.keep/\¬b.log.any W0=true)∨b.next=1099511627776
     ·rw [if_pos h5] at h;cases h
     ·exact ⟨h1,h2,h3,h4,fun e=>Decidable.byContradiction fun q=>h5 (.inl ⟨e,q⟩),fun e=>h5 (.inr e)⟩
    ·rw [if_pos h4] at h;exact absurd h h4
   ·rw [if_pos h3] at h;cases h
  ·rw [if_pos h2] at h;cases h
 ·rw [if_neg h1] at h;cases h
theorem mO {l:List A1} {i:Nat} (hi:i < l.length):(fD l i).length=l.length - 1:=by
 unfold fD
 simp
 omega
theorem qP {b:b9} (h:A8 b=true):0<=b.next/\b.next<=1099511627776:=by
 simp only [A8,bI,A0,Bool.and_eq_true,decide_eq_true_eq] at h
 omega
theorem DV:rZ .ff (.bool false):=fun F w v h=>by cases h;exact .bool _
theorem cF {xs ys:List AV} (hl:xs.length=ys.length) (h:∀ i,i < xs.length->rZ (xs.getD i .any) (ys.getD i .any)):rZ (.agg xs) (.agg ys)/\rZ (.tup xs) (.tup ys):=by
 constructor
 ·intro F w v hv
  cases hv with
  | agg h1 h2=>exact .agg (by rw [<- hl];exact h1) fun i hi=>h i (by omega) _ _ _ (h2 i (by omega))
 ·intro F w v hv
  cases hv with
  | tup h1 h2=>exact .tup (by rw [<- hl];exact h1) fun i hi=>h i (by omega) _ _ _ (h2 i (by omega))
abbrev Gg:AV := .agg [i64 0,i64 0,i64 0,.nils,u8 0,.ff]
theorem oJ (b:b9) (o:H5 b) (part:Int) (j8:List Int) (hp:j8.length < 2 ^ 20) (h:lO b part j8=0) :
  PC Tryz.prog 14 [G4 b,i64 part,I7 j8] (.tup [G4 (sU b part j8),.agg [i64 b.next,i64 (A2 b.a7),i64 part,I7 j8,u8 (I3 (kH b) j8).2.1,.ff],i64 0]):=by
 obtain ⟨hc,IY,ha,Ck,jc,Ke⟩:=gM h
 clear h
 have s:=B9 hc
 have cl:PC Tryz.prog 38 [I7 j8] (I7 j8):=(gG j8 hp).toPC 6 (by kernel_rfl)
 have nx:=qP hc
 have c1:PC Tryz.prog 19 [i64 0,i64 1099511627776,i64 part] (.bool (decide (0<=part) && decide (part<=1099511627776))):=E6 0 _ part
 have c2:=mK b o
 have hN:vM b=A2 b.a7:=by unfold vM;rw [if_pos hc,if_pos ha]
 have hE:qH b=0:=by unfold qH;rw [if_pos hc,if_pos ha]
 rw [hN,hE] at c2
 have c3:=Y5 (b.a7.getD (A2 b.a7) n5).o6 j8 (R4 hp)
 have LP:(I3 (b.a7.getD (A2 b.a7) n5).o6 j8).2.2=0:=Ck
 rw [LP] at c3
 have hA:=J4 ha
 have c4:=mN b.log (R4 o.l)
 unfold zQ at c4
 have w1:IntKind.i64.wrap (b.next + 1)=b.next + 1:=L9 _ (by omega) (by omega)
 unfold sU lM kI kH
 generalize A2 b.a7=n at *
 by_cases hf:(b.log.length:Int)=b.keep
 ·have tj:=jc hf
  rw [if_pos tj] at c4
  rw [if_pos hf]
  have hi:=bQ tj
  generalize b.log.findIdx W0=i at *
  have Mu:=mO hi
  have w2:IntKind.i64.wrap ((i:Int) + 1)=(i:Int) + 1:=L9 _ (by omega) (by omega)
  refine pF Tryz.func14 ?_
  conv=>whnf
  (refine Or.inr ⟨[],[22,19,20,21],by kernel_rfl,?_⟩;(conv=>whnf);refine ⟨[],_,_,_,_,⟨U7 b o hc,rfl,rfl,by kernel_rfl⟩,?_⟩)
  conv=>whnf
  (repeat' ((first|refine u6 ?_|refine u7 ?_|refine lD ?_|refine lN ?_|refine kL ?_|fail);conv=>whnf))
  (repeat' ((first|refine aU fun hh=>?_|refine aV fun hh=>?_|refine aS (fun hh=>?_) fun hh=>?_|refine kR ?_|((try refine Or.inl ?_;conv=>whnf);(try refine ⟨false,?_⟩;conv=>whnf);refine ⟨_,by first|exact c1|exact c2|exact c3,?_⟩)|fail)<;>conv=>whnf))
  refine ⟨hA,?_⟩
  conv=>whnf
  (repeat' ((first|refine aU fun hh=>?_|refine aV fun hh=>?_|refine aS (fun hh=>?_) fun hh=>?_|refine kR ?_|((try refine Or.inl ?_;conv=>whnf);(try refine ⟨false,?_⟩;conv=>whnf);refine ⟨_,by first|exact c3|exact c4,?_⟩)|fail)<;>conv=>whnf))
  rw [w2]
  (refine Or.inr ⟨[],[94],by kernel_rfl,?_⟩;(conv=>whnf);refine ⟨[21],_,_,_,_,⟨ub b.log i hi,rfl,rfl,by kernel_rfl⟩,?_⟩)
  conv=>whnf
  (repeat' ((first|refine aU fun hh=>?_|refine aV fun hh=>?_|refine aS (fun hh=>?_) fun hh=>?_|refine kR ?_|((try refine Or.inl ?_;conv=>whnf);(try refine ⟨false,?_⟩;conv=>whnf);refine ⟨_,by exact cl,?_⟩)|fail)<;>conv=>whnf))
  refine ⟨⟨A1,6,o8,V8,fD b.log i⟩,[⟨b.next,n,part,j8,(I3 (b.a7.getD n n5).o6 j8).2.1,false⟩],rfl,rfl,⟨rfl,rfl⟩,?_,?_,fun y _=>⟨rfl,rfl,rfl⟩,?_⟩
  ·show ((fD b.log i).length + 1) * 56<=_;omega
  ·show (fD b.log i).length + 1<=_;omega
  conv=>whnf
  (repeat' ((first|refine aU fun hh=>?_|refine aV fun hh=>?_|refine aS (fun hh=>?_) fun hh=>?_|refine kR ?_|((try refine Or.inl ?_;conv=>whnf);(try refine ⟨false,?_⟩;conv=>whnf);refine ⟨_,by exact cl,?_⟩)|fail)<;>conv=>whnf))
  all_goals (first|rfl|(rw [w1];rfl))
 ·rw [if_neg hf]
  refine pF Tryz.func14 ?_
  conv=>whnf
  (refine Or.inr ⟨[],[22,19,20,21],by kernel_rfl,?_⟩;(conv=>whnf);refine ⟨[],_,_,_,_,⟨U7 b o hc,rfl,rfl,by kernel_rfl⟩,?_⟩)
  conv=>whnf
  (repeat' ((first|refine u6 ?_|refine u7 ?_|refine lD ?_|refine lN ?_|refine kL ?_|fail);conv=>whnf))
  (repeat' ((first|refine aU fun hh=>?_|refine aV fun hh=>?_|refine aS (fun hh=>?_) fun hh=>?_|refine kR ?_|((try refine Or.inl ?_;conv=>whnf);(try refine ⟨false,?_⟩;conv=>whnf);refine ⟨_,by first|exact c1|exact c2|exact c3,?_⟩)|fail)<;>conv=>whnf))
  refine ⟨hA,?_⟩
  conv=>whnf
  (repeat' ((first|refine aU fun hh=>?_|refine aV fun hh=>?_|refine aS (fun hh=>?_) fun hh=>?_|refine kR ?_|((try refine Or.inl ?_;conv=>whnf);(try refine ⟨false,?_⟩;conv=>whnf);refine ⟨_,by exact c3,?_⟩)|fail)<;>conv=>whnf))
  (repeat' ((first|refine aU fun hh=>?_|refine aV fun hh=>?_|refine aS (fun hh=>?_) fun hh=>?_|refine kR ?_|((try refine Or.inl ?_;conv=>whnf);(try refine ⟨false,?_⟩;conv=>whnf);refine ⟨_,by exact cl,?_⟩)|fail)<;>conv=>whnf))
  refine ⟨⟨A1,6,o8,V8,b.log⟩,[⟨b.next,n,part,j8,(I3 (b.a7.getD n n5).o6 j8).2.1,false⟩],rfl,rfl,⟨rfl,rfl⟩,?_,?_,fun y _=>⟨rfl,rfl,rfl⟩,?_⟩
  ·show (b.log.length + 1) * 56<=_;omega
  ·show b.log.length + 1<=_;omega
  conv=>whnf
  (repeat' ((first|refine aU fun hh=>?_|refine aV fun hh=>?_|refine aS (fun hh=>?_) fun hh=>?_|refine kR ?_|((try refine Or.inl ?_;conv=>whnf);(try refine ⟨false,?_⟩;conv=>whnf);refine ⟨_,by exact cl,?_⟩)|fail)<;>conv=>whnf))
  all_goals (first|rfl|(rw [w1];rfl))
theorem U8 (b:b9) (o:H5 b) (part:Int) (j8:List Int) (hp:j8.length < 2 ^ 20) (h:lO b part j8=0) :
  PC Tryz.prog 14 [G4 b,i64 part,I7 j8] (.tup [G4 (sU b part j8),wk (lM b part j8),i64 0]):=by
 have e:rZ (.agg [i64 b.next,i64 (A2 b.a7),i64 part,I7 j8,u8 (I3 (kH b) j8).2.1,.ff]) (wk (lM b part j8)):=by
  refine (cF (xs:=[i64 b.next,i64 (A2 b.a7),i64 part,I7 j8,u8 (I3 (kH b) j8).2.1,.ff]) (ys:=V8 (lM b part j8)) rfl fun i hi=>?_).1
  match i with
  | 0=>exact .refl _
  | 1=>exact .refl _
  | 2=>exact .refl _
  | 3=>exact .refl _
  | 4=>exact .refl _
  | 5=>exact DV
  | (n + 6)=>exact .refl _
 refine (oJ b o part j8 hp h).sub rfl (fun i hi => .refl _) ?_
 refine (cF (xs:=[G4 (sU b part j8),.agg [i64 b.next,i64 (A2 b.a7),i64 part,I7 j8,u8 (I3 (kH b) j8).2.1,.ff],i64 0]) (ys:=[G4 (sU b part j8),wk (lM b part j8),i64 0]) rfl fun i hi=>?_).2
 match i with
 | 0=>exact .refl _
 | 1=>exact e
 | 2=>exact .refl _
 | (n + 3)=>exact .refl _
theorem fE (b:b9) (o:H5 b) (part:Int) (j8:List Int) (hp:j8.length < 2 ^ 20) (h:¬lO b part j8=0) :
  PC Tryz.prog 14 [G4 b,i64 part,I7 j8] (.tup [aZ 0,Gg,i64 (lO b part j8)]):=by
 by_cases hc:A8 b=true
 ·unfold lO at h ⊢
  rw [if_pos hc] at h ⊢
  have s:=B9 hc
  have nx:=qP hc
  have c1:PC Tryz.prog 19 [i64 0,i64 1099511627776,i64 part] (.bool (decide (0<=part) && decide (part<=1099511627776))):=E6 0 _ part
  by_cases IY:0<=part/\part<=1099511627776
  ·rw [if_neg (fun q=>q IY)] at h ⊢
   have c2:=mK b o
   by_cases ha:b.a7.any H6=true
   ·rw [if_neg (fun q=>q ha)] at h ⊢
    have hN:vM b=A2 b.a7:=by unfold vM;rw [if_pos hc,if_pos ha]
    have hE:qH b=0:=by unfold qH;rw [if_pos hc,if_pos ha]
    rw [hN,hE] at c2
    have hA:=J4 ha
    have c3:=Y5 (b.a7.getD (A2 b.a7) n5).o6 j8 (R4 hp)
    unfold kH at h ⊢
    generalize A2 b.a7=n at *
    by_cases Ck:(I3 (b.a7.getD n n5).o6 j8).2.2=0
    ·rw [if_neg (fun q=>q Ck)] at h ⊢
     have h9:((b.log.length:Int)=b.keep/\¬b.log.any W0=true)∨b.next=1099511627776:=Decidable.byContradiction fun q=>h (if_neg q)
     rw [if_pos h9]
     rw [Ck] at c3
     clear h
     have c4:=mN b.log (R4 o.l)
     unfold zQ at c4
     by_cases hf:(b.log.length:Int)=b.keep
     ·by_cases tj:b.log.any W0=true
      ·have Ke:b.next=1099511627776:=by
        rcases h9 with q|q
        ·exact absurd tj q.2
        ·exact q
       clear h9
       rw [if_pos tj] at c4
       have hi:=bQ tj
       generalize b.log.findIdx W0=i at *
       have w2:IntKind.i64.wrap ((i:Int) + 1)=(i:Int) + 1:=L9 _ (by omega) (by omega)
       refine pF Tryz.func14 ?_
       conv=>whnf
       (refine Or.inr ⟨[],[22,19,20,21],by kernel_rfl,?_⟩;(conv=>whnf);refine ⟨[],_,_,_,_,⟨U7 b o hc,rfl,rfl,by kernel_rfl⟩,?_⟩)
       conv=>whnf
       (repeat' ((first|refine u6 ?_|refine u7 ?_|refine lD ?_|refine lN ?_|refine kL ?_|fail);conv=>whnf))
       (repeat' ((first|refine aU fun hh=>?_|refine aV fun hh=>?_|refine aS (fun hh=>?_) fun hh=>?_|refine kR ?_|((try refine Or.inl ?_;conv=>whnf);(try refine ⟨false,?_⟩;conv=>whnf);refine ⟨_,by first|exact c1|exact c2|exact c3,?_⟩)|fail)<;>conv=>whnf))
       refine ⟨hA,?_⟩
       conv=>whnf
       (repeat' ((first|refine aU fun hh=>?_|refine aV fun hh=>?_|refine aS (fun hh=>?_) fun hh=>?_|refine kR ?_|((try refine Or.inl ?_;conv=>whnf);(try refine ⟨false,?_⟩;conv=>whnf);refine ⟨_,by first|exact c3|exact c4,?_⟩)|fail)<;>conv=>whnf))
       rw [w2]
       (refine Or.inr ⟨[],[94],by kernel_rfl,?_⟩;(conv=>whnf);refine ⟨[21],_,_,_,_,⟨ub b.log i hi,rfl,rfl,by kernel_rfl⟩,?_⟩)
       conv=>whnf
       (repeat' ((first|refine aU fun hh=>?_|refine aV fun hh=>?_|refine aS (fun hh=>?_) fun hh=>?_|refine kR ?_|fail)<;>conv=>whnf))
       all_goals rfl
      ·rw [if_neg tj] at c4
       clear h9
       refine pF Tryz.func14 ?_
       conv=>whnf
       (refine Or.inr ⟨[],[22,19,20,21],by kernel_rfl,?_⟩;(conv=>whnf);refine ⟨[],_,_,_,_,⟨U7 b o hc,rfl,rfl,by kernel_rfl⟩,?_⟩)
       conv=>whnf
       (repeat' ((first|refine u6 ?_|refine u7 ?_|refine lD ?_|refine lN ?_|refine kL ?_|fail);conv=>whnf))
       (repeat' ((first|refine aU fun hh=>?_|refine aV fun hh=>?_|refine aS (fun hh=>?_) fun hh=>?_|refine kR ?_|((try refine Or.inl ?_;conv=>whnf);(try refine ⟨false,?_⟩;conv=>whnf);refine ⟨_,by first|exact c1|exact c2|exact c3,?_⟩)|fail)<;>conv=>whnf))
       refine ⟨hA,?_⟩
       conv=>whnf
       (repeat' ((first|refine aU fun hh=>?_|refine aV fun hh=>?_|refine aS (fun hh=>?_) fun hh=>?_|refine kR ?_|((try refine Or.inl ?_;conv=>whnf);(try refine ⟨false,?_⟩;conv=>whnf);refine ⟨_,by first|exact c3|exact c4,?_⟩)|fail)<;>conv=>whnf))
       all_goals rfl
     ·have Ke:b.next=1099511627776:=by
       rcases h9 with q|q
       ·exact absurd q.1 hf
       ·exact q
      clear h9
      refine pF Tryz.func14 ?_
      conv=>whnf
      (refine Or.inr ⟨[],[22,19,20,21],by kernel_rfl,?_⟩;(conv=>whnf);refine ⟨[],_,_,_,_,⟨U7 b o hc,rfl,rfl,by kernel_rfl⟩,?_⟩)
      conv=>whnf
      (repeat' ((first|refine u6 ?_|refine u7 ?_|refine lD ?_|refine lN ?_|refine kL ?_|fail);conv=>whnf))
      (repeat' ((first|refine aU fun hh=>?_|refine aV fun hh=>?_|refine aS (fun hh=>?_) fun hh=>?_|refine kR ?_|((try refine Or.inl ?_;conv=>whnf);(try refine ⟨false,?_⟩;conv=>whnf);refine ⟨_,by first|exact c1|exact c2|exact c3,?_⟩)|fail)<;>conv=>whnf))
      refine ⟨hA,?_⟩
      conv=>whnf
      (repeat' ((first|refine aU fun hh=>?_|refine aV fun hh=>?_|refine aS (fun hh=>?_) fun hh=>?_|refine kR ?_|((try refine Or.inl ?_;conv=>whnf);(try refine ⟨false,?_⟩;conv=>whnf);refine ⟨_,by exact c3,?_⟩)|fail)<;>conv=>whnf))
      (repeat' ((first|refine aU fun hh=>?_|refine aV fun hh=>?_|refine aS (fun hh=>?_) fun hh=>?_|refine kR ?_|fail)<;>conv=>whnf))
      all_goals rfl
    ·rw [if_pos Ck]
     clear h
     refine pF Tryz.func14 ?_
     conv=>whnf
     (refine Or.inr ⟨[],[22,19,20,21],by kernel_rfl,?_⟩;(conv=>whnf);refine ⟨[],_,_,_,_,⟨U7 b o hc,rfl,rfl,by kernel_rfl⟩,?_⟩)
     conv=>whnf
     (repeat' ((first|refine u6 ?_|refine u7 ?_|refine lD ?_|refine lN ?_|refine kL ?_|fail);conv=>whnf))
     (repeat' ((first|refine aU fun hh=>?_|refine aV fun hh=>?_|refine aS (fun hh=>?_) fun hh=>?_|refine kR ?_|((try refine Or.inl ?_;conv=>whnf);(try refine ⟨false,?_⟩;conv=>whnf);refine ⟨_,by first|exact c1|exact c2|exact c3,?_⟩)|fail)<;>conv=>whnf))
     refine ⟨hA,?_⟩
     conv=>whnf
     (repeat' ((first|refine aU fun hh=>?_|refine aV fun hh=>?_|refine aS (fun hh=>?_) fun hh=>?_|refine kR ?_|((try refine Or.inl ?_;conv=>whnf);(try refine ⟨false,?_⟩;conv=>whnf);refine ⟨_,by exact c3,?_⟩)|fail)<;>conv=>whnf))
     all_goals rfl
   ·rw [if_pos ha]
    have hE:qH b=102:=by unfold qH;rw [if_pos hc,if_neg ha]
    rw [hE] at c2
    clear h
    refine pF Tryz.func14 ?_
    conv=>whnf
    (refine Or.inr ⟨[],[22,19,20,21],by kernel_rfl,?_⟩;(conv=>whnf);refine ⟨[],_,_,_,_,⟨U7 b o hc,rfl,rfl,by kernel_rfl⟩,?_⟩)
    conv=>whnf
    (repeat' ((first|refine u6 ?_|refine u7 ?_|refine lD ?_|refine lN ?_|refine kL ?_|fail);conv=>whnf))
    (repeat' ((first|refine aU fun hh=>?_|refine aV fun hh=>?_|refine aS (fun hh=>?_) fun hh=>?_|refine kR ?_|((try refine Or.inl ?_;conv=>whnf);(try refine ⟨false,?_⟩;conv=>whnf);refine ⟨_,by first|exact c1|exact c2,?_⟩)|fail)<;>conv=>whnf))
    all_goals rfl
  ·rw [if_pos IY]
   clear h
   refine pF Tryz.func14 ?_
   conv=>whnf
   (refine Or.inr ⟨[],[22,19,20,21],by kernel_rfl,?_⟩;(conv=>whnf);refine ⟨[],_,_,_,_,⟨U7 b o hc,rfl,rfl,by kernel_rfl⟩,?_⟩)
   conv=>whnf
   (repeat' ((first|refine u6 ?_|refine u7 ?_|refine lD ?_|refine lN ?_|refine kL ?_|fail);conv=>whnf))
   (repeat' ((first|refine aU fun hh=>?_|refine aV fun hh=>?_|refine aS (fun hh=>?_) fun hh=>?_|refine kR ?_|((try refine Or.inl ?_;conv=>whnf);(try refine ⟨false,?_⟩;conv=>whnf);refine ⟨_,by exact c1,?_⟩)|fail)<;>conv=>whnf))
   all_goals rfl
 ·have rJ:A8 b=false:=by simpa using hc
  have c:=M5 b o rJ
  unfold lO
  rw [if_neg hc]
  refine pF Tryz.func14 ?_
  conv=>whnf
  (repeat' ((first|refine u6 ?_|refine u7 ?_|((try refine Or.inl ?_;conv=>whnf);(try refine ⟨false,?_⟩;conv=>whnf);refine ⟨_,by exact c,?_⟩)|refine lD ?_|refine lN ?_|refine kL ?_|fail);conv=>whnf))
  all_goals rfl
def bc:List Int:=[0,0,100,100,0]
def cG (lo hi:Int):H4:=((((50,0),((1,1),(1,1))),(lo,1)),(hi,1))
def GR:b9:=⟨2,[],[],0,[]⟩
def IZ:b9:=⟨2,[2],[],0,[]⟩
def Ja:b9:=⟨2,[2,2],[],0,[]⟩
def Jb:b9:=⟨2,[2,2,3],[],0,[]⟩
def Jc:b9:=⟨2,[2,2,3,1],[],0,[]⟩
def DW:b9:=⟨2,[2,2,3,1],[⟨0,cG 1 3,[],1⟩],0,[]⟩
def Jd:b9:=⟨2,[2,2,3,1],[⟨0,cG 1 3,[1],1⟩],0,[]⟩
def Eu:b9:=⟨2,[2,2,3,1],[⟨0,cG 1 3,[1,2],2⟩],0,[]⟩
def tX (q part:Int) (is:Bool):A1:=⟨q,0,part,bc,1,is⟩
def tL (next:Int) (l:List A1):b9:=⟨2,[2,2,3,1],[⟨0,cG 1 3,[1,2],3⟩],next,l⟩
theorem uc (k:Int):rZ (aZ k) (G4 ⟨k,[],[],0,[]⟩):=by
 refine (cF (xs:=[i64 k,.nils,.nils,i64 0,.nils]) (ys:=eB ⟨k,[],[],0,[]⟩) rfl fun i hi=>?_).1
 match i with
 | 0=>exact .refl _
 | 1=>exact .nils _ _ _
 | 2=>exact .nils _ _ _
 | 3=>exact .refl _
 | 4=>exact .nils _ _ _
 | (n + 5)=>exact .refl _
theorem Bz:PC Tryz.prog 15 [] (I7 bc):=by
 have c:PC Tryz.prog 15 [] (.slc 1 [[i64 0],[i64 0],[i64 100],[i64 100],[i64 0]]):=by
  refine pF Tryz.func15 ?_
  conv=>whnf
  try rfl
 exact c.sub rfl (fun i hi=>absurd hi (Nat.not_lt_zero i)) (.slc 1 0 eI bc)
theorem yZ (lo hi:Int):PC Tryz.prog 33 [i64 lo,i64 hi] (DF (cG lo hi)):=by
 refine pF Tryz.func33 ?_
 conv=>whnf
 try rfl
theorem BA:PC Tryz.prog 5 [i64 2] (.tup [G4 GR,i64 0]):=by
 have c:=yN 2
 refine c.sub rfl (fun i hi => .refl _) (cF (xs:=[aZ 2,i64 0]) (ys:=[G4 GR,i64 0]) rfl fun i hi=>?_).2
 match i with
 | 0=>exact uc 2
 | 1=>exact .refl _
 | (n + 2)=>exact .refl _
theorem qQ {b:b9} (h:sR b=true):H5 b:=by
 obtain ⟨h1,h2,h3,h4,h5⟩:=qx h
 exact ⟨by omega,by omega,by omega,fun i=>by have:=h4 i;omega,fun i=>by have:=h5 i;omega⟩
theorem BB:PC Tryz.prog 13 [] (.tup [G4 Eu,.bool true]):=by
 have a0:=BA
 have a1:PC Tryz.prog 20 [G4 GR,u8 2] (.tup [G4 IZ,i64 0,i64 0]):=R5 GR (qQ (by kernel_rfl)) 2 (by kernel_rfl)
 have a2:PC Tryz.prog 20 [G4 IZ,u8 2] (.tup [G4 Ja,i64 1,i64 0]):=R5 IZ (qQ (by kernel_rfl)) 2 (by kernel_rfl)
 have a3:PC Tryz.prog 20 [G4 Ja,u8 3] (.tup [G4 Jb,i64 2,i64 0]):=R5 Ja (qQ (by kernel_rfl)) 3 (by kernel_rfl)
 have a4:PC Tryz.prog 20 [G4 Jb,u8 1] (.tup [G4 Jc,i64 3,i64 0]):=R5 Jb (qQ (by kernel_rfl)) 1 (by kernel_rfl)
 have d:=yZ 1 3
 have a5:PC Tryz.prog 21 [G4 Jc,i64 0,DF (cG 1 3)] (.tup [G4 DW,i64 0,i64 0]):=kG Jc (qQ (by kernel_rfl)) 0 (cG 1 3) (by kernel_rfl)
 have b1:PC Tryz.prog 22 [G4 DW,i64 0,i64 0] (.tup [aZ 0,i64 100]):=aA DW (qQ (by kernel_rfl)) 0 0 (by decide +kernel)
 have b2:PC Tryz.prog 22 [G4 DW,i64 3,i64 0] (.tup [aZ 0,i64 100]):=aA DW (qQ (by kernel_rfl)) 3 0 (by decide +kernel)
 have b3:PC Tryz.prog 22 [G4 DW,i64 1,i64 0] (.tup [G4 Jd,i64 0]):=bJ DW (qQ (by kernel_rfl)) 1 0 (by kernel_rfl)
 have b4:PC Tryz.prog 22 [G4 Jd,i64 2,i64 0] (.tup [G4 Eu,i64 0]):=bJ Jd (qQ (by kernel_rfl)) 2 0 (by kernel_rfl)
 refine pF Tryz.func13 ?_
 conv=>whnf
 (repeat' ((first|refine u6 ?_|refine u7 ?_|((try refine Or.inl ?_;conv=>whnf);(try refine ⟨false,?_⟩;conv=>whnf);refine ⟨_,by exact a0,?_⟩)|refine lD ?_|refine lN ?_|refine kL ?_|fail);conv=>whnf))
 refine Or.inl ⟨5,?_⟩
 conv=>whnf
 (repeat' ((first|refine u6 ?_|refine u7 ?_|((try refine Or.inl ?_;conv=>whnf);(try refine ⟨false,?_⟩;conv=>whnf);refine ⟨_,by first|exact a1|exact a2|exact a3|exact a4,?_⟩)|refine lD ?_|refine lN ?_|refine kL ?_|fail);conv=>whnf))
 (repeat' ((first|refine u6 ?_|refine u7 ?_|((try refine Or.inl ?_;conv=>whnf);(try refine ⟨false,?_⟩;conv=>whnf);refine ⟨_,by first|exact d|exact a5|exact b1|exact b2|exact b3|exact b4,?_⟩)|refine lD ?_|refine lN ?_|refine kL ?_|fail);conv=>whnf))
 all_goals rfl
theorem Gh {p A B:Prop} [Decidable p] (h:p) (b:B):((!decide p)=true->A)/\((!decide p)=false->B):=⟨fun q=>(by rw [decide_eq_true h] at q;cases q),fun _=>b⟩
theorem qR (n:Int) (x y:A1):PC Tryz.prog 18 [G4 (tL n [x,y]),.slc 1 [[i64 x.seq],[i64 y.seq]]] (.bool true):=by
 show PC Tryz.prog 18 [G4 ⟨2,[2,2,3,1],[⟨0,cG 1 3,[1,2],3⟩],n,[x,y]⟩,.slc 1 [[i64 x.seq],[i64 y.seq]]] (.bool true)
 refine pF Tryz.func18 ?_
 conv=>whnf
 (repeat' ((first|refine u6 ?_|refine u7 ?_|refine lD ?_|refine lN ?_|refine kL ?_|fail);conv=>whnf))
 refine Or.inl ⟨3,?_⟩
 conv=>whnf
 (repeat' ((first|refine u6 ?_|refine u7 ?_|refine lD ?_|refine lN ?_|refine kL ?_|fail);conv=>whnf))
 refine Gh rfl ?_
 conv=>whnf
 (repeat' ((first|refine u6 ?_|refine u7 ?_|refine lD ?_|refine lN ?_|refine kL ?_|fail);conv=>whnf))
 refine Gh rfl ?_
 conv=>whnf
 (repeat' ((first|refine u6 ?_|refine u7 ?_|refine lD ?_|refine lN ?_|refine kL ?_|fail);conv=>whnf))
 all_goals rfl
theorem za:PC Tryz.prog 4 [] (.bool true):=by
 have t:=BB
 have d:=Bz
 have a0:PC Tryz.prog 14 [G4 Eu,i64 7,I7 bc] (.tup [aZ 0,Gg,i64 102]):=fE Eu (qQ (by kernel_rfl)) 7 bc (by decide) (by decide +kernel)
 have a1:PC Tryz.prog 16 [G4 Eu,i64 1,i64 0] (.tup [G4 (tL 0 []),i64 0]):=dx Eu (qQ (by kernel_rfl)) 1 0 (by kernel_rfl)
 have r7:PC Tryz.prog 14 [G4 (tL 0 []),i64 7,I7 bc] (.tup [G4 (tL 1 [tX 0 7 false]),wk (tX 0 7 false),i64 0]):=U8 (tL 0 []) (qQ (by kernel_rfl)) 7 bc (by decide) (by kernel_rfl)
 have r8:PC Tryz.prog 14 [G4 (tL 1 [tX 0 7 false]),i64 8,I7 bc] (.tup [G4 (tL 2 [tX 0 7 false,tX 1 8 false]),wk (tX 1 8 false),i64 0]):=U8 (tL 1 [tX 0 7 false]) (qQ (by kernel_rfl)) 8 bc (by decide) (by kernel_rfl)
 have r9:PC Tryz.prog 14 [G4 (tL 2 [tX 0 7 false,tX 1 8 false]),i64 9,I7 bc] (.tup [G4 (tL 3 [tX 1 8 false,tX 2 9 false]),wk (tX 2 9 false),i64 0]):=U8 (tL 2 [tX 0 7 false,tX 1 8 false]) (qQ (by kernel_rfl)) 9 bc (by decide) (by kernel_rfl)
 have p1:PC Tryz.prog 17 [G4 (tL 3 [tX 1 8 false,tX 2 9 false]),i64 3,i64 1] (.tup [G4 (tL 3 [tX 1 8 true,tX 2 9 false]),i64 0]):=fC (tL 3 [tX 1 8 false,tX 2 9 false]) (qQ (by kernel_rfl)) 3 1 (by kernel_rfl)
 have LQ:PC Tryz.prog 14 [G4 (tL 3 [tX 1 8 true,tX 2 9 false]),i64 10,I7 bc] (.tup [G4 (tL 4 [tX 1 8 true,tX 3 10 false]),wk (tX 3 10 false),i64 0]):=U8 (tL 3 [tX 1 8 true,tX 2 9 false]) (qQ (by kernel_rfl)) 10 bc (by decide) (by kernel_rfl)
 have q1:PC Tryz.prog 12 [G4 (tL 4 [tX 1 8 true,tX 3 10 false]),i64 3] (.tup [u8 1,i64 0]):=mM (tL 4 [tX 1 8 true,tX 3 10 false]) (qQ (by kernel_rfl)) 3
 have s1:=qR 3 (tX 1 8 false) (tX 2 9 false)
 have s2:=qR 4 (tX 1 8 true) (tX 3 10 false)
 refine pF Tryz.func4 ?_
 conv=>whnf
 (repeat' ((first|refine u6 ?_|refine u7 ?_|((try refine Or.inl ?_;conv=>whnf);(try refine ⟨false,?_⟩;conv=>whnf);refine ⟨_,by first|exact t|exact d|exact a0|exact a1,?_⟩)|refine lD ?_|refine lN ?_|refine kL ?_|fail);conv=>whnf))
 refine Or.inl ⟨4,?_⟩
 conv=>whnf
 (repeat' ((first|refine u6 ?_|refine u7 ?_|((try refine Or.inl ?_;conv=>whnf);(try refine ⟨false,?_⟩;conv=>whnf);refine ⟨_,by first|exact d|exact r7|exact r8|exact r9,?_⟩)|refine lD ?_|refine lN ?_|refine kL ?_|fail);conv=>whnf))
 (repeat' ((first|refine u6 ?_|refine u7 ?_|((try refine Or.inl ?_;conv=>whnf);(try refine ⟨false,?_⟩;conv=>whnf);refine ⟨_,by first|exact d|exact p1|exact LQ|exact q1,?_⟩)|refine lD ?_|refine lN ?_|refine kL ?_|fail);conv=>whnf))
 (repeat' ((first|refine u6 ?_|refine u7 ?_|((try refine Or.inl ?_;conv=>whnf);(try refine ⟨false,?_⟩;conv=>whnf);refine ⟨_,by first|exact s1|exact s2,?_⟩)|refine lD ?_|refine lN ?_|refine kL ?_|fail);conv=>whnf))
 all_goals rfl
structure M9 where
 kind:Int
 b8:Int
 a8:Int
 I4:Int
 o6:H4
 j8:List Int
def zb (a:M9):List AV:=[u8 a.kind,i64 a.b8,i64 a.a8,u8 a.I4,i64 (K4 a.o6),i64 (J2 a.o6),i64 (K7 a.o6).1.1,i64 (K7 a.o6).1.2,i64 (K7 a.o6).2.1,i64 (K7 a.o6).2.2,i64 a.o6.1.2.1,i64 a.o6.1.2.2,i64 a.o6.2.1,i64 a.o6.2.2,I7 a.j8]
abbrev wo (a:M9):AV := .agg (zb a)
def B6 (a:M9):Int:=a.kind.tmod 8
def zd (b:b9) (a:M9):Int :=
 if B6 a=0 then iI b a.I4 else if B6 a=1 then kt b a.b8 a.o6 else if B6 a=2 then lL b a.b8 a.a8 else if B6 a=3 then fA b a.b8 a.a8 else if B6 a=4 then kz b a.b8 else if B6 a=5 then lO b a.a8 a.j8 else if B6 a=6 then yW b a.b8 a.a8 else yX b a.b8 a.a8
def dg (b:b9) (a:M9):b9 :=
 if B6 a=0 then yQ b a.I4 else if B6 a=1 then lF b a.b8 a.o6 else if B6 a=2 then fB b a.b8 a.a8 else if B6 a=3 then dw b a.a8 else if B6 a=4 then fx b (A2 b.a7) else if B6 a=5 then sU b a.a8 a.j8 else if B6 a=6 then P9 b a.a8 true else P9 b a.a8 false
theorem qS (b:b9) (o:H5 b) (a:M9) (hp:a.j8.length < 2 ^ 20) (h:zd b a=0):PC Tryz.prog 7 [G4 b,wo a] (.tup [G4 (dg b a),i64 0]):=by
 unfold zd at h
 unfold dg
 by_cases k0:B6 a=0
 ·rw [if_pos k0] at h ⊢
  have c:=R5 b o a.I4 h
  clear h
  unfold B6 at *
  refine pF Tryz.func7 ?_
  conv=>whnf
  (repeat' ((first|refine u6 ?_|refine u7 ?_|((try refine Or.inl ?_;conv=>whnf);(try refine ⟨false,?_⟩;conv=>whnf);refine ⟨_,by exact c,?_⟩)|refine lD ?_|refine lN ?_|refine kL ?_|fail);conv=>whnf))
  all_goals rfl
 rw [if_neg k0] at h ⊢
 by_cases k1:B6 a=1
 ·rw [if_pos k1] at h ⊢
  have c:=kG b o a.b8 a.o6 h
  clear h
  unfold B6 at *
  refine pF Tryz.func7 ?_
  conv=>whnf
  (repeat' ((first|refine u6 ?_|refine u7 ?_|((try refine Or.inl ?_;conv=>whnf);(try refine ⟨false,?_⟩;conv=>whnf);refine ⟨_,by exact c,?_⟩)|refine lD ?_|refine lN ?_|refine kL ?_|fail);conv=>whnf))
  all_goals rfl
 rw [if_neg k1] at h ⊢
 by_cases k2:B6 a=2
 ·rw [if_pos k2] at h ⊢
  have c:=bJ b o a.b8 a.a8 h
  clear h
  unfold B6 at *
  refine pF Tryz.func7 ?_
  conv=>whnf
  (repeat' ((first|refine u6 ?_|refine u7 ?_|((try refine Or.inl ?_;conv=>whnf);(try refine ⟨false,?_⟩;conv=>whnf);refine ⟨_,by exact c,?_⟩)|refine lD ?_|refine lN ?_|refine kL ?_|fail);conv=>whnf))
  all_goals rfl
 rw [if_neg k2] at h ⊢
 by_cases k3:B6 a=3
 ·rw [if_pos k3] at h ⊢
  have c:=dx b o a.b8 a.a8 h
  clear h
  unfold B6 at *
  refine pF Tryz.func7 ?_
  conv=>whnf
  (repeat' ((first|refine u6 ?_|refine u7 ?_|((try refine Or.inl ?_;conv=>whnf);(try refine ⟨false,?_⟩;conv=>whnf);refine ⟨_,by exact c,?_⟩)|refine lD ?_|refine lN ?_|refine kL ?_|fail);conv=>whnf))
  all_goals rfl
 rw [if_neg k3] at h ⊢
 by_cases k4:B6 a=4
 ·rw [if_pos k4] at h ⊢
  have c:=qN b o a.b8 h
  clear h
  unfold B6 at *
  refine pF Tryz.func7 ?_
  conv=>whnf
  (repeat' ((first|refine u6 ?_|refine u7 ?_|((try refine Or.inl ?_;conv=>whnf);(try refine ⟨false,?_⟩;conv=>whnf);refine ⟨_,by exact c,?_⟩)|refine lD ?_|refine lN ?_|refine kL ?_|fail);conv=>whnf))
  all_goals rfl
 rw [if_neg k4] at h ⊢
 by_cases k5:B6 a=5
 ·rw [if_pos k5] at h ⊢
  have c:=U8 b o a.a8 a.j8 hp h
  clear h
  unfold B6 at *
  refine pF Tryz.func7 ?_
  conv=>whnf
  (repeat' ((first|refine u6 ?_|refine u7 ?_|((try refine Or.inl ?_;conv=>whnf);(try refine ⟨false,?_⟩;conv=>whnf);refine ⟨_,by exact c,?_⟩)|refine lD ?_|refine lN ?_|refine kL ?_|fail);conv=>whnf))
  all_goals rfl
 rw [if_neg k5] at h ⊢
 by_cases k6:B6 a=6
 ·rw [if_pos k6] at h ⊢
  have c:=fC b o a.b8 a.a8 h
  clear h
  unfold B6 at *
  refine pF Tryz.func7 ?_
  conv=>whnf
  (repeat' ((first|refine u6 ?_|refine u7 ?_|((try refine Or.inl ?_;conv=>whnf);(try refine ⟨false,?_⟩;conv=>whnf);refine ⟨_,by exact c,?_⟩)|refine lD ?_|refine lN ?_|refine kL ?_|fail);conv=>whnf))
  all_goals rfl
 rw [if_neg k6] at h ⊢
 have c:=qO b o a.b8 a.a8 h
 clear h
 unfold B6 at *
 refine pF Tryz.func7 ?_
 conv=>whnf
 (repeat' ((first|refine u6 ?_|refine u7 ?_|((try refine Or.inl ?_;conv=>whnf);(try refine ⟨false,?_⟩;conv=>whnf);refine ⟨_,by exact c,?_⟩)|refine lD ?_|refine lN ?_|refine kL ?_|fail);conv=>whnf))
 all_goals rfl
theorem mP (b:b9) (o:H5 b) (a:M9) (hp:a.j8.length < 2 ^ 20) (h:¬zd b a=0):PC Tryz.prog 7 [G4 b,wo a] (.tup [aZ 0,i64 (zd b a)]):=by
 unfold zd at h ⊢
 by_cases k0:B6 a=0
 ·rw [if_pos k0] at h ⊢
  have c:=lE b o a.I4 h
  clear h
  unfold B6 at *
  refine pF Tryz.func7 ?_
  conv=>whnf
  (repeat' ((first|refine u6 ?_|refine u7 ?_|((try refine Or.inl ?_;conv=>whnf);(try refine ⟨false,?_⟩;conv=>whnf);refine ⟨_,by exact c,?_⟩)|refine lD ?_|refine lN ?_|refine kL ?_|fail);conv=>whnf))
  all_goals rfl
 rw [if_neg k0] at h ⊢
 by_cases k1:B6 a=1
 ·rw [if_pos k1] at h ⊢
  have c:=qF b o a.b8 a.o6 h
  clear h
  unfold B6 at *
  refine pF Tryz.func7 ?_
  conv=>whnf
  (repeat' ((first|refine u6 ?_|refine u7 ?_|((try refine Or.inl ?_;conv=>whnf);(try refine ⟨false,?_⟩;conv=>whnf);refine ⟨_,by exact c,?_⟩)|refine lD ?_|refine lN ?_|refine kL ?_|fail);conv=>whnf))
  all_goals rfl
 rw [if_neg k1] at h ⊢
 by_cases k2:B6 a=2
 ·rw [if_pos k2] at h ⊢
  have c:=aA b o a.b8 a.a8 h
  clear h
  unfold B6 at *
  refine pF Tryz.func7 ?_
  conv=>whnf
  (repeat' ((first|refine u6 ?_|refine u7 ?_|((try refine Or.inl ?_;conv=>whnf);(try refine ⟨false,?_⟩;conv=>whnf);refine ⟨_,by exact c,?_⟩)|refine lD ?_|refine lN ?_|refine kL ?_|fail);conv=>whnf))
  all_goals rfl
 rw [if_neg k2] at h ⊢
 by_cases k3:B6 a=3
 ·rw [if_pos k3] at h ⊢
  have c:=kB b o a.b8 a.a8 h
  clear h
  unfold B6 at *
  refine pF Tryz.func7 ?_
  conv=>whnf
  (repeat' ((first|refine u6 ?_|refine u7 ?_|((try refine Or.inl ?_;conv=>whnf);(try refine ⟨false,?_⟩;conv=>whnf);refine ⟨_,by exact c,?_⟩)|refine lD ?_|refine lN ?_|refine kL ?_|fail);conv=>whnf))
  all_goals rfl
 rw [if_neg k3] at h ⊢
 by_cases k4:B6 a=4
 ·rw [if_pos k4] at h ⊢
  have c:=oA b o a.b8 h
  clear h
  unfold B6 at *
  refine pF Tryz.func7 ?_
  conv=>whnf
  (repeat' ((first|refine u6 ?_|refine u7 ?_|((try refine Or.inl ?_;conv=>whnf);(try refine ⟨false,?_⟩;conv=>whnf);refine ⟨_,by exact c,?_⟩)|refine lD ?_|refine lN ?_|refine kL ?_|fail);conv=>whnf))
  all_goals rfl
 rw [if_neg k4] at h ⊢
 by_cases k5:B6 a=5
 ·rw [if_pos k5] at h ⊢
  have c:=fE b o a.a8 a.j8 hp h
  clear h
  unfold B6 at *
  refine pF Tryz.func7 ?_
  conv=>whnf
  (repeat' ((first|refine u6 ?_|refine u7 ?_|((try refine Or.inl ?_;conv=>whnf);(try refine ⟨false,?_⟩;conv=>whnf);refine ⟨_,by exact c,?_⟩)|refine lD ?_|refine lN ?_|refine kL ?_|fail);conv=>whnf))
  all_goals rfl
 rw [if_neg k5] at h ⊢
 by_cases k6:B6 a=6
 ·rw [if_pos k6] at h ⊢
  have c:=lK b o a.b8 a.a8 h
  clear h
  unfold B6 at *
  refine pF Tryz.func7 ?_
  conv=>whnf
  (repeat' ((first|refine u6 ?_|refine u7 ?_|((try refine Or.inl ?_;conv=>whnf);(try refine ⟨false,?_⟩;conv=>whnf);refine ⟨_,by exact c,?_⟩)|refine lD ?_|refine lN ?_|refine kL ?_|fail);conv=>whnf))
  all_goals rfl
 rw [if_neg k6] at h ⊢
 have c:=oF b o a.b8 a.a8 h
 clear h
 unfold B6 at *
 refine pF Tryz.func7 ?_
 conv=>whnf
 (repeat' ((first|refine u6 ?_|refine u7 ?_|((try refine Or.inl ?_;conv=>whnf);(try refine ⟨false,?_⟩;conv=>whnf);refine ⟨_,by exact c,?_⟩)|refine lD ?_|refine lN ?_|refine kL ?_|fail);conv=>whnf))
 all_goals rfl

end Go.Proofs.Tryz.My
