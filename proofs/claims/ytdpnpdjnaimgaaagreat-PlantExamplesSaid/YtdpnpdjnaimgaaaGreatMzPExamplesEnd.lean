/- PlantExamples of layer 11: the limits, the numbers of errors, and the examples. -/
import Derived.Test.YtdpnpdjnaimgaaaGreatMzWzA
import Derived.Test.YtdpnpdjnaimgaaaGreatMzWdB
import Derived.Test.YtdpnpdjnaimgaaaGreatMzIniA
set_option linter.unusedVariables false
set_option linter.unusedSimpArgs false
set_option maxRecDepth 100000
set_option maxHeartbeats 0
namespace Go.Proofs.Tryz.My
open Go Go.Ev
theorem Mi:pQ (bY (I8 (Z7 3)) ([aP gT [0,0,0]]++dy 11))=(⟨0,-1,0,true,true⟩,true):=by kernel_rfl
theorem Mj:pQ (bY (I8 (Z7 5)) (dH++[aP gT [0,0,0]]++dy 11))=(⟨0,0,0,true,true⟩,true):=by kernel_rfl
def jS:Nat->List r8
 | 0=>dH
 | n + 1=>jS n++[aP iv [0,0,0,0,0]]++dy 1
theorem Mk (n:Nat):(jS n).length=7 + 2 * n:=by
 induction n with
 | zero=>rfl
 | succ n ih =>
  show ((jS n++[_])++dy 1).length=_
  rw [List.length_append,List.length_append,ih]
  show 7 + 2 * n + 1 + 1=_
  omega
def pR:List r8:=jS 6++[BI 10 0,BI 10 2,aP gT [0,0,0]]
theorem Ec:((bY (I8 (Z7 3)) pR).getD 17 Y1).e=101/\((bY (I8 (Z7 3)) pR).getD 15 Y1).e=0/\((bY (I8 (Z7 3)) pR).getD 15 Y1).n=4/\((bY (I8 (Z7 3)) pR).getD 19 Y1).e=100/\((bY (I8 (Z7 3)) pR).getD 20 Y1).e=0 /\
  ((bY (I8 (Z7 3)) pR).getD 21 Y1).e=0/\((bY (I8 (Z7 3)) pR).getD 21 Y1).n=5/\(N3 (I8 (Z7 3)) pR).drift.rounds=1:=by
 refine ⟨by kernel_rfl,by kernel_rfl,by kernel_rfl,by kernel_rfl,by kernel_rfl,by kernel_rfl,by kernel_rfl,by kernel_rfl⟩
def BL (o:r8):List AV:=((bD o).set 15 .nils).set 16 .nils
def Ip:r8:=⟨3,0,0,1,0,ao,[],[]⟩
theorem yk (l:A5) (os:List r8) (kq:os.length < 2 ^ 40) (h:J3 l=0) (hle:500 < os.length):PC Tryz.prog 40 [jP l,.sl 17 B7 BL os] (BG 4):=by
 have c1:=qg l h
 refine pF Tryz.func40 ?_
 conv=>whnf
 (repeat' ((first|refine aU fun hh=>?_|refine aV fun hh=>?_|refine aS (fun hh=>?_) fun hh=>?_|refine kR ?_|((try refine Or.inl ?_;conv=>whnf);(try refine ⟨false,?_⟩;conv=>whnf);refine ⟨_,by exact c1,?_⟩)|fail)<;>conv=>whnf))
 refine Or.inr ⟨Nat,[29,8],[],[],fun k=>[i64 k,i64 4],fun _=>[],fun _=>[],fun k=>os.length - k,fun k=>k<=os.length,?_⟩
 conv=>whnf
 refine ⟨⟨0,?_⟩,?_⟩
 ·(conv=>whnf)
  exact kK ⟨Nat.zero_le _,rfl,rfl,rfl⟩
 intro k hk
 conv=>whnf
 refine ⟨fun q=>?_,fun q=>?_⟩
 ·have q:=of_decide_eq_true q
  have L7:k < os.length:=by omega
  conv=>whnf
  (repeat' ((first|refine aU fun hh=>?_|refine aV fun hh=>?_|refine aS (fun hh=>?_) fun hh=>?_|refine kT ?_|fail)<;>conv=>whnf))
  refine ⟨k + 1,?_⟩
  conv=>whnf
  refine kK ⟨⟨?_,?_⟩,?_,rfl,rfl⟩
  ·show os.length - (k + 1) < os.length - k;omega
  ·show k + 1<=os.length;omega
  ·rw [C7 _ (by omega) (by omega)];rfl
 ·(conv=>whnf)
  (repeat' ((first|refine aU fun hh=>?_|refine aV fun hh=>?_|refine aS (fun hh=>?_) fun hh=>?_|refine kR ?_|fail)<;>conv=>whnf))
  all_goals rfl
theorem Ml (o:r8) (ht:o.tru=[]) (hn:o.a8=[]):pV (.agg (BL o)) (ord o):=by
 obtain ⟨kind,j8,a7,n,j9,b9,tru,a8⟩:=o
 simp only at ht hn
 subst ht hn
 refine (Y0 (xs:=BL ⟨kind,j8,a7,n,j9,b9,[],[]⟩) (ys:=bD ⟨kind,j8,a7,n,j9,b9,[],[]⟩) rfl fun i hi=>?_).1
 match i with
 | 0|1|2|3|4|5|6|7|8|9|10|11|12|13|14=>exact .refl _
 | 15=>exact .nils _ _ _
 | 16=>exact .nils _ _ _
 | (m + 17)=>exact .refl _
theorem BM:PC Tryz.prog 40 [jP (Z7 3),.sl 17 B7 BL [Ip]] (BG 2):=by
 have c1:=qg (Z7 3) (by kernel_rfl)
 have c2:PC Tryz.prog 29 [.agg (BL Ip)] (i64 2):=by
  have c:=Y2 Ip (by decide) (by decide) (by decide)
  rw [if_neg (by decide)] at c
  refine c.sub rfl (fun i hi=>?_) (.refl _)
  match i with
  | 0=>exact Ml Ip rfl rfl
  | (m + 1)=>exact .refl _
 refine pF Tryz.func40 ?_
 conv=>whnf
 (repeat' ((first|refine aU fun hh=>?_|refine aV fun hh=>?_|refine aS (fun hh=>?_) fun hh=>?_|refine kR ?_|((try refine Or.inl ?_;conv=>whnf);(try refine ⟨false,?_⟩;conv=>whnf);refine ⟨_,by exact c1,?_⟩)|fail)<;>conv=>whnf))
 refine Or.inl ⟨2,?_⟩
 conv=>whnf
 (repeat' ((first|refine y7 ?_|refine y8 ?_|refine dD ?_|refine dN ?_|refine dB ?_|refine aU fun hh=>?_|refine aV fun hh=>?_|refine aS (fun hh=>?_) fun hh=>?_|refine kR ?_|((try refine Or.inl ?_;conv=>whnf);(try refine ⟨false,?_⟩;conv=>whnf);refine ⟨_,by exact c2,?_⟩)|fail)<;>conv=>whnf))
 all_goals rfl
theorem dz {l:List Int} {D5:List (List AV)} (h:D5=l.map eI):pV (.slc 1 D5) (C8 l):=by
 subst h
 exact .slc 1 0 eI l
theorem oE:PC Tryz.prog 5 [] (.bool true):=by
 have al:=V6
 have l1:PC Tryz.prog 32 [jP (Z7 3),cG ([aP gT [0,0,0]]++dy 11)] (.tup [.agg (bE ⟨0,-1,0,true,true⟩),.bool true]):=ql (Z7 3) _ (by kernel_rfl) (by decide) (mW (by kernel_rfl)) (by kernel_rfl) _ Mi
 have l2:PC Tryz.prog 32 [jP (Z7 5),cG (dH++[aP gT [0,0,0]]++dy 11)] (.tup [.agg (bE ⟨0,0,0,true,true⟩),.bool true]):=ql (Z7 5) _ (by kernel_rfl) (by decide) (mW (by kernel_rfl)) (by kernel_rfl) _ Mj
 have p1:PC Tryz.prog 34 [C8 gT,.nils] (ord (aP gT [0,0,0])):=tb gT (by decide)
 have p2:PC Tryz.prog 34 [C8 iv,.nils] (ord (aP iv [0,0,0,0,0])):=tb iv (by decide)
 have cr:=DW (Z7 3) pR (by kernel_rfl) (by decide) (mW (by kernel_rfl)) (by kernel_rfl)
 have la:(bY (I8 (Z7 3)) pR).length=22:=by rw [jh];rfl
 have m3:=Ec
 generalize bY (I8 (Z7 3)) pR=A at cr la m3
 generalize N3 (I8 (Z7 3)) pR=W at cr m3
 obtain ⟨m1,m2,m3,m4,m5,m6,m7,m8⟩:=m3
 have o1:PC Tryz.prog 41 [.slc 1 [[i64 0],[i64 250]],.slc 1 [[i64 (-3)],[i64 9]]] (.tup [C8 [0,255],i64 0]):=by
  refine (cf [0,250] [-3,9] ⟨by kernel_rfl,rfl,by kernel_rfl⟩).sub rfl (fun i hi=>?_) (.refl _)
  match i with
  | 0=>exact dz (l:=[0,250]) rfl
  | 1=>exact dz (l:=[-3,9]) rfl
  | (m + 2)=>exact .refl _
 have o2:PC Tryz.prog 41 [.slc 1 [[i64 0],[i64 250]],.slc 1 [[i64 1]]] (.tup [.nils,i64 2]):=by
  refine (du [0,250] [1] (by decide) (by decide) (fun q=>absurd q.2.1 (by decide))).sub rfl (fun i hi=>?_) (.refl _)
  match i with
  | 0=>exact dz (l:=[0,250]) rfl
  | 1=>exact dz (l:=[1]) rfl
  | (m + 2)=>exact .refl _
 have o3:PC Tryz.prog 41 [.slc 1 [[i64 0]],.slc 1 [[i64 1]]] (.tup [.nils,i64 50]):=by
  refine (du [0] [1] (by decide) (by decide) (fun q=>absurd q.1 (by decide))).sub rfl (fun i hi=>?_) (.refl _)
  match i with
  | 0=>exact dz (l:=[0]) rfl
  | 1=>exact dz (l:=[1]) rfl
  | (m + 2)=>exact .refl _
 have r1:PC Tryz.prog 40 [jP (Z7 3),.slc 17 [BL Ip]] (BG 2):=by
  refine BM.sub rfl (fun i hi=>?_) (.refl _)
  match i with
  | 0=>exact .refl _
  | 1=>exact .slc 17 B7 BL [Ip]
  | (m + 2)=>exact .refl _
 have r2:=yk (Z7 3) (List.replicate 501 B7) (by rw [List.length_replicate];decide) (by kernel_rfl) (by rw [List.length_replicate];decide)
 have s1:PC Tryz.prog 42 [C8 [0,255],.slc 1 [[i64 0],[i64 255]]] (.bool true):=by
  refine (NR [0,255] (by decide)).sub rfl (fun i hi=>?_) (.refl _)
  match i with
  | 0=>exact .refl _
  | 1=>exact dz (l:=[0,255]) rfl
  | (m + 2)=>exact .refl _
 have k1:PC Tryz.prog 18 [jP (Z7 0)] (i64 2):=aJ (Z7 0)
 have k2:PC Tryz.prog 18 [jP ⟨⟨0,2,60,20⟩,3,4,64,192,(1,100)⟩] (i64 90):=aJ ⟨⟨0,2,60,20⟩,3,4,64,192,(1,100)⟩
 refine pF Tryz.func5 ?_
 conv=>whnf
 (repeat' ((first|refine y7 ?_|refine y8 ?_|((try refine Or.inl ?_;conv=>whnf);(try refine ⟨false,?_⟩;conv=>whnf);refine ⟨_,by first|exact W9 3|exact qj|exact p1,?_⟩)|refine lD ?_|refine lN ?_|refine kL ?_|fail);conv=>whnf))
 (refine Or.inr ⟨[],[29],by kernel_rfl,?_⟩;(conv=>whnf);refine ⟨[],_,_,_,_,⟨fT 11 (by decide),rfl,rfl,by kernel_rfl⟩,?_⟩)
 conv=>whnf
 refine ⟨⟨r8,17,B7,bD,[aP gT [0,0,0]]⟩,dy 11,rfl,⟨rfl,rfl⟩,rfl,by decide,by decide,fun y _=>⟨rfl,rfl,rfl⟩,?_⟩
 conv=>whnf
 ((first|refine Or.inl ?_|skip);(conv=>whnf);refine ⟨true,?_⟩;(conv=>whnf);refine ⟨_,l1,?_⟩;(conv=>whnf))
 (repeat' ((first|refine y7 ?_|refine y8 ?_|((try refine Or.inl ?_;conv=>whnf);(try refine ⟨false,?_⟩;conv=>whnf);refine ⟨_,by exact W9 5,?_⟩)|refine lD ?_|refine lN ?_|refine kL ?_|fail);conv=>whnf))
 (refine Or.inr ⟨[],[36],by kernel_rfl,?_⟩;(conv=>whnf);refine ⟨[],_,_,_,_,⟨qk,rfl,rfl,by kernel_rfl⟩,?_⟩)
 conv=>whnf
 (repeat' ((first|refine y7 ?_|refine y8 ?_|((try refine Or.inl ?_;conv=>whnf);(try refine ⟨false,?_⟩;conv=>whnf);refine ⟨_,by first|exact qj|exact p1,?_⟩)|refine lD ?_|refine lN ?_|refine kL ?_|fail);conv=>whnf))
 refine ⟨⟨r8,17,B7,bD,dH⟩,[aP gT [0,0,0]],rfl,rfl,⟨rfl,rfl⟩,by decide,by decide,fun y _=>⟨rfl,rfl,rfl⟩,?_⟩
 conv=>whnf
 (refine Or.inr ⟨[],[41],by kernel_rfl,?_⟩;(conv=>whnf);refine ⟨[],_,_,_,_,⟨fT 11 (by decide),rfl,rfl,by kernel_rfl⟩,?_⟩)
 conv=>whnf
 refine ⟨⟨r8,17,B7,bD,dH++[aP gT [0,0,0]]⟩,dy 11,rfl,rfl,rfl,by decide,by decide,fun y _=>⟨rfl,rfl,rfl⟩,?_⟩
 conv=>whnf
 ((first|refine Or.inl ?_|skip);(conv=>whnf);refine ⟨true,?_⟩;(conv=>whnf);refine ⟨_,l2,?_⟩;(conv=>whnf))
 (repeat' ((first|refine y7 ?_|refine y8 ?_|((try refine Or.inl ?_;conv=>whnf);(try refine ⟨false,?_⟩;conv=>whnf);refine ⟨_,by exact al,?_⟩)|refine lD ?_|refine lN ?_|refine kL ?_|fail);conv=>whnf))
 (refine Or.inr ⟨[],[68],by kernel_rfl,?_⟩;(conv=>whnf);refine ⟨[],_,_,_,_,⟨qk,rfl,rfl,by kernel_rfl⟩,?_⟩)
 conv=>whnf
 refine Or.inr ⟨Nat,[69],[],[(5,⟨r8,62,17,B7,bD⟩)],fun k=>[i64 k],fun _=>[],fun k=>[.vec 62 17 B7 bD (jS k)],fun k=>6 - k,fun k=>k<=6,?_⟩
 conv=>whnf
 refine ⟨⟨0,?_⟩,?_⟩
 ·(conv=>whnf)
  exact kK ⟨Nat.zero_le _,rfl,rfl,rfl⟩
 intro k hk
 have lb:=Mk k
 conv=>whnf
 refine ⟨fun q=>?_,fun q=>?_⟩
 ·have q:=of_decide_eq_true q
  conv=>whnf
  (repeat' ((first|refine y7 ?_|refine y8 ?_|((try refine Or.inl ?_;conv=>whnf);(try refine ⟨false,?_⟩;conv=>whnf);refine ⟨_,by first|exact FE|exact p2,?_⟩)|refine lD ?_|refine lN ?_|refine kL ?_|fail);conv=>whnf))
  refine ⟨⟨r8,17,B7,bD,jS k⟩,[aP iv [0,0,0,0,0]],rfl,rfl,⟨rfl,rfl⟩,?_,?_,fun y _=>⟨rfl,rfl,rfl⟩,?_⟩
  ·show ((jS k).length + 1) * 168<=_;omega
  ·show (jS k).length + 1<=_;omega
  conv=>whnf
  (refine Or.inr ⟨[],[76],by kernel_rfl,?_⟩;(conv=>whnf);refine ⟨[],_,_,_,_,⟨fT 1 (by decide),rfl,rfl,by kernel_rfl⟩,?_⟩)
  conv=>whnf
  have lb2:(jS k++[aP iv [0,0,0,0,0]]).length=8 + 2 * k:=by rw [List.length_append,lb];show 7 + 2 * k + 1=_;omega
  refine ⟨⟨r8,17,B7,bD,jS k++[aP iv [0,0,0,0,0]]⟩,dy 1,rfl,rfl,rfl,?_,?_,fun y _=>⟨rfl,rfl,rfl⟩,?_⟩
  ·show ((jS k++[aP iv [0,0,0,0,0]]).length + 1) * 168<=_;omega
  ·show (jS k++[aP iv [0,0,0,0,0]]).length + 1<=_;omega
  conv=>whnf
  refine ⟨k + 1,?_⟩
  conv=>whnf
  refine kK ⟨⟨?_,?_⟩,?_,rfl,rfl⟩
  ·show 6 - (k + 1) < 6 - k;omega
  ·show k + 1<=6;omega
  ·rw [C7 _ (by omega) (by omega)];rfl
 ·have q:=of_decide_eq_false q
  obtain rfl:k=6:=by omega
  clear q hk
  conv=>whnf
  (repeat' ((first|refine y7 ?_|refine y8 ?_|((try refine Or.inl ?_;conv=>whnf);(try refine ⟨false,?_⟩;conv=>whnf);refine ⟨_,by first|exact qj|exact p1,?_⟩)|refine lD ?_|refine lN ?_|refine kL ?_|fail);conv=>whnf))
  refine ⟨⟨r8,17,B7,bD,jS 6⟩,[BI 10 0,BI 10 2,aP gT [0,0,0]],rfl,rfl,⟨rfl,rfl⟩,?_,?_,fun y _=>⟨rfl,rfl,rfl⟩,?_⟩
  ·show ((jS 6).length + 3) * 168<=_;omega
  ·show (jS 6).length + 3<=_;omega
  conv=>whnf
  (repeat' ((first|refine y7 ?_|refine y8 ?_|((try refine Or.inl ?_;conv=>whnf);(try refine ⟨false,?_⟩;conv=>whnf);refine ⟨_,by exact W9 3,?_⟩)|refine lD ?_|refine lN ?_|refine kL ?_|fail);conv=>whnf))
  ((first|refine Or.inl ?_|skip);(conv=>whnf);refine ⟨true,?_⟩;(conv=>whnf);refine ⟨_,cr,?_⟩;(conv=>whnf))
  generalize (jS 6).length=N at lb ⊢
  have lb:N=19:=lb
  subst lb
  have w1:IntKind.i64.wrap (((19:Nat):Int) + 3)=22:=by decide
  have w2:IntKind.i64.wrap (((19:Nat):Int) - 2)=17:=by decide
  have w3:IntKind.i64.wrap (((19:Nat):Int) - 4)=15:=by decide
  have w4:IntKind.i64.wrap (((19:Nat):Int) + 1)=20:=by decide
  have w5:IntKind.i64.wrap (((19:Nat):Int) + 2)=21:=by decide
  have m1:(A.getD (Int.toNat (IntKind.i64.wrap (((19:Nat):Int) - 2))) Y1).e=101:=by rw [w2];exact m1
  have m2:(A.getD (Int.toNat (IntKind.i64.wrap (((19:Nat):Int) - 4))) Y1).e=0:=by rw [w3];exact m2
  have m3:(A.getD (Int.toNat (IntKind.i64.wrap (((19:Nat):Int) - 4))) Y1).n=4:=by rw [w3];exact m3
  have m4:(A.getD (Int.toNat ((19:Nat):Int)) Y1).e=100:=m4
  have m5:(A.getD (Int.toNat (IntKind.i64.wrap (((19:Nat):Int) + 1))) Y1).e=0:=by rw [w4];exact m5
  have m6:(A.getD (Int.toNat (IntKind.i64.wrap (((19:Nat):Int) + 2))) Y1).e=0:=by rw [w5];exact m6
  have m7:(A.getD (Int.toNat (IntKind.i64.wrap (((19:Nat):Int) + 2))) Y1).n=5:=by rw [w5];exact m7
  (repeat' ((first|refine aU fun hh=>?_|refine aV fun hh=>?_|refine aS (fun hh=>?_) fun hh=>?_|refine kT ?_|((try refine Or.inl ?_;conv=>whnf);(try refine ⟨false,?_⟩;conv=>whnf);refine ⟨_,by first|exact W9 0|exact W9 3,?_⟩)|fail)<;>conv=>whnf))
  ((first|refine Or.inl ?_|skip);(conv=>whnf);refine ⟨true,?_⟩;(conv=>whnf);refine ⟨_,o1,?_⟩;(conv=>whnf))
  (repeat' ((first|refine y7 ?_|refine y8 ?_|refine lD ?_|refine lN ?_|refine kL ?_|fail);conv=>whnf))
  ((first|refine Or.inl ?_|skip);(conv=>whnf);refine ⟨true,?_⟩;(conv=>whnf);refine ⟨_,o2,?_⟩;(conv=>whnf))
  (repeat' ((first|refine y7 ?_|refine y8 ?_|refine lD ?_|refine lN ?_|refine kL ?_|fail);conv=>whnf))
  ((first|refine Or.inl ?_|skip);(conv=>whnf);refine ⟨true,?_⟩;(conv=>whnf);refine ⟨_,o3,?_⟩;(conv=>whnf))
  (repeat' ((first|refine y7 ?_|refine y8 ?_|((try refine Or.inl ?_;conv=>whnf);(try refine ⟨false,?_⟩;conv=>whnf);refine ⟨_,by exact W9 3,?_⟩)|refine lD ?_|refine lN ?_|refine kL ?_|fail);conv=>whnf))
  ((first|refine Or.inl ?_|skip);(conv=>whnf);refine ⟨true,?_⟩;(conv=>whnf);refine ⟨_,r1,?_⟩;(conv=>whnf))
  (repeat' ((first|refine y7 ?_|refine y8 ?_|((try refine Or.inl ?_;conv=>whnf);(try refine ⟨false,?_⟩;conv=>whnf);refine ⟨_,by exact W9 3,?_⟩)|refine lD ?_|refine lN ?_|refine kL ?_|fail);conv=>whnf))
  refine ⟨r8,B7,BL,rfl,rfl,by omega,by omega,of_decide_eq_true (by kernel_rfl),?_⟩
  conv=>whnf
  (repeat' ((first|refine y7 ?_|refine y8 ?_|((try refine Or.inl ?_;conv=>whnf);(try refine ⟨false,?_⟩;conv=>whnf);refine ⟨_,by exact r2,?_⟩)|refine lD ?_|refine lN ?_|refine kL ?_|fail);conv=>whnf))
  (repeat' ((first|refine y7 ?_|refine y8 ?_|((try refine Or.inl ?_;conv=>whnf);(try refine ⟨false,?_⟩;conv=>whnf);refine ⟨_,by first|exact k1|exact k2,?_⟩)|refine lD ?_|refine lN ?_|refine kL ?_|fail);conv=>whnf))
  ((first|refine Or.inl ?_|skip);(conv=>whnf);refine ⟨true,?_⟩;(conv=>whnf);refine ⟨_,s1,?_⟩;(conv=>whnf))
  (repeat' ((first|refine y7 ?_|refine y8 ?_|((try refine Or.inl ?_;conv=>whnf);(try refine ⟨false,?_⟩;conv=>whnf);refine ⟨_,by first|exact k1|exact k2,?_⟩)|refine lD ?_|refine lN ?_|refine kL ?_|fail);conv=>whnf))
  all_goals rfl
end Go.Proofs.Tryz.My
namespace Go.Proofs.YtdpnpdjnaimgaaaGreat.PlantExamplesDone
open Go Go.Ev Go.Proofs.Tryz.My Go.Proofs.YtdpnpdjnaimgaaaGreat.BooksIn Go.Proofs.YtdpnpdjnaimgaaaGreat.PlantIn
open Go.ChangeShapes Go.WideShapes Go.ChangeAt Go.RowKit
theorem own:ownKnob Tryz.prog.godebug=none:=by kernel_rfl
theorem J7:laidOutB Tryz.prog=true:=by kernel_rfl
theorem kZ (w:World)  :
  Calls Tryz.prog 5 #[] w fun e w'=>e = .returned (.bool true)/\Below w.heap.size w w':=by
 refine PC.callsTrue (oE  ) Tryz.func5 (by kernel_rfl) rfl rfl fun i hi=>?_
 exact absurd hi (Nat.not_lt_zero i)
theorem lifted (os:Os) (started:os.Started) (H:Type) (enc:TypeId×Value->H) :
  ReturnsInHanded {} Tryz.checked os 5 .any (Rows.plantExamplesSpec.pre6 enc Tryz.prog Tryz.f5 Rows.plantExamplesRow.domain false) (Rows.plantExamplesSpec.post enc Tryz.prog Tryz.f5 false true false false):=by
 refine returnsInHanded_of_change (C:=Tryz.checked) own started (by kernel_rfl) Tryz.func5
  (ChangeSpec.witness6 (enc:=enc) (C:=Tryz.checked) false ⟨#[],#[],[]⟩ 8 (by kernel_rfl) (by kernel_rfl) (by kernel_rfl) (by kernel_rfl)) ?_
 intro W base args ds gs before V7 hW Ea _
 have aq:∀ (j:Nat) t v,Tryz.f5.params[j]? = some t->args[j]? = some v->Value.okWide Tryz.prog W .any base t v:=V7
 have Eb:=hW
 obtain ⟨p,q,tf,hV,rfl,Gw,dc⟩:=hW
 have hA:DataW.TrodAll enc Tryz.prog W 0 (fun _=>true) true Tryz.f5.params.toList args.toList ds p:=tf
 rw [Tryz.params5] at hA aq
 obtain ⟨ha,rfl,rfl⟩:=trodAll_nil hA
 obtain rfl:args=#[]:=by cases args;simp_all
 obtain ⟨rfl,rfl⟩:=trodVars_none hV
 clear tf V7
 refine (kZ W ).mono fun e W' ⟨he,fA⟩=>?_
 subst he
 exact ⟨_,rfl,_,_,_,[],_,[],Eb,trodAll_mk1 (shut_bool Tryz.underlying4 _),trodAll_mk0,rfl,fA.frame _,fun h=>by cases h⟩
theorem closed:joinedFacts Tryz.pinned.checked.prog 5 Tryz.f5 Rows.plantExamplesSpec Rows.plantExamplesRow=true :=
 (iM Tryz.pinned.checked.prog 5 Tryz.f5 Rows.plantExamplesSpec Rows.plantExamplesRow dT R2 N0).2 (by kernel_rfl)
theorem over:Rows.plantExamplesRow.holds Tryz.pinned (OpenSpec.ofChange Rows.plantExamplesSpec) :=
 OpenClaim.holds_of_wide 5 Tryz.f5 rfl rfl rfl rfl rfl rfl rfl ⟨rfl,rfl,rfl,rfl,rfl⟩ rfl rfl rfl rfl rfl (by kernel_rfl) Tryz.func5 closed
  (of_decide_eq_true (by kernel_rfl)) (by unfold Func.isWrapper;first|(rw [if_pos (by decide +kernel)];kernel_rfl)|(rw [if_neg (by decide +kernel)];exact ⟨rfl,rfl⟩))
  (fun os started H enc _=>lifted os started H enc)
theorem proved:Rows.PlantExamplesSaid:=over
#print axioms proved

end Go.Proofs.YtdpnpdjnaimgaaaGreat.PlantExamplesDone
