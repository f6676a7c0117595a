/- Helper lemmas. -/
import Derived.Test.YtdpnpdjnaimgaaaGreatMzWyD
set_option linter.unusedVariables false
set_option linter.unusedSimpArgs false
set_option maxRecDepth 100000
set_option maxHeartbeats 0
namespace Go.Proofs.Tryz.My
open Go Go.Ev
def Z7 (lag:Int):A5:=⟨⟨10,2,60,20⟩,lag,4,64,192,(1,100)⟩
def gT:List Int:=[0,255,0]
def iv:List Int:=[0,0,255,255,0]
def aP (p n:List Int):r8:=⟨2,0,0,20,0,ao,p,n⟩
def SA:r8:=⟨1,0,0,10,0,ao,[],[]⟩
def Pm (j9:Int):r8:=⟨3,0,0,0,j9,ao,[],[]⟩
def BI (kind j8:Int):r8:=⟨kind,j8,0,0,0,ao,[],[]⟩
def XY:x8:=((((50,10),((1,1),(1,1))),(1,1)),(2,1))
def dH:List r8:=[Pm 2,Pm 2,Pm 3,⟨4,0,0,0,0,XY,[],[]⟩,BI 5 1,BI 5 2,BI 6 0]
def dy (n:Nat):List r8:=List.replicate n SA
def LU (p:V5×Bool) (a:bX):V5×Bool:=if 0 < a.n7.length then (a.n7.getD 0 K4,true) else p
def pQ (l:List bX):V5×Bool:=l.foldl LU (K4,false)
theorem Ie:pQ (bY (I8 (Z7 3)) (dH++[aP gT [5,-5,5]]++dy 11))=(⟨0,0,1,false,false⟩,true):=by kernel_rfl
theorem Ig:pQ (bY (I8 (Z7 3)) (dH++[aP iv [0,0,0,0,0]]++dy 11))=(⟨0,0,2,true,true⟩,true):=by kernel_rfl
theorem BJ (n d:Int):PC Tryz.prog 82 [i64 n,i64 d] (fr (n,d)):=by
 refine pF Tryz.func82 ?_
 conv=>whnf
 all_goals rfl
theorem W9 (lag:Int):PC Tryz.prog 33 [i64 lag] (jP (Z7 lag)):=by
 refine pF Tryz.func33 ?_
 conv=>whnf
 (repeat' ((first|refine y7 ?_|refine y8 ?_|((try refine Or.inl ?_;conv=>whnf);(try refine ⟨false,?_⟩;conv=>whnf);refine ⟨_,by exact BJ _ _,?_⟩)|refine lD ?_|refine lN ?_|refine kL ?_|fail);conv=>whnf))
 all_goals rfl
theorem qj:PC Tryz.prog 35 [] (C8 gT):=by
 have c:PC Tryz.prog 35 [] (.slc 1 [[i64 0],[i64 255],[i64 0]]):=by
  refine pF Tryz.func35 ?_
  conv=>whnf
  try rfl
 exact c.sub rfl (fun i hi=>absurd hi (Nat.not_lt_zero i)) (.slc 1 0 eI gT)
theorem FE:PC Tryz.prog 39 [] (C8 iv):=by
 have c:PC Tryz.prog 39 [] (.slc 1 [[i64 0],[i64 0],[i64 255],[i64 255],[i64 0]]):=by
  refine pF Tryz.func39 ?_
  conv=>whnf
  try rfl
 exact c.sub rfl (fun i hi=>absurd hi (Nat.not_lt_zero i)) (.slc 1 0 eI iv)
theorem LV (p n:List Int) (hn:0 < n.length):PC Tryz.prog 34 [C8 p,C8 n] (k8 (aP p n)):=by
 refine pF Tryz.func34 ?_
 conv=>whnf
 (repeat' ((first|refine aU fun hh=>?_|refine aV fun hh=>?_|refine aS (fun hh=>?_) fun hh=>?_|refine kR ?_|fail)<;>conv=>whnf))
 all_goals rfl
theorem LW (p:List Int) (a b c:Int):PC Tryz.prog 34 [C8 p,.slc 1 [[i64 a],[i64 b],[i64 c]]] (k8 (aP p [a,b,c])):=by
 refine (LV p [a,b,c] (Nat.zero_lt_succ _)).sub rfl (fun i hi=>?_) (.refl _)
 match i with
 | 0=>exact .refl _
 | 1=>exact .slc 1 0 eI [a,b,c]
 | (m + 2)=>exact .refl _
theorem tb (p:List Int) (hp:p.length < 2 ^ 20):PC Tryz.prog 34 [C8 p,.nils] (k8 (aP p (List.replicate p.length 0))):=by
 refine pF Tryz.func34 ?_
 conv=>whnf
 (repeat' ((first|refine y7 ?_|refine y8 ?_|refine lD ?_|refine lN ?_|refine kL ?_|fail);conv=>whnf))
 refine ⟨Int,0,eI,rfl,rfl,by omega,by omega,of_decide_eq_true (by kernel_rfl),?_⟩
 conv=>whnf
 all_goals rfl
theorem fT (n:Nat) (hn:n < 2 ^ 20):PW Tryz.prog 36 [i64 n] [] (.own 0) [.vec 62 17 B7 bD (dy n)]:=by
 refine pW Tryz.func36 ⟨by kernel_rfl,?_⟩
 conv=>whnf
 refine Or.inr ⟨Nat,[5],[],[(3,⟨r8,62,17,B7,bD⟩)],fun k=>[i64 k],fun _=>[],fun k=>[.vec 62 17 B7 bD (dy k)],fun k=>n - k,fun k=>k<=n,?_⟩
 conv=>whnf
 refine ⟨⟨0,?_⟩,?_⟩
 ·(conv=>whnf)
  exact kK ⟨Nat.zero_le _,rfl,rfl,rfl⟩
 intro k hk
 have lk:(dy k).length=k:=List.length_replicate
 have ls:dy k++[SA]=dy (k + 1):=(List.replicate_succ' ..).symm
 conv=>whnf
 refine ⟨fun q=>?_,fun q=>?_⟩
 ·have q:=of_decide_eq_true q
  have L7:k < n:=by omega
  conv=>whnf
  (repeat' ((first|refine aU fun hh=>?_|refine aV fun hh=>?_|refine aS (fun hh=>?_) fun hh=>?_|refine kT ?_|fail)<;>conv=>whnf))
  refine ⟨⟨r8,17,B7,bD,dy k⟩,[SA],rfl,rfl,⟨rfl,rfl⟩,?_,?_,fun y _=>⟨rfl,rfl,rfl⟩,?_⟩
  ·show ((dy k).length + 1) * 168<=_;omega
  ·show (dy k).length + 1<=_;omega
  conv=>whnf
  refine ⟨k + 1,?_⟩
  conv=>whnf
  refine kK ⟨⟨?_,?_⟩,?_,rfl,?_⟩
  ·show n - (k + 1) < n - k;omega
  ·show k + 1<=n;omega
  ·rw [C7 _ (by omega) (by omega)];rfl
  ·rw [ls]
 ·have q:=of_decide_eq_false q
  obtain rfl:k=n:=by omega
  conv=>whnf
  refine ⟨[3],by kernel_rfl,?_⟩
  conv=>whnf
  exact ⟨rfl,rfl⟩
theorem qk:PW Tryz.prog 37 [] [] (.own 0) [.vec 62 17 B7 bD dH]:=by
 have c:PW Tryz.prog 37 [] [] (.own 0) [.lit 62 17 (dH.map fun o=>(((bD o).set 15 .nils).set 16 .nils))]:=by
  refine pW Tryz.func37 ⟨by kernel_rfl,?_⟩
  conv=>whnf
  (repeat' ((first|refine y7 ?_|refine y8 ?_|((try refine Or.inl ?_;conv=>whnf);(try refine ⟨false,?_⟩;conv=>whnf);refine ⟨_,by exact BJ _ _,?_⟩)|refine lD ?_|refine lN ?_|refine kL ?_|fail);conv=>whnf))
  refine ⟨[16],by kernel_rfl,?_⟩
  conv=>whnf
  first|exact ⟨rfl,rfl⟩
 refine c.lit_vec rfl fun i j hi hj=>?_
 have e:((dH.map fun o=>(((bD o).set 15 .nils).set 16 .nils)).getD i [])=(((bD (dH.getD i B7)).set 15 .nils).set 16 .nils):=by
  simp only [List.getD,List.getElem?_map,List.getElem?_eq_getElem hi,Option.map_some,Option.getD_some]
 have h1:(dH.getD i B7).tru=[]/\(dH.getD i B7).a8=[]:=by
  have:∀ o ∈ dH,o.tru=[]/\o.a8=[]:=by
   intro o ho
   simp only [dH,Pm,BI,List.mem_cons,List.not_mem_nil,or_false] at ho
   rcases ho with rfl|rfl|rfl|rfl|rfl|rfl|rfl<;>exact ⟨rfl,rfl⟩
  rw [x9 hi]
  exact this _ (List.getElem_mem hi)
 rw [e]
 generalize dH.getD i B7=o at h1
 match j,hj with
 | 0,_=>exact .int _ _
 | 1,_=>exact .int _ _
 | 2,_=>exact .int _ _
 | 3,_=>exact .int _ _
 | 4,_=>exact .int _ _
 | 5,_=>exact .int _ _
 | 6,_=>exact .int _ _
 | 7,_=>exact .int _ _
 | 8,_=>exact .int _ _
 | 9,_=>exact .int _ _
 | 10,_=>exact .int _ _
 | 11,_=>exact .int _ _
 | 12,_=>exact .int _ _
 | 13,_=>exact .int _ _
 | 14,_=>exact .int _ _
 | 15,_=>show rD .nils (C8 o.tru);rw [h1.1];exact .nils _ _ _
 | 16,_=>show rD .nils (C8 o.a8);rw [h1.2];exact .nils _ _ _
 | (m + 17),h=>exact absurd h (by omega)
theorem UZ {n:Nat} (h:(0:Int) < (n:Nat)):0 < n:=by omega
theorem Va {n:Nat} (h:¬(0:Int) < (n:Nat)):¬0 < n:=by omega
def YT:Option V5->V5×Bool
 | none=>(K4,false)
 | some y=>(y,true)
def bg (i:Nat×Option V5):List AV:=match i with
 | (k,none)=>[i64 k,.ff]
 | (k,some _)=>[i64 k,.tt]
def bo (i:Nat×Option V5):List AV:=match i with
 | (_,none)=>[i64 0,i64 0,u8 0,.ff,.ff]
 | (_,some y)=>bE y
theorem Ih (l:List bX) (a:bX):pQ (l++[a])=LU (pQ l) a:=by
 unfold pQ
 rw [List.foldl_append]
 rfl
theorem DX {l:List bX} {k:Nat} (hk:k < l.length):l.take (k + 1)=l.take k++[l.getD k Y1]:=by
 rw [List.take_add_one,List.getElem?_eq_getElem hk]
 simp [List.getD,hk]
theorem ql (l:A5) (os:List r8) (h:J3 l=0) (hle:os.length<=500) (hk:∀ i,pz (os.getD i B7)) (hv:os.all B2=true) (y:V5) (hy:pQ (bY (I8 l) os)=(y,true)):PC Tryz.prog 32 [jP l,cG os] (.tup [.agg (bE y),.bool true]):=by
 have c1:=DW l os h hle hk hv
 have la:=jh os (I8 l)
 generalize bY (I8 l) os=A at *
 generalize N3 (I8 l) os=w at *
 refine pF Tryz.func32 ?_
 conv=>whnf
 (repeat' ((first|refine aU fun hh=>?_|refine aV fun hh=>?_|refine aS (fun hh=>?_) fun hh=>?_|refine kR ?_|((try refine Or.inl ?_;conv=>whnf);(try refine ⟨false,?_⟩;conv=>whnf);refine ⟨_,by exact c1,?_⟩)|fail)<;>conv=>whnf))
 refine Or.inr ⟨Nat×Option V5,[32,10],[9],[],bg,fun i=>[.cells 83 (bo i)],fun _=>[],fun i=>A.length - i.1,fun i=>i.1<=A.length/\pQ (A.take i.1)=YT i.2,?_⟩
 conv=>whnf
 refine ⟨⟨(0,none),?_⟩,?_⟩
 ·(conv=>whnf)
  refine kK ⟨⟨Nat.zero_le _,?_⟩,rfl,rfl,rfl⟩
  rfl
 rintro ⟨k,o⟩ ⟨Pl,hp⟩
 have Pl:k<=A.length:=Pl
 have hp:pQ (A.take k)=YT o:=hp
 have fin:¬(k:Int) < (A.length:Nat)->∃ y',o=some y'/\y'=y:=fun q=>by
  have ek:A.take k=A:=List.take_of_length_le (by omega)
  rw [ek,hy] at hp
  cases o with
  | none=>cases hp
  | some y'=>exact ⟨y',rfl,(congrArg Prod.fst hp).symm⟩
 have st:k < A.length->pQ (A.take (k + 1))=LU (pQ (A.take k)) (A.getD k Y1):=fun q=>by rw [DX q];exact Ih _ _
 cases o with
 | none =>
  conv=>whnf
  refine ⟨fun q=>?_,fun q=>?_⟩
  ·have q:=of_decide_eq_true q
   have L7:k < A.length:=by omega
   have st:=st L7
   rw [hp] at st
   unfold LU at st
   conv=>whnf
   (repeat' ((first|refine aU fun hh=>?_|refine aV fun hh=>?_|refine aS (fun hh=>?_) fun hh=>?_|refine kT ?_|fail)<;>conv=>whnf))
   ·refine ⟨(k + 1,some ((A.getD k Y1).n7.getD 0 K4)),?_⟩
    conv=>whnf
    refine kK ⟨⟨?_,?_,?_⟩,?_,rfl,rfl⟩
    ·show A.length - (k + 1) < A.length - k;omega
    ·show k + 1<=A.length;omega
    ·rw [st,if_pos (UZ (by assumption))];rfl
    ·rw [C7 _ (by omega) (by omega)];rfl
   ·refine ⟨(k + 1,none),?_⟩
    conv=>whnf
    refine kK ⟨⟨?_,?_,?_⟩,?_,rfl,rfl⟩
    ·show A.length - (k + 1) < A.length - k;omega
    ·show k + 1<=A.length;omega
    ·rw [st,if_neg (Va (by assumption))]
    ·rw [C7 _ (by omega) (by omega)];rfl
  ·obtain ⟨_,q,_⟩:=fin (of_decide_eq_false q)
   cases q
 | some z =>
  conv=>whnf
  refine ⟨fun q=>?_,fun q=>?_⟩
  ·have q:=of_decide_eq_true q
   have L7:k < A.length:=by omega
   have st:=st L7
   rw [hp] at st
   unfold LU at st
   conv=>whnf
   (repeat' ((first|refine aU fun hh=>?_|refine aV fun hh=>?_|refine aS (fun hh=>?_) fun hh=>?_|refine kT ?_|fail)<;>conv=>whnf))
   ·refine ⟨(k + 1,some ((A.getD k Y1).n7.getD 0 K4)),?_⟩
    conv=>whnf
    refine kK ⟨⟨?_,?_,?_⟩,?_,rfl,rfl⟩
    ·show A.length - (k + 1) < A.length - k;omega
    ·show k + 1<=A.length;omega
    ·rw [st,if_pos (UZ (by assumption))];rfl
    ·rw [C7 _ (by omega) (by omega)];rfl
   ·refine ⟨(k + 1,some z),?_⟩
    conv=>whnf
    refine kK ⟨⟨?_,?_,?_⟩,?_,rfl,rfl⟩
    ·show A.length - (k + 1) < A.length - k;omega
    ·show k + 1<=A.length;omega
    ·rw [st,if_neg (Va (by assumption))]
    ·rw [C7 _ (by omega) (by omega)];rfl
  ·obtain ⟨_,q1,q2⟩:=fin (of_decide_eq_false q)
   cases q1
   subst q2
   conv=>whnf
   (repeat' ((first|refine y7 ?_|refine y8 ?_|refine lD ?_|refine lN ?_|refine kL ?_|fail);conv=>whnf))
   all_goals rfl
def SB (o:r8):Bool:=Nat.blt o.tru.length 1000 && (Nat.blt o.a8.length 1000 && decide (0<=o.j9/\o.j9<=255))
theorem mW {os:List r8} (h:os.all SB=true) (i:Nat):pz (os.getD i B7):=by
 have one:∀ o,SB o=true->pz o:=fun o h=>by
  unfold SB at h
  simp only [Bool.and_eq_true,decide_eq_true_eq,Nat.blt_eq] at h
  exact ⟨by omega,by omega,h.2.2⟩
 by_cases hi:i < os.length
 ·rw [x9 hi];exact one _ (List.all_eq_true.1 h _ (List.getElem_mem hi))
 ·have e:os.getD i B7=B7:=by simp [List.getD,List.getElem?_eq_none (Nat.le_of_not_lt hi)]
  rw [e];exact one _ (by decide)
theorem V6:PC Tryz.prog 38 [] (.bool true):=by
 have l1:PC Tryz.prog 32 [jP (Z7 3),cG (dH++[aP gT [5,-5,5]]++dy 11)] (.tup [.agg (bE ⟨0,0,1,false,false⟩),.bool true]):=ql (Z7 3) _ (by kernel_rfl) (by decide) (mW (by kernel_rfl)) (by kernel_rfl) _ Ie
 have l2:PC Tryz.prog 32 [jP (Z7 3),cG (dH++[aP iv [0,0,0,0,0]]++dy 11)] (.tup [.agg (bE ⟨0,0,2,true,true⟩),.bool true]):=ql (Z7 3) _ (by kernel_rfl) (by decide) (mW (by kernel_rfl)) (by kernel_rfl) _ Ig
 have p1:=LW gT 5 (-5) 5
 have p2:PC Tryz.prog 34 [C8 iv,.nils] (k8 (aP iv [0,0,0,0,0])):=tb iv (by decide)
 refine pF Tryz.func38 ?_
 conv=>whnf
 (repeat' ((first|refine y7 ?_|refine y8 ?_|((try refine Or.inl ?_;conv=>whnf);(try refine ⟨false,?_⟩;conv=>whnf);refine ⟨_,by exact W9 3,?_⟩)|refine lD ?_|refine lN ?_|refine kL ?_|fail);conv=>whnf))
 (refine Or.inr ⟨[],[7],by kernel_rfl,?_⟩;(conv=>whnf);refine ⟨[],_,_,_,_,⟨qk,rfl,rfl,by kernel_rfl⟩,?_⟩)
 conv=>whnf
 (repeat' ((first|refine y7 ?_|refine y8 ?_|((try refine Or.inl ?_;conv=>whnf);(try refine ⟨false,?_⟩;conv=>whnf);refine ⟨_,by exact qj,?_⟩)|refine lD ?_|refine lN ?_|refine kL ?_|fail);conv=>whnf))
 ((first|refine Or.inl ?_|skip);(conv=>whnf);refine ⟨true,?_⟩;(conv=>whnf);refine ⟨_,p1,?_⟩;(conv=>whnf))
 refine ⟨⟨r8,17,B7,bD,dH⟩,[aP gT [5,-5,5]],rfl,rfl,⟨rfl,rfl⟩,by decide,by decide,fun y _=>⟨rfl,rfl,rfl⟩,?_⟩
 conv=>whnf
 (refine Or.inr ⟨[],[13],by kernel_rfl,?_⟩;(conv=>whnf);refine ⟨[],_,_,_,_,⟨fT 11 (by decide),rfl,rfl,by kernel_rfl⟩,?_⟩)
 conv=>whnf
 refine ⟨⟨r8,17,B7,bD,dH++[aP gT [5,-5,5]]⟩,dy 11,rfl,rfl,rfl,by decide,by decide,fun y _=>⟨rfl,rfl,rfl⟩,?_⟩
 conv=>whnf
 ((first|refine Or.inl ?_|skip);(conv=>whnf);refine ⟨true,?_⟩;(conv=>whnf);refine ⟨_,l1,?_⟩;(conv=>whnf))
 (repeat' ((first|refine y7 ?_|refine y8 ?_|((try refine Or.inl ?_;conv=>whnf);(try refine ⟨false,?_⟩;conv=>whnf);refine ⟨_,by exact W9 3,?_⟩)|refine lD ?_|refine lN ?_|refine kL ?_|fail);conv=>whnf))
 (refine Or.inr ⟨[],[20],by kernel_rfl,?_⟩;(conv=>whnf);refine ⟨[],_,_,_,_,⟨qk,rfl,rfl,by kernel_rfl⟩,?_⟩)
 conv=>whnf
 (repeat' ((first|refine y7 ?_|refine y8 ?_|((try refine Or.inl ?_;conv=>whnf);(try refine ⟨false,?_⟩;conv=>whnf);refine ⟨_,by first|exact FE|exact p2,?_⟩)|refine lD ?_|refine lN ?_|refine kL ?_|fail);conv=>whnf))
 refine ⟨⟨r8,17,B7,bD,dH⟩,[aP iv [0,0,0,0,0]],rfl,rfl,⟨rfl,rfl⟩,by decide,by decide,fun y _=>⟨rfl,rfl,rfl⟩,?_⟩
 conv=>whnf
 (refine Or.inr ⟨[],[25],by kernel_rfl,?_⟩;(conv=>whnf);refine ⟨[],_,_,_,_,⟨fT 11 (by decide),rfl,rfl,by kernel_rfl⟩,?_⟩)
 conv=>whnf
 refine ⟨⟨r8,17,B7,bD,dH++[aP iv [0,0,0,0,0]]⟩,dy 11,rfl,rfl,rfl,by decide,by decide,fun y _=>⟨rfl,rfl,rfl⟩,?_⟩
 conv=>whnf
 ((first|refine Or.inl ?_|skip);(conv=>whnf);refine ⟨true,?_⟩;(conv=>whnf);refine ⟨_,l2,?_⟩;(conv=>whnf))
 (repeat' ((first|refine y7 ?_|refine y8 ?_|refine lD ?_|refine lN ?_|refine kL ?_|fail);conv=>whnf))
 all_goals (first|rfl|kernel_rfl)

end Go.Proofs.Tryz.My
