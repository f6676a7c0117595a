/- A helper text: contracts of functions of the program, and plain lemmas. -/
import Derived.Test.YtdpnpdjnaimgaaaGreatMzWaA
import Derived.Test.YtdpnpdjnaimgaaaGreatEvSix
import Derived.Test.YtdpnpdjnaimgaaaGreatMzWyD
set_option maxRecDepth 100000
set_option maxHeartbeats 0
set_option linter.unusedVariables false
set_option linter.unusedSimpArgs false
namespace Go.Proofs.Tryz.My
open Go Go.Ev
def smpL (lag:Int):LineT:=⟨⟨10,2,60,20⟩,lag,4,64,192,(1,100)⟩
def gudP:List Int:=[0,255,0]
def widP:List Int:=[0,0,255,255,0]
def ordP (p n:List Int):OrderT:=⟨2,0,0,20,0,gau0,p,n⟩
def ordC:OrderT:=⟨1,0,0,10,0,gau0,[],[]⟩
def ordU (role:Int):OrderT:=⟨3,0,0,0,role,gau0,[],[]⟩
def ordK (kind user:Int):OrderT:=⟨kind,user,0,0,0,gau0,[],[]⟩
def temG:GauT:=((((50,10),((1,1),(1,1))),(1,1)),(2,1))
def temO:List OrderT:=[ordU 2,ordU 2,ordU 3,⟨4,0,0,0,0,temG,[],[]⟩,ordK 5 1,ordK 5 2,ordK 6 0]
def cntL (n:Nat):List OrderT:=List.replicate n ordC
def lasO (p:OutT×Bool) (a:AnsT):OutT×Bool:=if 0 < a.outs.length then (a.outs.getD 0 out0,true) else p
def lasF (l:List AnsT):OutT×Bool:=l.foldl lasO (out0,false)
theorem b1b:lasF (runA (newT (smpL 3)) (temO++[ordP gudP [5,-5,5]]++cntL 11))=(⟨0,0,1,false,false⟩,true):=by kernel_rfl
theorem b1c:lasF (runA (newT (smpL 3)) (temO++[ordP widP [0,0,0,0,0]]++cntL 11))=(⟨0,0,2,true,true⟩,true):=by kernel_rfl
theorem a8a (n d:Int):PC Tryz.prog 82 [i64 n,i64 d] (fr (n,d)):=by
 refine a7 hm Tryz.func82 (by kernel_rfl) ?_
 conv=>whnf
 all_goals rfl
theorem a4V (lag:Int):PC Tryz.prog 33 [i64 lag] (lin (smpL lag)):=by
 refine a7 hm Tryz.func33 (by kernel_rfl) ?_
 conv=>whnf
 (repeat' ((first | refine ansT ?_ | refine ansF ?_|((try (refine Or.inl ?_;conv=>whnf));(try (refine ⟨false,?_⟩;conv=>whnf));refine ⟨_,by exact a8a _ _,?_⟩) | refine ansD (by first|(simp [*];done)|omega) ?_ | refine ansN (by first|(simp [*];done)|omega) ?_ | refine ⟨by kernel_rfl,?_⟩ | refine ansB (by decide) (by first | decide | (simp; done) | (simp only [List.length_cons,List.length_nil]; decide)) ?_|fail);conv=>whnf))
 all_goals rfl
theorem b4p:PC Tryz.prog 35 [] (ints gudP):=by
 have c:PC Tryz.prog 35 [] (.slc 1 [[i64 0],[i64 255],[i64 0]]):=by
  refine a7 hm Tryz.func35 (by kernel_rfl) ?_
  conv=>whnf
  try rfl
 exact c.sub rfl (fun i hi=>absurd hi (Nat.not_lt_zero i)) (.slc 1 0 eI gudP)
theorem b4q:PC Tryz.prog 39 [] (ints widP):=by
 have c:PC Tryz.prog 39 [] (.slc 1 [[i64 0],[i64 0],[i64 255],[i64 255],[i64 0]]):=by
  refine a7 hm Tryz.func39 (by kernel_rfl) ?_
  conv=>whnf
  try rfl
 exact c.sub rfl (fun i hi=>absurd hi (Nat.not_lt_zero i)) (.slc 1 0 eI widP)
theorem b27 (p n:List Int) (hn:0 < n.length):PC Tryz.prog 34 [ints p,ints n] (ord (ordP p n)):=by
 refine a7 hm Tryz.func34 (by kernel_rfl) ?_
 conv=>whnf
 (repeat' first|(refine ansS (fun hh=>?_) (fun hh=>?_)<;>(try simp only [ansX] at hh)<;>first|(exfalso;first|omega|(simp [*] at hh;done)|(revert hh;decide))|exact absurd (by assumption) hh|conv=>whnf)|((first|refine kR ?_|refine aM ?_|refine aL ?_|refine aN ?_|fail);conv=>whnf))
 all_goals rfl
theorem b28 (p:List Int) (a b c:Int):PC Tryz.prog 34 [ints p,.slc 1 [[i64 a],[i64 b],[i64 c]]] (ord (ordP p [a,b,c])):=by
 refine (b27 p [a,b,c] (Nat.zero_lt_succ _)).sub rfl (fun i hi => ?_) (.refl _)
 match i with
 | 0=>exact .refl _
 | 1=>exact .slc 1 0 eI [a,b,c]
 | (m + 2)=>exact .refl _
theorem b29 (p:List Int) (hp:p.length < 2 ^ 20):PC Tryz.prog 34 [ints p,.nils] (ord (ordP p (List.replicate p.length 0))):=by
 refine a7 hm Tryz.func34 (by kernel_rfl) ?_
 conv=>whnf
 (repeat' ((first|refine ansT ?_|refine ansF ?_|refine ansD (by first|(simp [*];done)|omega) ?_ | refine ansN (by first|(simp [*];done)|omega) ?_ | refine ⟨by kernel_rfl,?_⟩ | refine ansB (by decide) (by first | decide | (simp; done) | (simp only [List.length_cons,List.length_nil]; decide)) ?_|fail);conv=>whnf))
 refine ⟨Int,0,eI,rfl,rfl,by omega,by omega,of_decide_eq_true (by kernel_rfl),?_⟩
 conv=>whnf
 all_goals rfl
theorem a4W (n:Nat) (hn:n < 2 ^ 20):PW Tryz.prog 36 [i64 n] [] (.own 0) [.vec 62 17 ord0 eOrd (cntL n)]:=by
 refine a9 hm Tryz.func36 (by kernel_rfl) ⟨by kernel_rfl,?_⟩
 conv=>whnf
 refine Or.inr ⟨Nat,[5],[],[(3,⟨OrderT,62,17,ord0,eOrd⟩)],fun k=>[i64 k],fun _=>[],fun k=>[.vec 62 17 ord0 eOrd (cntL k)],fun k=>n - k,fun k=>k<=n,?_⟩
 conv=>whnf
 refine ⟨⟨0,?_⟩,?_⟩
 ·(conv=>whnf)
  exact ⟨⟨Nat.zero_le _,rfl,rfl,rfl⟩,by kernel_rfl,by kernel_rfl⟩
 intro k hk
 have lk:(cntL k).length=k:=List.length_replicate
 have ls:cntL k++[ordC]=cntL (k + 1):=(List.replicate_succ' ..).symm
 conv=>whnf
 refine ⟨fun q => ?_,fun q => ?_⟩
 ·have q:=of_decide_eq_true q
  have hkk:k < n:=by omega
  conv=>whnf
  (repeat' first|(refine ansS (fun hh=>?_) (fun hh=>?_)<;>(try simp only [ansX] at hh)<;>first|(exfalso;first|omega|(simp [*] at hh;done)|(revert hh;decide))|exact absurd (by assumption) hh|conv=>whnf)|((first|refine kR ?_|refine aM ?_|refine aL ?_|refine aN ?_|refine aT ?_|fail);conv=>whnf))
  refine ⟨⟨OrderT,17,ord0,eOrd,cntL k⟩,[ordC],rfl,rfl,⟨rfl,rfl⟩,?_,?_,fun y _=>⟨rfl,rfl,rfl⟩,?_⟩
  ·show ((cntL k).length + 1) * 168<=_; omega
  ·show (cntL k).length + 1<=_; omega
  conv=>whnf
  refine ⟨k + 1,?_⟩
  conv=>whnf
  refine ⟨⟨⟨?_,?_⟩,?_,rfl,?_⟩,by kernel_rfl,by kernel_rfl⟩
  ·show n - (k + 1) < n - k; omega
  ·show k + 1<=n; omega
  ·rw [w64 _ (by omega) (by omega)]; rfl
  ·rw [ls]
 ·have q:=of_decide_eq_false q
  obtain rfl:k=n:=by omega
  conv=>whnf
  refine ⟨[3],by kernel_rfl,?_⟩
  conv=>whnf
  exact ⟨rfl,rfl⟩
theorem a9X:PW Tryz.prog 37 [] [] (.own 0) [.vec 62 17 ord0 eOrd temO]:=by
 have c:PW Tryz.prog 37 [] [] (.own 0) [.lit 62 17 (temO.map fun o=>(((eOrd o).set 15 .nils).set 16 .nils))]:=by
  refine a9 hm Tryz.func37 (by kernel_rfl) ⟨by kernel_rfl,?_⟩
  conv=>whnf
  (repeat' ((first | refine ansT ?_ | refine ansF ?_|((try (refine Or.inl ?_;conv=>whnf));(try (refine ⟨false,?_⟩;conv=>whnf));refine ⟨_,by exact a8a _ _,?_⟩) | refine ansD (by first|(simp [*];done)|omega) ?_ | refine ansN (by first|(simp [*];done)|omega) ?_ | refine ⟨by kernel_rfl,?_⟩ | refine ansB (by decide) (by first | decide | (simp; done) | (simp only [List.length_cons,List.length_nil]; decide)) ?_|fail);conv=>whnf))
  refine ⟨[16],by kernel_rfl,?_⟩
  conv=>whnf
  first | exact ⟨rfl,rfl⟩
 refine c.lit_vec rfl fun i j hi hj => ?_
 have e:((temO.map fun o=>(((eOrd o).set 15 .nils).set 16 .nils)).getD i [])=(((eOrd (temO.getD i ord0)).set 15 .nils).set 16 .nils):=by
  simp only [List.getD,List.getElem?_map,List.getElem?_eq_getElem hi,Option.map_some,Option.getD_some]
 have h1:(temO.getD i ord0).tru=[]/\(temO.getD i ord0).noise=[]:=by
  have:∀ o ∈ temO,o.tru=[]/\o.noise=[]:=by
   intro o ho
   simp only [temO,ordU,ordK,List.mem_cons,List.not_mem_nil,or_false] at ho
   rcases ho with rfl | rfl | rfl | rfl | rfl | rfl | rfl<;>exact ⟨rfl,rfl⟩
  rw [l0 hi]
  exact this _ (List.getElem_mem hi)
 rw [e]
 generalize temO.getD i ord0=o at h1
 match j,hj with
 | 0,_=>exact .int _ _
 | 1,_=>exact .int _ _
 | 2,_=>exact .int _ _
 | 3,_=>exact .int _ _
 | 4,_=>exact .int _ _
 | 5,_=>exact .int _ _
 | 6,_=>exact .int _ _
 | 7,_=>exact .int _ _
 | 8,_=>exact .int _ _
 | 9,_=>exact .int _ _
 | 10,_=>exact .int _ _
 | 11,_=>exact .int _ _
 | 12,_=>exact .int _ _
 | 13,_=>exact .int _ _
 | 14,_=>exact .int _ _
 | 15,_=>show a2U .nils (ints o.tru); rw [h1.1]; exact .nils _ _ _
 | 16,_=>show a2U .nils (ints o.noise); rw [h1.2]; exact .nils _ _ _
 | (m + 17),h=>exact absurd h (by omega)
theorem posN {n:Nat} (h:(0:Int) < (n:Nat)):0 < n:=by omega
theorem negN {n:Nat} (h:¬(0:Int) < (n:Nat)):¬0 < n:=by omega
def lsP:Option OutT->OutT×Bool
 | none=>(out0,false)
 | some y=>(y,true)
def lsV (i:Nat×Option OutT):List AV:=match i with
 | (k,none)=>[i64 k,.ff]
 | (k,some _)=>[i64 k,.tt]
def lsC (i:Nat×Option OutT):List AV:=match i with
 | (_,none)=>[i64 0,i64 0,u8 0,.ff,.ff]
 | (_,some y)=>eOut y
theorem b1d (l:List AnsT) (a:AnsT):lasF (l++[a])=lasO (lasF l) a:=by
 unfold lasF
 rw [List.foldl_append]
 rfl
theorem a9d {l:List AnsT} {k:Nat} (hk:k < l.length):l.take (k + 1)=l.take k++[l.getD k ans0]:=by
 rw [List.take_add_one,List.getElem?_eq_getElem hk]
 simp [List.getD,hk]
theorem a9Y (l:LineT) (os:List OrderT) (h:S5 l=0) (hle:os.length<=500) (hk:∀ i,OkayO (os.getD i ord0)) (hv:os.all ordB=true) (y:OutT) (hy:lasF (runA (newT l) os)=(y,true)):PC Tryz.prog 32 [lin l,ords os] (.tup [.agg (eOut y),.bool true]):=by
 have c1:=b5n l os h hle hk hv
 have la:=a3z os (newT l)
 generalize runA (newT l) os=A at *
 generalize runW (newT l) os=w at *
 refine a7 hm Tryz.func32 (by kernel_rfl) ?_
 conv=>whnf
 (repeat' first|(refine ansS (fun hh=>?_) (fun hh=>?_)<;>(try simp only [ansX] at hh)<;>first|(exfalso;first|omega|(simp [*] at hh;done)|(revert hh;decide))|exact absurd (by assumption) hh|conv=>whnf)|((first|refine kR ?_|refine aM ?_|refine aL ?_|refine aN ?_|((try (refine Or.inl ?_;conv=>whnf));(try (refine ⟨false,?_⟩;conv=>whnf));refine ⟨_,by exact c1,?_⟩)|fail);conv=>whnf))
 refine Or.inr ⟨Nat×Option OutT,[32,10],[9],[],lsV,fun i=>[.cells 83 (lsC i)],fun _=>[],fun i=>A.length - i.1,fun i=>i.1<=A.length/\lasF (A.take i.1)=lsP i.2,?_⟩
 conv=>whnf
 refine ⟨⟨(0,none),?_⟩,?_⟩
 ·(conv=>whnf)
  refine ⟨⟨⟨Nat.zero_le _,?_⟩,rfl,rfl,rfl⟩,by kernel_rfl,by kernel_rfl⟩
  rfl
 rintro ⟨k,o⟩ ⟨hkl,hp⟩
 have hkl:k<=A.length:=hkl
 have hp:lasF (A.take k)=lsP o:=hp
 have fin:¬(k:Int) < (A.length:Nat)->∃ y',o=some y'/\y'=y:=fun q=>by
  have ek:A.take k=A:=List.take_of_length_le (by omega)
  rw [ek,hy] at hp
  cases o with
  | none=>cases hp
  | some y'=>exact ⟨y',rfl,(congrArg Prod.fst hp).symm⟩
 have st:k < A.length->lasF (A.take (k + 1))=lasO (lasF (A.take k)) (A.getD k ans0):=fun q=>by rw [a9d q]; exact b1d _ _
 cases o with
 | none =>
  conv=>whnf
  refine ⟨fun q => ?_,fun q => ?_⟩
  ·have q:=of_decide_eq_true q
   have hkk:k < A.length:=by omega
   have st:=st hkk
   rw [hp] at st
   unfold lasO at st
   conv=>whnf
   (repeat' first|(refine ansS (fun hh=>?_) (fun hh=>?_)<;>(try simp only [ansX] at hh)<;>first|(exfalso;first|omega|(simp [*] at hh;done)|(revert hh;decide))|exact absurd (by assumption) hh|conv=>whnf)|((first|refine kR ?_|refine aM ?_|refine aL ?_|refine aN ?_|refine aT ?_|fail);conv=>whnf))
   ·refine ⟨(k + 1,some ((A.getD k ans0).outs.getD 0 out0)),?_⟩
    conv=>whnf
    refine ⟨⟨⟨?_,?_,?_⟩,?_,rfl,rfl⟩,by kernel_rfl,by kernel_rfl⟩
    ·show A.length - (k + 1) < A.length - k; omega
    ·show k + 1<=A.length; omega
    ·rw [st,if_pos (posN (by assumption))]; rfl
    ·rw [w64 _ (by omega) (by omega)]; rfl
   ·refine ⟨(k + 1,none),?_⟩
    conv=>whnf
    refine ⟨⟨⟨?_,?_,?_⟩,?_,rfl,rfl⟩,by kernel_rfl,by kernel_rfl⟩
    ·show A.length - (k + 1) < A.length - k; omega
    ·show k + 1<=A.length; omega
    ·rw [st,if_neg (negN (by assumption))]
    ·rw [w64 _ (by omega) (by omega)]; rfl
  ·obtain ⟨_,q,_⟩:=fin (of_decide_eq_false q)
   cases q
 | some z =>
  conv=>whnf
  refine ⟨fun q => ?_,fun q => ?_⟩
  ·have q:=of_decide_eq_true q
   have hkk:k < A.length:=by omega
   have st:=st hkk
   rw [hp] at st
   unfold lasO at st
   conv=>whnf
   (repeat' first|(refine ansS (fun hh=>?_) (fun hh=>?_)<;>(try simp only [ansX] at hh)<;>first|(exfalso;first|omega|(simp [*] at hh;done)|(revert hh;decide))|exact absurd (by assumption) hh|conv=>whnf)|((first|refine kR ?_|refine aM ?_|refine aL ?_|refine aN ?_|refine aT ?_|fail);conv=>whnf))
   ·refine ⟨(k + 1,some ((A.getD k ans0).outs.getD 0 out0)),?_⟩
    conv=>whnf
    refine ⟨⟨⟨?_,?_,?_⟩,?_,rfl,rfl⟩,by kernel_rfl,by kernel_rfl⟩
    ·show A.length - (k + 1) < A.length - k; omega
    ·show k + 1<=A.length; omega
    ·rw [st,if_pos (posN (by assumption))]; rfl
    ·rw [w64 _ (by omega) (by omega)]; rfl
   ·refine ⟨(k + 1,some z),?_⟩
    conv=>whnf
    refine ⟨⟨⟨?_,?_,?_⟩,?_,rfl,rfl⟩,by kernel_rfl,by kernel_rfl⟩
    ·show A.length - (k + 1) < A.length - k; omega
    ·show k + 1<=A.length; omega
    ·rw [st,if_neg (negN (by assumption))]
    ·rw [w64 _ (by omega) (by omega)]; rfl
  ·obtain ⟨_,q1,q2⟩:=fin (of_decide_eq_false q)
   cases q1
   subst q2
   conv=>whnf
   (repeat' ((first|refine ansT ?_|refine ansF ?_|refine ansD (by first|(simp [*];done)|omega) ?_ | refine ansN (by first|(simp [*];done)|omega) ?_ | refine ⟨by kernel_rfl,?_⟩ | refine ansB (by decide) (by first | decide | (simp; done) | (simp only [List.length_cons,List.length_nil]; decide)) ?_|fail);conv=>whnf))
   all_goals rfl
def okOB (o:OrderT):Bool:=Nat.blt o.tru.length 1000 && (Nat.blt o.noise.length 1000 && decide (0<=o.role/\o.role<=255))
theorem a9Z {os:List OrderT} (h:os.all okOB=true) (i:Nat):OkayO (os.getD i ord0):=by
 have one:∀ o,okOB o=true->OkayO o:=fun o h=>by
  unfold okOB at h
  simp only [Bool.and_eq_true,decide_eq_true_eq,Nat.blt_eq] at h
  exact ⟨by omega,by omega,h.2.2⟩
 by_cases hi:i < os.length
 ·rw [l0 hi]; exact one _ (List.all_eq_true.1 h _ (List.getElem_mem hi))
 ·have e:os.getD i ord0=ord0:=by simp [List.getD,List.getElem?_eq_none (Nat.le_of_not_lt hi)]
  rw [e]; exact one _ (by decide)
theorem a9e:PC Tryz.prog 38 [] (.bool true):=by
 have l1:PC Tryz.prog 32 [lin (smpL 3),ords (temO++[ordP gudP [5,-5,5]]++cntL 11)] (.tup [.agg (eOut ⟨0,0,1,false,false⟩),.bool true]):=a9Y (smpL 3) _ (by kernel_rfl) (by decide) (a9Z (by kernel_rfl)) (by kernel_rfl) _ b1b
 have l2:PC Tryz.prog 32 [lin (smpL 3),ords (temO++[ordP widP [0,0,0,0,0]]++cntL 11)] (.tup [.agg (eOut ⟨0,0,2,true,true⟩),.bool true]):=a9Y (smpL 3) _ (by kernel_rfl) (by decide) (a9Z (by kernel_rfl)) (by kernel_rfl) _ b1c
 have p1:=b28 gudP 5 (-5) 5
 have p2:PC Tryz.prog 34 [ints widP,.nils] (ord (ordP widP [0,0,0,0,0])):=b29 widP (by decide)
 refine a7 hm Tryz.func38 (by kernel_rfl) ?_
 conv=>whnf
 (repeat' ((first | refine ansT ?_ | refine ansF ?_|((try (refine Or.inl ?_;conv=>whnf));(try (refine ⟨false,?_⟩;conv=>whnf));refine ⟨_,by exact a4V 3,?_⟩) | refine ansD (by first|(simp [*];done)|omega) ?_ | refine ansN (by first|(simp [*];done)|omega) ?_ | refine ⟨by kernel_rfl,?_⟩ | refine ansB (by decide) (by first | decide | (simp; done) | (simp only [List.length_cons,List.length_nil]; decide)) ?_|fail);conv=>whnf))
 (refine Or.inr ⟨[ ],[ 7 ],by kernel_rfl,?_⟩; (conv=>whnf); refine ⟨[ ],_,_,_,_,⟨ a9X,rfl,rfl,by kernel_rfl⟩,?_⟩)
 conv=>whnf
 (repeat' ((first | refine ansT ?_ | refine ansF ?_|((try (refine Or.inl ?_;conv=>whnf));(try (refine ⟨false,?_⟩;conv=>whnf));refine ⟨_,by exact b4p,?_⟩) | refine ansD (by first|(simp [*];done)|omega) ?_ | refine ansN (by first|(simp [*];done)|omega) ?_ | refine ⟨by kernel_rfl,?_⟩ | refine ansB (by decide) (by first | decide | (simp; done) | (simp only [List.length_cons,List.length_nil]; decide)) ?_|fail);conv=>whnf))
 ((first | refine Or.inl ?_ | skip); (conv=>whnf); refine ⟨true,?_⟩; (conv=>whnf); refine ⟨_,p1,?_⟩; (conv=>whnf))
 refine ⟨⟨OrderT,17,ord0,eOrd,temO⟩,[ordP gudP [5,-5,5]],rfl,rfl,⟨rfl,rfl⟩,by decide,by decide,fun y _=>⟨rfl,rfl,rfl⟩,?_⟩
 conv=>whnf
 (refine Or.inr ⟨[ ],[ 13 ],by kernel_rfl,?_⟩; (conv=>whnf); refine ⟨[ ],_,_,_,_,⟨ a4W 11 (by decide),rfl,rfl,by kernel_rfl⟩,?_⟩)
 conv=>whnf
 refine ⟨⟨OrderT,17,ord0,eOrd,temO++[ordP gudP [5,-5,5]]⟩,cntL 11,rfl,rfl,rfl,by decide,by decide,fun y _=>⟨rfl,rfl,rfl⟩,?_⟩
 conv=>whnf
 ((first | refine Or.inl ?_ | skip); (conv=>whnf); refine ⟨true,?_⟩; (conv=>whnf); refine ⟨_,l1,?_⟩; (conv=>whnf))
 (repeat' ((first | refine ansT ?_ | refine ansF ?_|((try (refine Or.inl ?_;conv=>whnf));(try (refine ⟨false,?_⟩;conv=>whnf));refine ⟨_,by exact a4V 3,?_⟩) | refine ansD (by first|(simp [*];done)|omega) ?_ | refine ansN (by first|(simp [*];done)|omega) ?_ | refine ⟨by kernel_rfl,?_⟩ | refine ansB (by decide) (by first | decide | (simp; done) | (simp only [List.length_cons,List.length_nil]; decide)) ?_|fail);conv=>whnf))
 (refine Or.inr ⟨[ ],[ 20 ],by kernel_rfl,?_⟩; (conv=>whnf); refine ⟨[ ],_,_,_,_,⟨ a9X,rfl,rfl,by kernel_rfl⟩,?_⟩)
 conv=>whnf
 (repeat' ((first | refine ansT ?_ | refine ansF ?_|((try (refine Or.inl ?_;conv=>whnf));(try (refine ⟨false,?_⟩;conv=>whnf));refine ⟨_,by first | exact b4q | exact p2,?_⟩) | refine ansD (by first|(simp [*];done)|omega) ?_ | refine ansN (by first|(simp [*];done)|omega) ?_ | refine ⟨by kernel_rfl,?_⟩ | refine ansB (by decide) (by first | decide | (simp; done) | (simp only [List.length_cons,List.length_nil]; decide)) ?_|fail);conv=>whnf))
 refine ⟨⟨OrderT,17,ord0,eOrd,temO⟩,[ordP widP [0,0,0,0,0]],rfl,rfl,⟨rfl,rfl⟩,by decide,by decide,fun y _=>⟨rfl,rfl,rfl⟩,?_⟩
 conv=>whnf
 (refine Or.inr ⟨[ ],[ 25 ],by kernel_rfl,?_⟩; (conv=>whnf); refine ⟨[ ],_,_,_,_,⟨ a4W 11 (by decide),rfl,rfl,by kernel_rfl⟩,?_⟩)
 conv=>whnf
 refine ⟨⟨OrderT,17,ord0,eOrd,temO++[ordP widP [0,0,0,0,0]]⟩,cntL 11,rfl,rfl,rfl,by decide,by decide,fun y _=>⟨rfl,rfl,rfl⟩,?_⟩
 conv=>whnf
 ((first | refine Or.inl ?_ | skip); (conv=>whnf); refine ⟨true,?_⟩; (conv=>whnf); refine ⟨_,l2,?_⟩; (conv=>whnf))
 (repeat' ((first|refine ansT ?_|refine ansF ?_|refine ansD (by first|(simp [*];done)|omega) ?_ | refine ansN (by first|(simp [*];done)|omega) ?_ | refine ⟨by kernel_rfl,?_⟩ | refine ansB (by decide) (by first | decide | (simp; done) | (simp only [List.length_cons,List.length_nil]; decide)) ?_|fail);conv=>whnf))
 all_goals (first | rfl | kernel_rfl)

end Go.Proofs.Tryz.My
