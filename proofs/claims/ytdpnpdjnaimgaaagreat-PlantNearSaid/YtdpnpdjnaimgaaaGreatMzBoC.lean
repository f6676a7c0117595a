/- A helper text: contracts of functions of the program, and plain lemmas. -/
import Derived.Test.YtdpnpdjnaimgaaaGreatEvSix
import Derived.Test.YtdpnpdjnaimgaaaGreatMzBqX
import Derived.Test.YtdpnpdjnaimgaaaGreatMzBkA
import Derived.Test.YtdpnpdjnaimgaaaGreatEvFn
import Derived.Test.YtdpnpdjnaimgaaaGreatMzGdB
set_option maxRecDepth 100000
set_option maxHeartbeats 0
set_option linter.unusedVariables false
set_option linter.unusedSimpArgs false
namespace Go.Proofs.Tryz.My
open Go Go.Ev
theorem R9 (l:List Int) (hl:l.length < 2 ^ 20):PW Tryz.prog 129 [ints l] [] (.own 0) [.vec 3 1 0 eI l]:=by
 refine j9 hm Tryz.func129 (by kernel_rfl) ⟨by kernel_rfl,?_⟩
 conv=>whnf
 refine Or.inl ?_
 conv=>whnf
 intro b hb
 conv=>whnf
 refine ⟨fun h => ?_,fun h => ?_⟩
 ·(conv=>whnf)
  refine Or.inr ⟨by kernel_rfl,.vec 3 1 0 eI [],rfl,?_⟩
  conv=>whnf
  refine ⟨[2],by kernel_rfl,?_⟩
  conv=>whnf
  rw [hb h]
  exact ⟨rfl,rfl⟩
 conv=>whnf
 refine ⟨⟨Int,1,0,eI,[]⟩,l,rfl,⟨rfl,rfl⟩,rfl,?_,?_,fun y _=>⟨rfl,rfl,rfl⟩,?_⟩
 ·show (0 + l.length) * 8<=_; omega
 ·show 0 + l.length<=_; omega
 conv=>whnf
 refine ⟨[7],by kernel_rfl,?_⟩
 conv=>whnf
 exact ⟨rfl,rfl⟩
theorem a1B (l:List Int) (hl:l.length < 2 ^ 20):PW Tryz.prog 126 [u8l l] [] (.own 0) [.vec 5 1 0 e8 l]:=by
 refine j9 hm Tryz.func126 (by kernel_rfl) ⟨by kernel_rfl,?_⟩
 conv=>whnf
 refine Or.inl ?_
 conv=>whnf
 intro b hb
 conv=>whnf
 refine ⟨fun h => ?_,fun h => ?_⟩
 ·(conv=>whnf)
  refine Or.inr ⟨by kernel_rfl,.vec 5 1 0 e8 [],rfl,?_⟩
  conv=>whnf
  refine ⟨[2],by kernel_rfl,?_⟩
  conv=>whnf
  rw [hb h]
  exact ⟨rfl,rfl⟩
 conv=>whnf
 refine ⟨⟨Int,1,0,e8,[]⟩,l,rfl,⟨rfl,rfl⟩,rfl,?_,?_,fun y _=>⟨rfl,rfl,rfl⟩,?_⟩
 ·show (0 + l.length) * 1<=_; omega
 ·show 0 + l.length<=_; omega
 conv=>whnf
 refine ⟨[7],by kernel_rfl,?_⟩
 conv=>whnf
 exact ⟨rfl,rfl⟩
theorem b2e (x:RecT) (hx:x.appr.length < 2 ^ 20):PW Tryz.prog 151 [rcp x] [] (.agg ((eRec x).set 11 (.own 0))) [.vec 3 1 0 eI x.appr]:=by
 refine a9 hm Tryz.func151 (by kernel_rfl) ⟨by kernel_rfl,?_⟩
 conv=>whnf
 (refine Or.inr ⟨[ ],[ 5 ],by kernel_rfl,?_⟩; (conv=>whnf); refine ⟨[ ],_,_,_,_,⟨ R9 x.appr hx,rfl,rfl,by kernel_rfl⟩,?_⟩)
 conv=>whnf
 refine ⟨[5],by kernel_rfl,?_⟩
 conv=>whnf
 exact ⟨rfl,rfl⟩
theorem a7c (x:EntT) (hx:x.profile.length < 2 ^ 20):PW Tryz.prog 153 [ent x] [] (.agg ((eEnt x).set 3 (.own 0))) [.vec 3 1 0 eI x.profile]:=by
 refine a9 hm Tryz.func153 (by kernel_rfl) ⟨by kernel_rfl,?_⟩
 conv=>whnf
 (refine Or.inr ⟨[ ],[ 5 ],by kernel_rfl,?_⟩; (conv=>whnf); refine ⟨[ ],_,_,_,_,⟨ R9 x.profile hx,rfl,rfl,by kernel_rfl⟩,?_⟩)
 conv=>whnf
 refine ⟨[5],by kernel_rfl,?_⟩
 conv=>whnf
 exact ⟨rfl,rfl⟩
theorem a7d (l:List RecT) (hl:l.length < 2 ^ 16) (ha:∀ i,(l.getD i rec0).appr.length < 2 ^ 20):PW Tryz.prog 150 [recs l,.fn (.func 151) [] []] [] (.own 0) [.nest 122 13 11 3 rec0 eRec RecT.appr none l]:=by
 have w1:IntKind.i64.wrap ((l.length:Int) + 1)=(l.length:Int) + 1:=w64 _ (by omega) (by omega)
 refine a9 hm Tryz.func150 (by kernel_rfl) ⟨by kernel_rfl,?_⟩
 conv=>whnf
 refine ⟨.nest 122 13 11 3 rec0 eRec RecT.appr none [],⟨⟨rfl,by kernel_rfl,rfl,rfl⟩,by omega,by omega,of_decide_eq_true (by kernel_rfl)⟩,?_⟩
 conv=>whnf
 refine Or.inr ⟨Nat,[14],[],[(5,⟨RecT,122,13,rec0,eRec⟩)],fun i=>[i64 i],fun _=>[],fun i=>[.nest 122 13 11 3 rec0 eRec RecT.appr none (l.take i)],fun i=>l.length - i,fun i=>i<=l.length,?_⟩
 conv=>whnf
 refine ⟨⟨0,?_⟩,?_⟩
 ·(conv=>whnf)
  exact ⟨⟨Nat.zero_le _,rfl,rfl,rfl⟩,by kernel_rfl,by kernel_rfl⟩
 ·intro j hj
  conv=>whnf
  refine ⟨fun h => ?_,fun h => ?_⟩
  ·have h:=of_decide_eq_true h
   have hjj:j < l.length:=by omega
   have hk:(l.take j).length=j:=by rw [List.length_take]; omega
   conv=>whnf
   refine ⟨⟨by omega,by omega⟩,?_⟩
   conv=>whnf
   (refine Or.inr ⟨[ ],[ 21 ],by kernel_rfl,?_⟩; (conv=>whnf); refine ⟨[ ],_,_,_,_,⟨ b2e _ (ha _),rfl,rfl,by kernel_rfl⟩,?_⟩)
   conv=>whnf
   refine ⟨_,l.getD j rec0,⟨rfl,rfl,rfl,?_,?_⟩,?_⟩
   ·show ((l.take j).length + 1) * 120<=_; rw [hk]; omega
   ·rw [hk]; omega
   conv=>whnf
   refine ⟨j + 1,?_⟩
   conv=>whnf
   refine ⟨⟨⟨?_,?_⟩,?_,rfl,?_⟩,by kernel_rfl,by kernel_rfl⟩
   ·show l.length - (j + 1) < l.length - j; omega
   ·show j + 1<=l.length; omega
   ·rw [w64 _ (by omega) (by omega)]; rfl
   ·show [Row.nest 122 13 11 3 rec0 eRec RecT.appr none (l.take j++[l.getD j rec0])]=[Row.nest 122 13 11 3 rec0 eRec RecT.appr none (l.take (j + 1))]
    rw [List.take_add_one,List.getElem?_eq_getElem hjj]
    simp [List.getD,hjj]
  ·have h:=of_decide_eq_false h
   have ej:l.take j=l:=List.take_of_length_le (by omega)
   rw [ej]
   conv=>whnf
   refine ⟨[5],by kernel_rfl,?_⟩
   conv=>whnf
   exact ⟨rfl,rfl⟩
theorem b2f (l:List EntT) (hl:l.length < 2 ^ 16) (ha:∀ i,(l.getD i ent0).profile.length < 2 ^ 20):PW Tryz.prog 152 [ents l,.fn (.func 153) [] []] [] (.own 0) [.nest 80 6 3 3 ent0 eEnt EntT.profile none l]:=by
 have w1:IntKind.i64.wrap ((l.length:Int) + 1)=(l.length:Int) + 1:=w64 _ (by omega) (by omega)
 refine a9 hm Tryz.func152 (by kernel_rfl) ⟨by kernel_rfl,?_⟩
 conv=>whnf
 refine ⟨.nest 80 6 3 3 ent0 eEnt EntT.profile none [],⟨⟨rfl,by kernel_rfl,rfl,rfl⟩,by omega,by omega,of_decide_eq_true (by kernel_rfl)⟩,?_⟩
 conv=>whnf
 refine Or.inr ⟨Nat,[14],[],[(5,⟨EntT,80,6,ent0,eEnt⟩)],fun i=>[i64 i],fun _=>[],fun i=>[.nest 80 6 3 3 ent0 eEnt EntT.profile none (l.take i)],fun i=>l.length - i,fun i=>i<=l.length,?_⟩
 conv=>whnf
 refine ⟨⟨0,?_⟩,?_⟩
 ·(conv=>whnf)
  exact ⟨⟨Nat.zero_le _,rfl,rfl,rfl⟩,by kernel_rfl,by kernel_rfl⟩
 ·intro j hj
  conv=>whnf
  refine ⟨fun h => ?_,fun h => ?_⟩
  ·have h:=of_decide_eq_true h
   have hjj:j < l.length:=by omega
   have hk:(l.take j).length=j:=by rw [List.length_take]; omega
   conv=>whnf
   refine ⟨⟨by omega,by omega⟩,?_⟩
   conv=>whnf
   (refine Or.inr ⟨[ ],[ 21 ],by kernel_rfl,?_⟩; (conv=>whnf); refine ⟨[ ],_,_,_,_,⟨ a7c _ (ha _),rfl,rfl,by kernel_rfl⟩,?_⟩)
   conv=>whnf
   refine ⟨_,l.getD j ent0,⟨rfl,rfl,rfl,?_,?_⟩,?_⟩
   ·show ((l.take j).length + 1) * 56<=_; rw [hk]; omega
   ·rw [hk]; omega
   conv=>whnf
   refine ⟨j + 1,?_⟩
   conv=>whnf
   refine ⟨⟨⟨?_,?_⟩,?_,rfl,?_⟩,by kernel_rfl,by kernel_rfl⟩
   ·show l.length - (j + 1) < l.length - j; omega
   ·show j + 1<=l.length; omega
   ·rw [w64 _ (by omega) (by omega)]; rfl
   ·show [Row.nest 80 6 3 3 ent0 eEnt EntT.profile none (l.take j++[l.getD j ent0])]=[Row.nest 80 6 3 3 ent0 eEnt EntT.profile none (l.take (j + 1))]
    rw [List.take_add_one,List.getElem?_eq_getElem hjj]
    simp [List.getD,hjj]
  ·have h:=of_decide_eq_false h
   have ej:l.take j=l:=List.take_of_length_le (by omega)
   rw [ej]
   conv=>whnf
   refine ⟨[5],by kernel_rfl,?_⟩
   conv=>whnf
   exact ⟨rfl,rfl⟩
theorem G0 (b:BooksT) (o:Okay b) (h:chkB b=false):PC Tryz.prog 97 [bks b] (.tup [.nilp,i64 8]):=by
 have c:PC Tryz.prog 69 [bks b] (i64 8):=by have c:=Z5 b o; rwa [if_neg (by rw [h]; decide)] at c
 refine a7 hm Tryz.func97 (by kernel_rfl) ?_
 conv=>whnf
 (repeat' ((first | refine ansT ?_ | refine ansF ?_|((try (refine Or.inl ?_;conv=>whnf));(try (refine ⟨false,?_⟩;conv=>whnf));refine ⟨_,by exact c,?_⟩) | refine ansD (by first|(simp [*];done)|omega) ?_ | refine ansN (by first|(simp [*];done)|omega) ?_ | refine ⟨by kernel_rfl,?_⟩ | refine ansB (by decide) (by first | decide | (simp; done) | (simp only [List.length_cons,List.length_nil]; decide)) ?_|fail);conv=>whnf))
 try rfl
theorem u4 {b:BooksT} (h:chkB b=true):b.users.length<=16/\b.recipes.length<=16/\b.log.length<=32:=by
 simp only [chkB,U5,n8,Bool.and_eq_true,decide_eq_true_eq] at h
 omega
def dskR (b:BooksT):List Row:=[.cells 182 [i64 b.keep,.own 1,.own 2,i64 b.next,.own 3],.vec 5 1 0 e8 b.users,.nest 122 13 11 3 rec0 eRec RecT.appr none b.recipes,.nest 80 6 3 3 ent0 eEnt EntT.profile none b.log]
theorem v9 (b:BooksT) (o:Okay b) (h:chkB b=true):PW Tryz.prog 97 [bks b] [] (.tup [.ptr 0 0 0 0,i64 0]) (dskR b):=by
 have c:PC Tryz.prog 69 [bks b] (i64 0):=by have c:=Z5 b o; rwa [if_pos h] at c
 have s:=u4 h
 refine a9 hm Tryz.func97 (by kernel_rfl) ⟨by kernel_rfl,?_⟩
 conv=>whnf
 (repeat' ((first | refine ansT ?_ | refine ansF ?_|((try (refine Or.inl ?_;conv=>whnf));(try (refine ⟨false,?_⟩;conv=>whnf));refine ⟨_,by exact c,?_⟩) | refine ansD (by first|(simp [*];done)|omega) ?_ | refine ansN (by first|(simp [*];done)|omega) ?_ | refine ⟨by kernel_rfl,?_⟩ | refine ansB (by decide) (by first | decide | (simp; done) | (simp only [List.length_cons,List.length_nil]; decide)) ?_|fail);conv=>whnf))
 (refine Or.inr ⟨[ ],[ 12 ],by kernel_rfl,?_⟩; (conv=>whnf); refine ⟨[ ],_,_,_,_,⟨ a1B b.users o.u,rfl,rfl,by kernel_rfl⟩,?_⟩)
 conv=>whnf
 (refine Or.inr ⟨[ ],[ 16 ],by kernel_rfl,?_⟩; (conv=>whnf); refine ⟨[ ],_,_,_,_,⟨ a7d b.recipes (by omega) o.a,rfl,rfl,by kernel_rfl⟩,?_⟩)
 conv=>whnf
 (refine Or.inr ⟨[ ],[ 20 ],by kernel_rfl,?_⟩; (conv=>whnf); refine ⟨[ ],_,_,_,_,⟨ b2f b.log (by omega) o.p,rfl,rfl,by kernel_rfl⟩,?_⟩)
 conv=>whnf
 refine ⟨[24,12,16,20],by kernel_rfl,?_⟩
 conv=>whnf
 exact ⟨rfl,rfl⟩
def addU (b:BooksT) (role:Int):BooksT:=⟨b.keep,b.users++[role],b.recipes,b.next,b.log⟩
def addE (b:BooksT) (role:Int):Int:=if chkB b then (if role < 1∨3 < role then 2 else if (b.users.length:Int)=16 then 9 else 0) else 8
abbrev ownB (b:BooksT):AV := .agg [i64 b.keep,.own 0,.own 1,i64 b.next,.own 2]
def ownR (b:BooksT):List Row:=[.vec 5 1 0 e8 b.users,.nest 122 13 11 3 rec0 eRec RecT.appr none b.recipes,.nest 80 6 3 3 ent0 eEnt EntT.profile none b.log]
theorem a5K (b:BooksT) (o:Okay b) (role:Int) (h:addE b role=0):PW Tryz.prog 226 [bks b,u8 role] [] (.tup [ownB (addU b role),i64 b.users.length,i64 0]) (ownR (addU b role)):=by
 have hc:chkB b=true:=by
  unfold addE at h
  split at h
  ·assumption
  ·cases h
 have hr:¬(role < 1∨3 < role):=fun q=>by
  unfold addE at h
  rw [if_pos hc,if_pos q] at h
  cases h
 have hu:¬(b.users.length:Int)=16:=fun q=>by
  unfold addE at h
  rw [if_pos hc,if_neg hr,if_pos q] at h
  cases h
 have s:=u4 hc
 have w1:IntKind.i64.wrap (((b.users++[role]).length:Int) - 1)=b.users.length:=by
  have hl:((b.users++[role]).length:Int)=b.users.length + 1:=by simp
  rw [hl,w64 _ (by omega) (by omega)]
  omega
 refine a9 hm Tryz.func226 (by kernel_rfl) ⟨by kernel_rfl,?_⟩
 conv=>whnf
 (refine Or.inr ⟨[ ],[ 11,9,12,13 ],by kernel_rfl,?_⟩; (conv=>whnf); refine ⟨[ ],_,_,_,_,⟨ v9 b o hc,rfl,rfl,by kernel_rfl⟩,?_⟩)
 conv=>whnf
 (repeat' ((first|refine ansT ?_|refine ansF ?_|refine ansD (by first|(simp [*];done)|omega) ?_ | refine ansN (by first|(simp [*];done)|omega) ?_ | refine ⟨by kernel_rfl,?_⟩ | refine ansB (by decide) (by first | decide | (simp; done) | (simp only [List.length_cons,List.length_nil]; decide)) ?_|fail);conv=>whnf))
 (repeat' first|(refine ansS (fun hh=>?_) (fun hh=>?_)<;>(try simp only [ansX] at hh)<;>first|(exfalso;first|omega|(simp [*] at hh;done)|(revert hh;decide))|exact absurd (by assumption) hh|conv=>whnf)|((first|refine kR ?_|refine aB ?_|refine aL ?_|refine aN ?_|fail);conv=>whnf))
 refine ⟨⟨Int,1,0,e8,b.users⟩,[role],rfl,rfl,⟨rfl,rfl⟩,?_,?_,fun y _=>⟨rfl,rfl,rfl⟩,?_⟩
 ·show (b.users.length + 1) * 1<=_; omega
 ·show b.users.length + 1<=_; omega
 conv=>whnf
 (repeat' first|(refine ansS (fun hh=>?_) (fun hh=>?_)<;>(try simp only [ansX] at hh)<;>first|(exfalso;first|omega|(simp [*] at hh;done)|(revert hh;decide))|exact absurd (by assumption) hh|conv=>whnf)|((first|refine kR ?_|refine aB ?_|refine aL ?_|refine aN ?_|fail);conv=>whnf))
 refine ⟨[44,12,13],by kernel_rfl,?_⟩
 conv=>whnf
 refine ⟨?_,rfl⟩
 rw [w1]
 rfl
theorem a3N (b:BooksT) (o:Okay b) (role:Int) (h:¬addE b role=0):PC Tryz.prog 226 [bks b,u8 role] (.tup [newB 0,i64 0,i64 (addE b role)]):=by
 by_cases hc:chkB b=true
 ·have s:=u4 hc
  unfold addE at h ⊢
  rw [if_pos hc] at h ⊢
  refine a7 hm Tryz.func226 (by kernel_rfl) ?_
  conv=>whnf
  (refine Or.inr ⟨[ ],[ 11,9,12,13 ],by kernel_rfl,?_⟩; (conv=>whnf); refine ⟨[ ],_,_,_,_,⟨ v9 b o hc,rfl,rfl,by kernel_rfl⟩,?_⟩)
  conv=>whnf
  (repeat' ((first|refine ansT ?_|refine ansF ?_|refine ansD (by first|(simp [*];done)|omega) ?_ | refine ansN (by first|(simp [*];done)|omega) ?_ | refine ⟨by kernel_rfl,?_⟩ | refine ansB (by decide) (by first | decide | (simp; done) | (simp only [List.length_cons,List.length_nil]; decide)) ?_|fail);conv=>whnf))
  (repeat' first|(refine ansS (fun hh=>?_) (fun hh=>?_)<;>(try simp only [ansX] at hh)<;>first|(exfalso;first|omega|(simp [*] at hh;done)|(revert hh;decide))|exact absurd (by assumption) hh|conv=>whnf)|((first|refine kR ?_|refine aB ?_|refine aL ?_|refine aN ?_|fail);conv=>whnf))
  all_goals first
   | (exfalso; apply h; rw [if_neg (by omega),if_neg (by omega)]; done)
   | (rw [if_pos (by omega)]; done)
   | (rw [if_neg (by omega),if_pos (by omega)]; done)
  
 ·have hc:chkB b=false:=by simpa using hc
  have c:=G0 b o hc
  unfold addE
  rw [if_neg (by rw [hc]; decide)]
  refine a7 hm Tryz.func226 (by kernel_rfl) ?_
  conv=>whnf
  (repeat' ((first | refine ansT ?_ | refine ansF ?_|((try (refine Or.inl ?_;conv=>whnf));(try (refine ⟨false,?_⟩;conv=>whnf));refine ⟨_,by exact c,?_⟩) | refine ansD (by first|(simp [*];done)|omega) ?_ | refine ansN (by first|(simp [*];done)|omega) ?_ | refine ⟨by kernel_rfl,?_⟩ | refine ansB (by decide) (by first | decide | (simp; done) | (simp only [List.length_cons,List.length_nil]; decide)) ?_|fail);conv=>whnf))
  try rfl
theorem L3 (b:BooksT) (a:Int):PW Tryz.prog 160 [.ptr 0 0 0 0,.own 4] (dskR b++[.lit 5 1 [[u8 a]]]) (.fn (.func 207) [] [.ptr 5 0 0 0,.ptr 6 0 0 0]) (dskR b++[.lit 5 1 [[u8 a]],.cells 176 [.ptr 0 0 0 0],.cells 33 [.own 4]]):=by
 refine j9 hm Tryz.func160 (by kernel_rfl) ⟨by kernel_rfl,?_⟩
 conv=>whnf
 refine ⟨[2,3],by kernel_rfl,?_⟩
 conv=>whnf
 exact ⟨rfl,rfl⟩
def H4 (user:Int) (g:GauT):RecT:=⟨user,g,[],1⟩
def drfB (b:BooksT) (user:Int) (g:GauT):BooksT:=⟨b.keep,b.users,b.recipes++[H4 user g],b.next,b.log⟩
def drfE (b:BooksT) (user:Int) (g:GauT):Int :=
 if chkB b then (if ¬(0<=user/\user<=(b.users.length:Int) - 1) then 6 else if mayB [2] b.users user=false then 100 else if ¬gauB g=true then 8 else if (b.recipes.length:Int)=16 then 9 else 0) else 8
theorem a8M (b:BooksT) (o:Okay b) (user:Int) (g:GauT) (h:drfE b user g=0):PW Tryz.prog 228 [bks b,i64 user,gau g] [] (.tup [ownB (drfB b user g),i64 b.recipes.length,i64 0]) (ownR (drfB b user g)):=by
 have hc:chkB b=true:=by
  unfold drfE at h
  split at h
  ·assumption
  ·cases h
 unfold drfE at h
 rw [if_pos hc] at h
 have hu:0<=user/\user<=(b.users.length:Int) - 1:=Decidable.byContradiction fun q=>by rw [if_pos q] at h; cases h
 rw [if_neg (show ¬¬(0<=user/\user<=(b.users.length:Int) - 1) from fun q=>q hu)] at h
 have hmy:mayB [2] b.users user=true:=by
  cases e:mayB [2] b.users user with
  | true=>rfl
  | false=>rw [if_pos e] at h; cases h
 rw [if_neg (show ¬mayB [2] b.users user=false by rw [hmy]; decide)] at h
 have hg:gauB g=true:=Decidable.byContradiction fun q=>by rw [if_pos q] at h; cases h
 rw [if_neg (show ¬¬gauB g=true from fun q=>q hg)] at h
 have hl:¬(b.recipes.length:Int)=16:=fun q=>by rw [if_pos q] at h; cases h
 clear h
 have s:=u4 hc
 have c1:=fun u=>C9 b.keep b.next u b.users b.recipes b.log 2 (lt40 o.u)
 have w0:IntKind.i64.wrap ((b.users.length:Int) - 1)=(b.users.length:Int) - 1:=w64 _ (by omega) (by omega)
 have c2:∀ u,PC Tryz.prog 105 [i64 0,i64 (IntKind.i64.wrap ((b.users.length:Int) - 1)),i64 u] (.bool (decide (0<=u) && decide (u<=(b.users.length:Int) - 1))):=fun u=>by rw [w0]; exact y0 0 _ u
 refine a9 hm Tryz.func228 (by kernel_rfl) ⟨by kernel_rfl,?_⟩
 conv=>whnf
 (refine Or.inr ⟨[ ],[ 14,9,12,15 ],by kernel_rfl,?_⟩; (conv=>whnf); refine ⟨[ ],_,_,_,_,⟨ v9 b o hc,rfl,rfl,by kernel_rfl⟩,?_⟩)
 conv=>whnf
 (repeat' ((first | refine ansT ?_ | refine ansF ?_|((try (refine Or.inl ?_;conv=>whnf));(try (refine ⟨false,?_⟩;conv=>whnf));refine ⟨_,by exact c2 _,?_⟩) | refine ansD (by first|(simp [*];done)|omega) ?_ | refine ansN (by first|(simp [*];done)|omega) ?_ | refine ⟨by kernel_rfl,?_⟩ | refine ansB (by decide) (by first | decide | (simp; done) | (simp only [List.length_cons,List.length_nil]; decide)) ?_|fail);conv=>whnf))
 (repeat' first|(refine ansS (fun hh=>?_) (fun hh=>?_)<;>(try simp only [ansX] at hh)<;>first|(exfalso;first|omega|(simp [*] at hh;done)|(revert hh;decide))|exact absurd (by assumption) hh|conv=>whnf)|((first|refine kR ?_|refine aB ?_|refine aL ?_|refine aN ?_|fail);conv=>whnf))
 (refine Or.inr ⟨[ ],[ 37,35 ],by kernel_rfl,?_⟩; (conv=>whnf); refine ⟨[ 14,9,12,15,36 ],_,_,_,_,⟨ L3 b 2,rfl,rfl,by kernel_rfl⟩,?_⟩)
 conv=>whnf
 (repeat' first|(refine ansS (fun hh=>?_) (fun hh=>?_)<;>(try simp only [ansX] at hh)<;>first|(exfalso;first|omega|(simp [*] at hh;done)|(revert hh;decide))|exact absurd (by assumption) hh|conv=>whnf)|((first|refine kR ?_|refine aB ?_|refine aL ?_|refine aN ?_|((try (refine Or.inl ?_;conv=>whnf));(try (refine ⟨false,?_⟩;conv=>whnf));refine ⟨_,by first | exact c1 _ | exact E7 g,?_⟩)|fail);conv=>whnf))
 refine ⟨H4 user g,⟨rfl,rfl,?_,?_⟩,?_⟩
 ·show (b.recipes.length + 1) * 120<=_; omega
 ·omega
 have w1:IntKind.i64.wrap (((b.recipes++[H4 user g]).length:Int) - 1)=b.recipes.length:=by
  have hl:((b.recipes++[H4 user g]).length:Int)=b.recipes.length + 1:=by simp
  rw [hl,w64 _ (by omega) (by omega)]
  omega
 conv=>whnf
 (repeat' first|(refine ansS (fun hh=>?_) (fun hh=>?_)<;>(try simp only [ansX] at hh)<;>first|(exfalso;first|omega|(simp [*] at hh;done)|(revert hh;decide))|exact absurd (by assumption) hh|conv=>whnf)|((first|refine kR ?_|refine aB ?_|refine aL ?_|refine aN ?_|fail);conv=>whnf))
 refine ⟨[9,66,15],by kernel_rfl,?_⟩
 conv=>whnf
 refine ⟨?_,rfl⟩
 rw [w1]
 rfl
theorem a7e (b:BooksT) (o:Okay b) (user:Int) (g:GauT) (h:¬drfE b user g=0):PC Tryz.prog 228 [bks b,i64 user,gau g] (.tup [newB 0,i64 0,i64 (drfE b user g)]):=by
 by_cases hc:chkB b=true
 ·unfold drfE at h ⊢
  rw [if_pos hc] at h ⊢
  have s:=u4 hc
  have c1:=fun u=>C9 b.keep b.next u b.users b.recipes b.log 2 (lt40 o.u)
  have w0:IntKind.i64.wrap ((b.users.length:Int) - 1)=(b.users.length:Int) - 1:=w64 _ (by omega) (by omega)
  have c2:∀ u,PC Tryz.prog 105 [i64 0,i64 (IntKind.i64.wrap ((b.users.length:Int) - 1)),i64 u] (.bool (decide (0<=u) && decide (u<=(b.users.length:Int) - 1))):=fun u=>by rw [w0]; exact y0 0 _ u
  by_cases hu:0<=user/\user<=(b.users.length:Int) - 1
  ·rw [if_neg (show ¬¬(0<=user/\user<=(b.users.length:Int) - 1) from fun q=>q hu)] at h ⊢
   refine a7 hm Tryz.func228 (by kernel_rfl) ?_
   conv=>whnf
   (refine Or.inr ⟨[ ],[ 14,9,12,15 ],by kernel_rfl,?_⟩; (conv=>whnf); refine ⟨[ ],_,_,_,_,⟨ v9 b o hc,rfl,rfl,by kernel_rfl⟩,?_⟩)
   conv=>whnf
   (repeat' ((first | refine ansT ?_ | refine ansF ?_|((try (refine Or.inl ?_;conv=>whnf));(try (refine ⟨false,?_⟩;conv=>whnf));refine ⟨_,by exact c2 _,?_⟩) | refine ansD (by first|(simp [*];done)|omega) ?_ | refine ansN (by first|(simp [*];done)|omega) ?_ | refine ⟨by kernel_rfl,?_⟩ | refine ansB (by decide) (by first | decide | (simp; done) | (simp only [List.length_cons,List.length_nil]; decide)) ?_|fail);conv=>whnf))
   (repeat' first|(refine ansS (fun hh=>?_) (fun hh=>?_)<;>(try simp only [ansX] at hh)<;>first|(exfalso;first|omega|(simp [*] at hh;done)|(revert hh;decide))|exact absurd (by assumption) hh|conv=>whnf)|((first|refine kR ?_|refine aB ?_|refine aL ?_|refine aN ?_|fail);conv=>whnf))
   (refine Or.inr ⟨[ ],[ 37,35 ],by kernel_rfl,?_⟩; (conv=>whnf); refine ⟨[ 14,9,12,15,36 ],_,_,_,_,⟨ L3 b 2,rfl,rfl,by kernel_rfl⟩,?_⟩)
   conv=>whnf
   (repeat' first|(refine ansS (fun hh=>?_) (fun hh=>?_)<;>(try simp only [ansX] at hh)<;>first|(exfalso;first|omega|(simp [*] at hh;done)|(revert hh;decide))|exact absurd (by assumption) hh|conv=>whnf)|((first|refine kR ?_|refine aB ?_|refine aL ?_|refine aN ?_|((try (refine Or.inl ?_;conv=>whnf));(try (refine ⟨false,?_⟩;conv=>whnf));refine ⟨_,by first | exact c1 _ | exact E7 g,?_⟩)|fail);conv=>whnf))
   all_goals first
    | (exfalso; apply h; simp_all; done)
    | (simp_all; done)
    | (exfalso; omega)
   
  ·rw [if_pos hu]
   refine a7 hm Tryz.func228 (by kernel_rfl) ?_
   conv=>whnf
   (refine Or.inr ⟨[ ],[ 14,9,12,15 ],by kernel_rfl,?_⟩; (conv=>whnf); refine ⟨[ ],_,_,_,_,⟨ v9 b o hc,rfl,rfl,by kernel_rfl⟩,?_⟩)
   conv=>whnf
   (repeat' ((first | refine ansT ?_ | refine ansF ?_|((try (refine Or.inl ?_;conv=>whnf));(try (refine ⟨false,?_⟩;conv=>whnf));refine ⟨_,by exact c2 _,?_⟩) | refine ansD (by first|(simp [*];done)|omega) ?_ | refine ansN (by first|(simp [*];done)|omega) ?_ | refine ⟨by kernel_rfl,?_⟩ | refine ansB (by decide) (by first | decide | (simp; done) | (simp only [List.length_cons,List.length_nil]; decide)) ?_|fail);conv=>whnf))
   (repeat' first|(refine ansS (fun hh=>?_) (fun hh=>?_)<;>(try simp only [ansX] at hh)<;>first|(exfalso;first|omega|(simp [*] at hh;done)|(revert hh;decide))|exact absurd (by assumption) hh|conv=>whnf)|((first|refine kR ?_|refine aB ?_|refine aL ?_|refine aN ?_|fail);conv=>whnf))
   all_goals first
    | (exfalso; apply h; simp_all; done)
    | (simp_all; done)
    | (exfalso; omega)
   
 ·have hc:chkB b=false:=by simpa using hc
  have c:=G0 b o hc
  unfold drfE
  rw [if_neg (by rw [hc]; decide)]
  refine a7 hm Tryz.func228 (by kernel_rfl) ?_
  conv=>whnf
  (repeat' ((first | refine ansT ?_ | refine ansF ?_|((try (refine Or.inl ?_;conv=>whnf));(try (refine ⟨false,?_⟩;conv=>whnf));refine ⟨_,by exact c,?_⟩) | refine ansD (by first|(simp [*];done)|omega) ?_ | refine ansN (by first|(simp [*];done)|omega) ?_ | refine ⟨by kernel_rfl,?_⟩ | refine ansB (by decide) (by first | decide | (simp; done) | (simp only [List.length_cons,List.length_nil]; decide)) ?_|fail);conv=>whnf))
  try rfl
def V7 (x:RecT) (n:Int):RecT:=⟨x.author,x.gauge,x.appr,n⟩
def retB (b:BooksT) (i:Nat):BooksT:=⟨b.keep,b.users,b.recipes.set i (V7 (b.recipes.getD i rec0) 4),b.next,b.log⟩
theorem a3b (b:BooksT) (hr:b.recipes.length < 2 ^ 20) (i:Nat) (hi:i < b.recipes.length) (h3:(b.recipes.getD i rec0).state=3) (hno:∀ m,m < i->¬(b.recipes.getD m rec0).state=3):PW Tryz.prog 277 [.ptr 0 0 0 0] (dskR b) (.bool true) (dskR (retB b i)):=by
 refine a9 hm Tryz.func277 (by kernel_rfl) ⟨by kernel_rfl,?_⟩
 conv=>whnf
 refine Or.inr ⟨Nat,[11],[],[],fun k=>[i64 k],fun _=>[],fun _=>[],fun k=>b.recipes.length - k,fun k=>k<=i,?_⟩
 conv=>whnf
 refine ⟨⟨0,?_⟩,?_⟩
 ·(conv=>whnf)
  exact ⟨⟨Nat.zero_le _,rfl,rfl,rfl⟩,by kernel_rfl,by kernel_rfl⟩
 intro k hk
 conv=>whnf
 refine ⟨fun h => ?_,fun h=>absurd (of_decide_eq_false h) (by omega)⟩
 have hkk:k < b.recipes.length:=by omega
 conv=>whnf
 refine ⟨⟨by omega,by omega⟩,?_⟩
 conv=>whnf
 refine ⟨hkk,?_⟩
 conv=>whnf
 rw [show Int.toNat (k:Int)=k from rfl]
 refine ⟨fun q => ?_,fun q => ?_⟩
 ·have q:=of_decide_eq_true q
  have e:k=i:=by
   by_cases e:k=i
   ·exact e
   ·exact absurd q (hno k (by omega))
  subst e
  conv=>whnf
  refine ⟨⟨by omega,by omega⟩,?_⟩
  conv=>whnf
  refine ⟨V7 (b.recipes.getD k rec0) 4,⟨rfl,rfl,hkk⟩,?_⟩
  conv=>whnf
  refine ⟨[],by kernel_rfl,?_⟩
  conv=>whnf
  exact ⟨rfl,rfl⟩
 ·have q:=of_decide_eq_false q
  have e:¬k=i:=fun e=>q (e ▸ h3)
  refine ⟨k + 1,?_⟩
  conv=>whnf
  refine ⟨⟨⟨?_,?_⟩,?_,rfl,rfl⟩,by kernel_rfl,by kernel_rfl⟩
  ·show b.recipes.length - (k + 1) < b.recipes.length - k; omega
  ·show k + 1<=i; omega
  ·rw [w64 _ (by omega) (by omega)]; rfl
theorem a3c (b:BooksT) (hr:b.recipes.length < 2 ^ 20) (hno:∀ m,m < b.recipes.length->¬(b.recipes.getD m rec0).state=3):PW Tryz.prog 277 [.ptr 0 0 0 0] (dskR b) (.bool false) (dskR b):=by
 refine a9 hm Tryz.func277 (by kernel_rfl) ⟨by kernel_rfl,?_⟩
 conv=>whnf
 refine Or.inr ⟨Nat,[11],[],[],fun k=>[i64 k],fun _=>[],fun _=>[],fun k=>b.recipes.length - k,fun k=>k<=b.recipes.length,?_⟩
 conv=>whnf
 refine ⟨⟨0,?_⟩,?_⟩
 ·(conv=>whnf)
  exact ⟨⟨Nat.zero_le _,rfl,rfl,rfl⟩,by kernel_rfl,by kernel_rfl⟩
 intro k hk
 conv=>whnf
 refine ⟨fun h => ?_,fun h => ?_⟩
 ·have hkk:k < b.recipes.length:=by have:=of_decide_eq_true h; omega
  conv=>whnf
  refine ⟨⟨by omega,by omega⟩,?_⟩
  conv=>whnf
  refine ⟨hkk,?_⟩
  conv=>whnf
  rw [show Int.toNat (k:Int)=k from rfl]
  refine ⟨fun q=>absurd (of_decide_eq_true q) (hno k hkk),fun q => ?_⟩
  refine ⟨k + 1,?_⟩
  conv=>whnf
  refine ⟨⟨⟨?_,?_⟩,?_,rfl,rfl⟩,by kernel_rfl,by kernel_rfl⟩
  ·show b.recipes.length - (k + 1) < b.recipes.length - k; omega
  ·show k + 1<=b.recipes.length; omega
  ·rw [w64 _ (by omega) (by omega)]; rfl
 conv=>whnf
 refine ⟨[],by kernel_rfl,?_⟩
 conv=>whnf
 exact ⟨rfl,rfl⟩
def A7 (x:RecT):Bool:=decide (x.state=3)
def p9 (l:List RecT):Nat:=l.findIdx A7
theorem D8 {l:List RecT} (h:l.any A7=true):p9 l < l.length:=by
 obtain ⟨x,hx,hp⟩:=List.any_eq_true.1 h
 exact List.findIdx_lt_length_of_exists ⟨x,hx,hp⟩
theorem G6 {l:List RecT} (h:l.any A7=true):(l.getD (p9 l) rec0).state=3:=by
 have hl:=D8 h
 have:=List.findIdx_getElem (p:=A7) (xs:=l) (w:=hl)
 simp only [List.getD,List.getElem?_eq_getElem hl,Option.getD_some]
 exact of_decide_eq_true this
theorem a1C {l:List RecT} {m:Nat} (h:m < p9 l):¬(l.getD m rec0).state=3:=by
 have hl:m < l.length:=Nat.lt_of_lt_of_le h List.findIdx_le_length
 have:=List.not_of_lt_findIdx h
 simp only [List.getD,List.getElem?_eq_getElem hl,Option.getD_some]
 intro q
 simp [A7,q] at this
theorem b2g {l:List RecT} (h:¬l.any A7=true) (m:Nat) (hm:m < l.length):¬(l.getD m rec0).state=3:=fun q=>h (List.any_eq_true.2 ⟨l[m],List.getElem_mem hm,by
 simp only [List.getD,List.getElem?_eq_getElem hm,Option.getD_some] at q
 exact decide_eq_true q⟩)
def retE (b:BooksT) (user:Int):Int :=
 if chkB b then (if ¬(0<=user/\user<=(b.users.length:Int) - 1) then 6 else if mayB [3] b.users user=false then 100 else if ¬b.recipes.any A7=true then 102 else 0) else 8
theorem a7f (b:BooksT) (o:Okay b) (user:Int) (h:retE b user=0):PW Tryz.prog 231 [bks b,i64 user] [] (.tup [ownB (retB b (p9 b.recipes)),i64 0]) (ownR (retB b (p9 b.recipes))):=by
 have hc:chkB b=true:=by
  unfold retE at h
  split at h
  ·assumption
  ·cases h
 unfold retE at h
 rw [if_pos hc] at h
 have hu:0<=user/\user<=(b.users.length:Int) - 1:=Decidable.byContradiction fun q=>by rw [if_pos q] at h; cases h
 rw [if_neg (show ¬¬(0<=user/\user<=(b.users.length:Int) - 1) from fun q=>q hu)] at h
 have hmy:mayB [3] b.users user=true:=by
  cases e:mayB [3] b.users user with
  | true=>rfl
  | false=>rw [if_pos e] at h; cases h
 rw [if_neg (show ¬mayB [3] b.users user=false by rw [hmy]; decide)] at h
 have hg:b.recipes.any A7=true:=Decidable.byContradiction fun q=>by rw [if_pos q] at h; cases h
 clear h
 have s:=u4 hc
 have c1:=fun u=>C9 b.keep b.next u b.users b.recipes b.log 3 (lt40 o.u)
 have w0:IntKind.i64.wrap ((b.users.length:Int) - 1)=(b.users.length:Int) - 1:=w64 _ (by omega) (by omega)
 have c2:∀ u,PC Tryz.prog 105 [i64 0,i64 (IntKind.i64.wrap ((b.users.length:Int) - 1)),i64 u] (.bool (decide (0<=u) && decide (u<=(b.users.length:Int) - 1))):=fun u=>by rw [w0]; exact y0 0 _ u
 have r:=a3b b o.r (p9 b.recipes) (D8 hg) (G6 hg) (fun m hm=>a1C hm)
 refine a9 hm Tryz.func231 (by kernel_rfl) ⟨by kernel_rfl,?_⟩
 conv=>whnf
 (refine Or.inr ⟨[ ],[ 10,8,11,12 ],by kernel_rfl,?_⟩; (conv=>whnf); refine ⟨[ ],_,_,_,_,⟨ v9 b o hc,rfl,rfl,by kernel_rfl⟩,?_⟩)
 conv=>whnf
 (repeat' ((first | refine ansT ?_ | refine ansF ?_|((try (refine Or.inl ?_;conv=>whnf));(try (refine ⟨false,?_⟩;conv=>whnf));refine ⟨_,by exact c2 _,?_⟩) | refine ansD (by first|(simp [*];done)|omega) ?_ | refine ansN (by first|(simp [*];done)|omega) ?_ | refine ⟨by kernel_rfl,?_⟩ | refine ansB (by decide) (by first | decide | (simp; done) | (simp only [List.length_cons,List.length_nil]; decide)) ?_|fail);conv=>whnf))
 (repeat' first|(refine ansS (fun hh=>?_) (fun hh=>?_)<;>(try simp only [ansX] at hh)<;>first|(exfalso;first|omega|(simp [*] at hh;done)|(revert hh;decide))|exact absurd (by assumption) hh|conv=>whnf)|((first|refine kR ?_|refine aB ?_|refine aL ?_|refine aN ?_|fail);conv=>whnf))
 (refine Or.inr ⟨[ ],[ 33,31 ],by kernel_rfl,?_⟩; (conv=>whnf); refine ⟨[ 10,8,11,12,32 ],_,_,_,_,⟨ L3 b 3,rfl,rfl,by kernel_rfl⟩,?_⟩)
 conv=>whnf
 (repeat' first|(refine ansS (fun hh=>?_) (fun hh=>?_)<;>(try simp only [ansX] at hh)<;>first|(exfalso;first|omega|(simp [*] at hh;done)|(revert hh;decide))|exact absurd (by assumption) hh|conv=>whnf)|((first|refine kR ?_|refine aB ?_|refine aL ?_|refine aN ?_|((try (refine Or.inl ?_;conv=>whnf));(try (refine ⟨false,?_⟩;conv=>whnf));refine ⟨_,by exact c1 _,?_⟩)|fail);conv=>whnf))
 (refine Or.inr ⟨[ ],[ ],by kernel_rfl,?_⟩; (conv=>whnf); refine ⟨[ 10,8,11,12 ],_,_,_,_,⟨ r,rfl,rfl,by kernel_rfl⟩,?_⟩)
 conv=>whnf
 (repeat' ((first|refine ansT ?_|refine ansF ?_|refine ansD (by first|(simp [*];done)|omega) ?_ | refine ansN (by first|(simp [*];done)|omega) ?_ | refine ⟨by kernel_rfl,?_⟩ | refine ansB (by decide) (by first | decide | (simp; done) | (simp only [List.length_cons,List.length_nil]; decide)) ?_|fail);conv=>whnf))
 refine ⟨[8,11,12],by kernel_rfl,?_⟩
 conv=>whnf
 exact ⟨rfl,rfl⟩
theorem a5L (b:BooksT) (o:Okay b) (user:Int) (h:¬retE b user=0):PC Tryz.prog 231 [bks b,i64 user] (.tup [newB 0,i64 (retE b user)]):=by
 by_cases hc:chkB b=true
 ·unfold retE at h ⊢
  rw [if_pos hc] at h ⊢
  have s:=u4 hc
  have c1:=fun u=>C9 b.keep b.next u b.users b.recipes b.log 3 (lt40 o.u)
  have w0:IntKind.i64.wrap ((b.users.length:Int) - 1)=(b.users.length:Int) - 1:=w64 _ (by omega) (by omega)
  have c2:∀ u,PC Tryz.prog 105 [i64 0,i64 (IntKind.i64.wrap ((b.users.length:Int) - 1)),i64 u] (.bool (decide (0<=u) && decide (u<=(b.users.length:Int) - 1))):=fun u=>by rw [w0]; exact y0 0 _ u
  by_cases hu:0<=user/\user<=(b.users.length:Int) - 1
  ·rw [if_neg (show ¬¬(0<=user/\user<=(b.users.length:Int) - 1) from fun q=>q hu)] at h ⊢
   by_cases hmy:mayB [3] b.users user=true
   ·rw [if_neg (show ¬mayB [3] b.users user=false by rw [hmy]; decide)] at h ⊢
    have hg:¬b.recipes.any A7=true:=fun q=>h (if_neg (fun e=>e q))
    rw [if_pos hg]
    have r:=a3c b o.r (fun m hm=>b2g hg m hm)
    refine a7 hm Tryz.func231 (by kernel_rfl) ?_
    conv=>whnf
    (refine Or.inr ⟨[ ],[ 10,8,11,12 ],by kernel_rfl,?_⟩; (conv=>whnf); refine ⟨[ ],_,_,_,_,⟨ v9 b o hc,rfl,rfl,by kernel_rfl⟩,?_⟩)
    conv=>whnf
    (repeat' ((first | refine ansT ?_ | refine ansF ?_|((try (refine Or.inl ?_;conv=>whnf));(try (refine ⟨false,?_⟩;conv=>whnf));refine ⟨_,by exact c2 _,?_⟩) | refine ansD (by first|(simp [*];done)|omega) ?_ | refine ansN (by first|(simp [*];done)|omega) ?_ | refine ⟨by kernel_rfl,?_⟩ | refine ansB (by decide) (by first | decide | (simp; done) | (simp only [List.length_cons,List.length_nil]; decide)) ?_|fail);conv=>whnf))
    (repeat' first|(refine ansS (fun hh=>?_) (fun hh=>?_)<;>(try simp only [ansX] at hh)<;>first|(exfalso;first|omega|(simp [*] at hh;done)|(revert hh;decide))|exact absurd (by assumption) hh|conv=>whnf)|((first|refine kR ?_|refine aB ?_|refine aL ?_|refine aN ?_|fail);conv=>whnf))
    (refine Or.inr ⟨[ ],[ 33,31 ],by kernel_rfl,?_⟩; (conv=>whnf); refine ⟨[ 10,8,11,12,32 ],_,_,_,_,⟨ L3 b 3,rfl,rfl,by kernel_rfl⟩,?_⟩)
    conv=>whnf
    (repeat' first|(refine ansS (fun hh=>?_) (fun hh=>?_)<;>(try simp only [ansX] at hh)<;>first|(exfalso;first|omega|(simp [*] at hh;done)|(revert hh;decide))|exact absurd (by assumption) hh|conv=>whnf)|((first|refine kR ?_|refine aB ?_|refine aL ?_|refine aN ?_|((try (refine Or.inl ?_;conv=>whnf));(try (refine ⟨false,?_⟩;conv=>whnf));refine ⟨_,by exact c1 _,?_⟩)|fail);conv=>whnf))
    (refine Or.inr ⟨[ ],[ ],by kernel_rfl,?_⟩; (conv=>whnf); refine ⟨[ 10,8,11,12 ],_,_,_,_,⟨ r,rfl,rfl,by kernel_rfl⟩,?_⟩)
    conv=>whnf
    (repeat' ((first|refine ansT ?_|refine ansF ?_|refine ansD (by first|(simp [*];done)|omega) ?_ | refine ansN (by first|(simp [*];done)|omega) ?_ | refine ⟨by kernel_rfl,?_⟩ | refine ansB (by decide) (by first | decide | (simp; done) | (simp only [List.length_cons,List.length_nil]; decide)) ?_|fail);conv=>whnf))
    all_goals rfl
   ·have hm2:mayB [3] b.users user=false:=by simpa using hmy
    rw [if_pos hm2]
    refine a7 hm Tryz.func231 (by kernel_rfl) ?_
    conv=>whnf
    (refine Or.inr ⟨[ ],[ 10,8,11,12 ],by kernel_rfl,?_⟩; (conv=>whnf); refine ⟨[ ],_,_,_,_,⟨ v9 b o hc,rfl,rfl,by kernel_rfl⟩,?_⟩)
    conv=>whnf
    (repeat' ((first | refine ansT ?_ | refine ansF ?_|((try (refine Or.inl ?_;conv=>whnf));(try (refine ⟨false,?_⟩;conv=>whnf));refine ⟨_,by exact c2 _,?_⟩) | refine ansD (by first|(simp [*];done)|omega) ?_ | refine ansN (by first|(simp [*];done)|omega) ?_ | refine ⟨by kernel_rfl,?_⟩ | refine ansB (by decide) (by first | decide | (simp; done) | (simp only [List.length_cons,List.length_nil]; decide)) ?_|fail);conv=>whnf))
    (repeat' first|(refine ansS (fun hh=>?_) (fun hh=>?_)<;>(try simp only [ansX] at hh)<;>first|(exfalso;first|omega|(simp [*] at hh;done)|(revert hh;decide))|exact absurd (by assumption) hh|conv=>whnf)|((first|refine kR ?_|refine aB ?_|refine aL ?_|refine aN ?_|fail);conv=>whnf))
    (refine Or.inr ⟨[ ],[ 33,31 ],by kernel_rfl,?_⟩; (conv=>whnf); refine ⟨[ 10,8,11,12,32 ],_,_,_,_,⟨ L3 b 3,rfl,rfl,by kernel_rfl⟩,?_⟩)
    conv=>whnf
    (repeat' first|(refine ansS (fun hh=>?_) (fun hh=>?_)<;>(try simp only [ansX] at hh)<;>first|(exfalso;first|omega|(simp [*] at hh;done)|(revert hh;decide))|exact absurd (by assumption) hh|conv=>whnf)|((first|refine kR ?_|refine aB ?_|refine aL ?_|refine aN ?_|((try (refine Or.inl ?_;conv=>whnf));(try (refine ⟨false,?_⟩;conv=>whnf));refine ⟨_,by exact c1 _,?_⟩)|fail);conv=>whnf))
    all_goals rfl
  ·rw [if_pos hu]
   refine a7 hm Tryz.func231 (by kernel_rfl) ?_
   conv=>whnf
   (refine Or.inr ⟨[ ],[ 10,8,11,12 ],by kernel_rfl,?_⟩; (conv=>whnf); refine ⟨[ ],_,_,_,_,⟨ v9 b o hc,rfl,rfl,by kernel_rfl⟩,?_⟩)
   conv=>whnf
   (repeat' ((first | refine ansT ?_ | refine ansF ?_|((try (refine Or.inl ?_;conv=>whnf));(try (refine ⟨false,?_⟩;conv=>whnf));refine ⟨_,by exact c2 _,?_⟩) | refine ansD (by first|(simp [*];done)|omega) ?_ | refine ansN (by first|(simp [*];done)|omega) ?_ | refine ⟨by kernel_rfl,?_⟩ | refine ansB (by decide) (by first | decide | (simp; done) | (simp only [List.length_cons,List.length_nil]; decide)) ?_|fail);conv=>whnf))
   (repeat' first|(refine ansS (fun hh=>?_) (fun hh=>?_)<;>(try simp only [ansX] at hh)<;>first|(exfalso;first|omega|(simp [*] at hh;done)|(revert hh;decide))|exact absurd (by assumption) hh|conv=>whnf)|((first|refine kR ?_|refine aB ?_|refine aL ?_|refine aN ?_|fail);conv=>whnf))
   all_goals rfl
 ·have hc:chkB b=false:=by simpa using hc
  have c:=G0 b o hc
  unfold retE
  rw [if_neg (by rw [hc]; decide)]
  refine a7 hm Tryz.func231 (by kernel_rfl) ?_
  conv=>whnf
  (repeat' ((first | refine ansT ?_ | refine ansF ?_|((try (refine Or.inl ?_;conv=>whnf));(try (refine ⟨false,?_⟩;conv=>whnf));refine ⟨_,by exact c,?_⟩) | refine ansD (by first|(simp [*];done)|omega) ?_ | refine ansN (by first|(simp [*];done)|omega) ?_ | refine ⟨by kernel_rfl,?_⟩ | refine ansB (by decide) (by first | decide | (simp; done) | (simp only [List.length_cons,List.length_nil]; decide)) ?_|fail);conv=>whnf))
  try rfl
theorem a3d (x:RecT):PC Tryz.prog 308 [rcp x] (.bool (A7 x)):=by
 refine a7 hm Tryz.func308 (by kernel_rfl) ?_
 conv=>whnf
 try rfl
def actI (l:List RecT):Int:=if l.any A7 then p9 l else -1
theorem b2h {l:List RecT} {k:Nat} (hk:k < l.length) (h:A7 (l.getD k rec0)=true) (hno:∀ m,m < k->A7 (l.getD m rec0)=false):actI l=k:=by
 have ha:l.any A7=true:=List.any_eq_true.2 ⟨l.getD k rec0,by simp only [List.getD,List.getElem?_eq_getElem hk,Option.getD_some]; exact List.getElem_mem hk,h⟩
 unfold actI
 rw [if_pos ha]
 have e:p9 l=k:=by
  have h1:=G6 ha
  rcases Nat.lt_trichotomy (p9 l) k with h2 | h2 | h2
  ·exact absurd h1 (of_decide_eq_false (hno _ h2))
  ·exact h2
  ·exact absurd (of_decide_eq_true h) (a1C h2)
 rw [e]
theorem b0H {l:List RecT} (hno:∀ m,m < l.length->A7 (l.getD m rec0)=false):actI l = -1:=by
 unfold actI
 rw [if_neg]
 intro h
 have h1:=G6 h
 exact absurd h1 (of_decide_eq_false (hno _ (D8 h)))
theorem b2i (l:List RecT) (hl:l.length < 2 ^ 40):PC Tryz.prog 307 [recs l,.fn (.func 308) [] []] (i64 (actI l)):=by
 refine a7 hm Tryz.func307 (by kernel_rfl) ?_
 conv=>whnf
 refine Or.inr ⟨Nat,[8],[],[],fun k=>[i64 k],fun _=>[],fun _=>[],fun k=>l.length - k,fun k=>k<=l.length/\∀ m,m < k->A7 (l.getD m rec0)=false,?_⟩
 conv=>whnf
 refine ⟨⟨0,?_⟩,?_⟩
 ·(conv=>whnf)
  exact ⟨⟨⟨Nat.zero_le _,fun i hi=>absurd hi (Nat.not_lt_zero i)⟩,rfl,rfl,rfl⟩,by kernel_rfl,by kernel_rfl⟩
 intro k hk
 conv=>whnf
 refine ⟨fun h => ?_,fun h => ?_⟩
 ·have h:=of_decide_eq_true h
  have hkk:k < l.length:=by omega
  conv=>whnf
  refine ⟨⟨by omega,by omega⟩,?_⟩
  conv=>whnf
  rw [show Int.toNat (k:Int)=k from rfl]
  (repeat' (first|(refine ⟨_,by first | exact a3d _,?_⟩; (conv=>whnf)) | (refine Or.inl ?_; (conv=>whnf); refine ⟨_,by first | exact a3d _,?_⟩; (conv=>whnf)) | (refine Or.inl ?_; (conv=>whnf); refine ⟨false,?_⟩; (conv=>whnf); refine ⟨_,by first | exact a3d _,?_⟩; (conv=>whnf)) | (refine ⟨by kernel_rfl,?_⟩; (conv=>whnf)) | fail))
  refine ⟨fun q => ?_,fun q => ?_⟩
  ·(conv=>whnf)
   exact congrArg i64 (b2h hkk q hk.2).symm
  ·refine ⟨k + 1,?_⟩
   conv=>whnf
   refine ⟨⟨⟨?_,?_,?_⟩,?_,rfl,rfl⟩,by kernel_rfl,by kernel_rfl⟩
   ·show l.length - (k + 1) < l.length - k; omega
   ·omega
   ·intro m hm
    by_cases e:m=k
    ·subst e; exact q
    ·exact hk.2 m (by omega)
   ·rw [w64 _ (by omega) (by omega)]; rfl
 ·have h:=of_decide_eq_false h
  conv=>whnf
  exact congrArg i64 (b0H fun m hm=>hk.2 m (by omega)).symm
def actE (b:BooksT):Int:=if chkB b then (if b.recipes.any A7 then 0 else 102) else 8
def actN (b:BooksT):Int:=if chkB b then (if b.recipes.any A7 then p9 b.recipes else 0) else 0
theorem a4w (b:BooksT) (o:Okay b):PC Tryz.prog 271 [bks b] (.tup [i64 (actN b),i64 (actE b)]):=by
 have c:=Z5 b o
 have c2:=b2i b.recipes (lt40 o.r)
 unfold actN actE
 by_cases hc:chkB b=true
 ·rw [if_pos hc] at c
  rw [if_pos hc,if_pos hc]
  unfold actI at c2
  by_cases ha:b.recipes.any A7=true
  ·rw [if_pos ha] at c2
   rw [if_pos ha,if_pos ha]
   refine a7 hm Tryz.func271 (by kernel_rfl) ?_
   conv=>whnf
   (repeat' ((first | refine ansT ?_ | refine ansF ?_|((try (refine Or.inl ?_;conv=>whnf));(try (refine ⟨false,?_⟩;conv=>whnf));refine ⟨_,by first | exact c | exact c2,?_⟩) | refine ansD (by first|(simp [*];done)|omega) ?_ | refine ansN (by first|(simp [*];done)|omega) ?_ | refine ⟨by kernel_rfl,?_⟩ | refine ansB (by decide) (by first | decide | (simp; done) | (simp only [List.length_cons,List.length_nil]; decide)) ?_|fail);conv=>whnf))
   all_goals rfl
  ·rw [if_neg ha] at c2
   rw [if_neg ha,if_neg ha]
   refine a7 hm Tryz.func271 (by kernel_rfl) ?_
   conv=>whnf
   (repeat' ((first | refine ansT ?_ | refine ansF ?_|((try (refine Or.inl ?_;conv=>whnf));(try (refine ⟨false,?_⟩;conv=>whnf));refine ⟨_,by first | exact c | exact c2,?_⟩) | refine ansD (by first|(simp [*];done)|omega) ?_ | refine ansN (by first|(simp [*];done)|omega) ?_ | refine ⟨by kernel_rfl,?_⟩ | refine ansB (by decide) (by first | decide | (simp; done) | (simp only [List.length_cons,List.length_nil]; decide)) ?_|fail);conv=>whnf))
   all_goals rfl
 ·rw [if_neg hc] at c
  rw [if_neg hc,if_neg hc]
  refine a7 hm Tryz.func271 (by kernel_rfl) ?_
  conv=>whnf
  (repeat' ((first | refine ansT ?_ | refine ansF ?_|((try (refine Or.inl ?_;conv=>whnf));(try (refine ⟨false,?_⟩;conv=>whnf));refine ⟨_,by exact c,?_⟩) | refine ansD (by first|(simp [*];done)|omega) ?_ | refine ansN (by first|(simp [*];done)|omega) ?_ | refine ⟨by kernel_rfl,?_⟩ | refine ansB (by decide) (by first | decide | (simp; done) | (simp only [List.length_cons,List.length_nil]; decide)) ?_|fail);conv=>whnf))
  all_goals rfl
theorem A8 (b:BooksT) (o:Okay b) (u:Int):PC Tryz.prog 105 [i64 0,i64 (IntKind.i64.wrap ((b.users.length:Int) - 1)),i64 u] (.bool (decide (0<=u) && decide (u<=(b.users.length:Int) - 1))):=by
 have:=o.u
 rw [w64 _ (by omega) (by omega)]; exact y0 0 _ u
theorem a07 (b:BooksT) (o:Okay b) (u:Int):PC Tryz.prog 105 [i64 0,i64 (IntKind.i64.wrap ((b.recipes.length:Int) - 1)),i64 u] (.bool (decide (0<=u) && decide (u<=(b.recipes.length:Int) - 1))):=by
 have:=o.r
 rw [w64 _ (by omega) (by omega)]; exact y0 0 _ u
def P0 (b:BooksT) (user number:Int):Prop:=(0<=user/\user<=(b.users.length:Int) - 1)/\(0<=number/\number<=(b.recipes.length:Int) - 1)
instance (b:BooksT) (user number:Int):Decidable (P0 b user number):=by unfold P0; infer_instance
theorem C7 (b:BooksT) (o:Okay b) (hc:chkB b=true) (user number:Int) (h:P0 b user number):PW Tryz.prog 274 [bks b,i64 user,i64 number] [] (.tup [.ptr 0 0 0 0,.ptr 2 13 number.toNat 0,i64 0]) (dskR b):=by
 obtain ⟨h1,h2⟩:=h
 refine a9 hm Tryz.func274 (by kernel_rfl) ⟨by kernel_rfl,?_⟩
 conv=>whnf
 (refine Or.inr ⟨[ ],[ 13,11,12,14 ],by kernel_rfl,?_⟩; (conv=>whnf); refine ⟨[ ],_,_,_,_,⟨ v9 b o hc,rfl,rfl,by kernel_rfl⟩,?_⟩)
 conv=>whnf
 (repeat' ((first | refine ansT ?_ | refine ansF ?_|((try (refine Or.inl ?_;conv=>whnf));(try (refine ⟨false,?_⟩;conv=>whnf));refine ⟨_,by first | exact A8 b o _ | exact a07 b o _,?_⟩) | refine ansD (by first|(simp [*];done)|omega) ?_ | refine ansN (by first|(simp [*];done)|omega) ?_ | refine ⟨by kernel_rfl,?_⟩ | refine ansB (by decide) (by first | decide | (simp; done) | (simp only [List.length_cons,List.length_nil]; decide)) ?_|fail);conv=>whnf))
 (repeat' first|(refine ansS (fun hh=>?_) (fun hh=>?_)<;>(try simp only [ansX] at hh)<;>first|(exfalso;first|omega|(simp [*] at hh;done)|(revert hh;decide))|exact absurd (by assumption) hh|conv=>whnf)|((first|refine kR ?_|refine aB ?_|refine aL ?_|refine aN ?_|((try (refine Or.inl ?_;conv=>whnf));(try (refine ⟨false,?_⟩;conv=>whnf));refine ⟨_,by first | exact A8 b o _ | exact a07 b o _,?_⟩)|fail);conv=>whnf))
 refine ⟨[13,11,12,14],by kernel_rfl,?_⟩
 conv=>whnf
 exact ⟨rfl,rfl⟩
theorem a10 (b:BooksT) (o:Okay b) (user number:Int) (h:¬(chkB b=true/\P0 b user number)):PC Tryz.prog 274 [bks b,i64 user,i64 number] (.tup [.nilp,.nilp,i64 (if chkB b then 6 else 8)]):=by
 by_cases hc:chkB b=true
 ·have hn:¬P0 b user number:=fun q=>h ⟨hc,q⟩
  unfold P0 at hn
  rw [if_pos hc]
  refine a7 hm Tryz.func274 (by kernel_rfl) ?_
  conv=>whnf
  (refine Or.inr ⟨[ ],[ 13,11,12,14 ],by kernel_rfl,?_⟩; (conv=>whnf); refine ⟨[ ],_,_,_,_,⟨ v9 b o hc,rfl,rfl,by kernel_rfl⟩,?_⟩)
  conv=>whnf
  (repeat' ((first | refine ansT ?_ | refine ansF ?_|((try (refine Or.inl ?_;conv=>whnf));(try (refine ⟨false,?_⟩;conv=>whnf));refine ⟨_,by first | exact A8 b o _ | exact a07 b o _,?_⟩) | refine ansD (by first|(simp [*];done)|omega) ?_ | refine ansN (by first|(simp [*];done)|omega) ?_ | refine ⟨by kernel_rfl,?_⟩ | refine ansB (by decide) (by first | decide | (simp; done) | (simp only [List.length_cons,List.length_nil]; decide)) ?_|fail);conv=>whnf))
  (repeat' first|(refine ansS (fun hh=>?_) (fun hh=>?_)<;>(try simp only [ansX] at hh)<;>first|(exfalso;first|omega|(simp [*] at hh;done)|(revert hh;decide))|exact absurd (by assumption) hh|conv=>whnf)|((first|refine kR ?_|refine aB ?_|refine aL ?_|refine aN ?_|((try (refine Or.inl ?_;conv=>whnf));(try (refine ⟨false,?_⟩;conv=>whnf));refine ⟨_,by first | exact A8 b o _ | exact a07 b o _,?_⟩)|fail);conv=>whnf))
  all_goals (first | rfl | (exfalso; omega))
 ·have hc2:chkB b=false:=by simpa using hc
  rw [if_neg hc]
  have c:=G0 b o hc2
  refine a7 hm Tryz.func274 (by kernel_rfl) ?_
  conv=>whnf
  (repeat' ((first | refine ansT ?_ | refine ansF ?_|((try (refine Or.inl ?_;conv=>whnf));(try (refine ⟨false,?_⟩;conv=>whnf));refine ⟨_,by exact c,?_⟩) | refine ansD (by first|(simp [*];done)|omega) ?_ | refine ansN (by first|(simp [*];done)|omega) ?_ | refine ⟨by kernel_rfl,?_⟩ | refine ansB (by decide) (by first | decide | (simp; done) | (simp only [List.length_cons,List.length_nil]; decide)) ?_|fail);conv=>whnf))
  try rfl
def setB (b:BooksT) (i:Nat) (n:Int):BooksT:=⟨b.keep,b.users,b.recipes.set i (V7 (b.recipes.getD i rec0) n),b.next,b.log⟩
def J6 (b:BooksT):BooksT:=if b.recipes.any A7 then retB b (p9 b.recipes) else b
def Y0 (b:BooksT) (number:Int):BooksT:=setB (J6 b) number.toNat 3
def N6 (b:BooksT) (user number:Int):Int :=
 if chkB b=true/\P0 b user number then (if mayB [2] b.users user=false then 100 else if ¬(b.recipes.getD number.toNat rec0).state=2 then 101 else 0) else (if chkB b then 6 else 8)
theorem a3e {b:BooksT} {user number:Int} (h:N6 b user number=0):chkB b=true/\P0 b user number/\mayB [2] b.users user=true/\(b.recipes.getD number.toNat rec0).state=2:=by
 unfold N6 at h
 by_cases h1:chkB b=true/\P0 b user number
 ·rw [if_pos h1] at h
  by_cases h2:mayB [2] b.users user=false
  ·rw [if_pos h2] at h; cases h
  ·rw [if_neg h2] at h
   by_cases h3:(b.recipes.getD number.toNat rec0).state=2
   ·exact ⟨h1.1,h1.2,by simpa using h2,h3⟩
   ·rw [if_pos h3] at h; cases h
 ·rw [if_neg h1] at h
  split at h<;>cases h
theorem a3O (b:BooksT) (o:Okay b) (user number:Int) (h:N6 b user number=0):PW Tryz.prog 230 [bks b,i64 user,i64 number] [] (.tup [ownB (Y0 b number),i64 0]) (ownR (Y0 b number)):=by
 obtain ⟨hc,hn,hmy,h2⟩:=a3e h
 clear h
 have s:=u4 hc
 have c1:=fun u=>C9 b.keep b.next u b.users b.recipes b.log 2 (lt40 o.u)
 have hlt:number.toNat < b.recipes.length:=by have:=hn.2; omega
 have hi:0<=number/\number < (b.recipes.length:Int):=by have:=hn.2; omega
 by_cases ha:b.recipes.any A7=true
 ·have r:=a3b b o.r (p9 b.recipes) (D8 ha) (G6 ha) (fun m hm=>a1C hm)
  have e:Y0 b number=setB (retB b (p9 b.recipes)) number.toNat 3:=by unfold Y0 J6; rw [if_pos ha]
  rw [e]
  have hlt2:number.toNat < (retB b (p9 b.recipes)).recipes.length:=by show number.toNat < (b.recipes.set _ _).length; rw [List.length_set]; exact hlt
  refine a9 hm Tryz.func230 (by kernel_rfl) ⟨by kernel_rfl,?_⟩
  conv=>whnf
  (refine Or.inr ⟨[ ],[ 15,12,13,14 ],by kernel_rfl,?_⟩; (conv=>whnf); refine ⟨[ ],_,_,_,_,⟨ C7 b o hc user number hn,rfl,rfl,by kernel_rfl⟩,?_⟩)
  conv=>whnf
  (repeat' ((first|refine ansT ?_|refine ansF ?_|refine ansD (by first|(simp [*];done)|omega) ?_ | refine ansN (by first|(simp [*];done)|omega) ?_ | refine ⟨by kernel_rfl,?_⟩ | refine ansB (by decide) (by first | decide | (simp; done) | (simp only [List.length_cons,List.length_nil]; decide)) ?_|fail);conv=>whnf))
  (refine Or.inr ⟨[ ],[ 27,25 ],by kernel_rfl,?_⟩; (conv=>whnf); refine ⟨[ 15,12,13,14,26 ],_,_,_,_,⟨ L3 b 2,rfl,rfl,by kernel_rfl⟩,?_⟩)
  conv=>whnf
  (repeat' first|(refine ansS (fun hh=>?_) (fun hh=>?_)<;>(try simp only [ansX] at hh)<;>first|(exfalso;first|omega|(simp [*] at hh;done)|(revert hh;decide))|exact absurd (by assumption) hh|conv=>whnf)|((first|refine kR ?_|refine aB ?_|refine aL ?_|refine aN ?_|((try (refine Or.inl ?_;conv=>whnf));(try (refine ⟨false,?_⟩;conv=>whnf));refine ⟨_,by exact c1 _,?_⟩)|fail);conv=>whnf))
  refine ⟨hlt,?_⟩
  conv=>whnf
  (repeat' first|(refine ansS (fun hh=>?_) (fun hh=>?_)<;>(try simp only [ansX] at hh)<;>first|(exfalso;first|omega|(simp [*] at hh;done)|(revert hh;decide))|exact absurd (by assumption) hh|conv=>whnf)|((first|refine kR ?_|refine aB ?_|refine aL ?_|refine aN ?_|fail);conv=>whnf))
  (refine Or.inr ⟨[ ],[ ],by kernel_rfl,?_⟩; (conv=>whnf); refine ⟨[ 15,12,13,14 ],_,_,_,_,⟨ r,rfl,rfl,by kernel_rfl⟩,?_⟩)
  conv=>whnf
  refine ⟨V7 ((retB b (p9 b.recipes)).recipes.getD number.toNat rec0) 3,⟨rfl,rfl,hlt2⟩,?_⟩
  conv=>whnf
  refine ⟨[12,13,14],by kernel_rfl,?_⟩
  conv=>whnf
  exact ⟨rfl,rfl⟩
 ·have r:=a3c b o.r (fun m hm=>b2g ha m hm)
  have e:Y0 b number=setB b number.toNat 3:=by unfold Y0 J6; rw [if_neg ha]
  rw [e]
  have hlt2:=hlt
  refine a9 hm Tryz.func230 (by kernel_rfl) ⟨by kernel_rfl,?_⟩
  conv=>whnf
  (refine Or.inr ⟨[ ],[ 15,12,13,14 ],by kernel_rfl,?_⟩; (conv=>whnf); refine ⟨[ ],_,_,_,_,⟨ C7 b o hc user number hn,rfl,rfl,by kernel_rfl⟩,?_⟩)
  conv=>whnf
  (repeat' ((first|refine ansT ?_|refine ansF ?_|refine ansD (by first|(simp [*];done)|omega) ?_ | refine ansN (by first|(simp [*];done)|omega) ?_ | refine ⟨by kernel_rfl,?_⟩ | refine ansB (by decide) (by first | decide | (simp; done) | (simp only [List.length_cons,List.length_nil]; decide)) ?_|fail);conv=>whnf))
  (refine Or.inr ⟨[ ],[ 27,25 ],by kernel_rfl,?_⟩; (conv=>whnf); refine ⟨[ 15,12,13,14,26 ],_,_,_,_,⟨ L3 b 2,rfl,rfl,by kernel_rfl⟩,?_⟩)
  conv=>whnf
  (repeat' first|(refine ansS (fun hh=>?_) (fun hh=>?_)<;>(try simp only [ansX] at hh)<;>first|(exfalso;first|omega|(simp [*] at hh;done)|(revert hh;decide))|exact absurd (by assumption) hh|conv=>whnf)|((first|refine kR ?_|refine aB ?_|refine aL ?_|refine aN ?_|((try (refine Or.inl ?_;conv=>whnf));(try (refine ⟨false,?_⟩;conv=>whnf));refine ⟨_,by exact c1 _,?_⟩)|fail);conv=>whnf))
  refine ⟨hlt,?_⟩
  conv=>whnf
  (repeat' first|(refine ansS (fun hh=>?_) (fun hh=>?_)<;>(try simp only [ansX] at hh)<;>first|(exfalso;first|omega|(simp [*] at hh;done)|(revert hh;decide))|exact absurd (by assumption) hh|conv=>whnf)|((first|refine kR ?_|refine aB ?_|refine aL ?_|refine aN ?_|fail);conv=>whnf))
  (refine Or.inr ⟨[ ],[ ],by kernel_rfl,?_⟩; (conv=>whnf); refine ⟨[ 15,12,13,14 ],_,_,_,_,⟨ r,rfl,rfl,by kernel_rfl⟩,?_⟩)
  conv=>whnf
  refine ⟨V7 ((b).recipes.getD number.toNat rec0) 3,⟨rfl,rfl,hlt2⟩,?_⟩
  conv=>whnf
  refine ⟨[12,13,14],by kernel_rfl,?_⟩
  conv=>whnf
  exact ⟨rfl,rfl⟩
theorem a3f (b:BooksT) (o:Okay b) (user number:Int) (h:¬N6 b user number=0):PC Tryz.prog 230 [bks b,i64 user,i64 number] (.tup [newB 0,i64 (N6 b user number)]):=by
 by_cases h1:chkB b=true/\P0 b user number
 ·unfold N6 at h ⊢
  rw [if_pos h1] at h ⊢
  obtain ⟨hc,hn⟩:=h1
  have s:=u4 hc
  have c1:=fun u=>C9 b.keep b.next u b.users b.recipes b.log 2 (lt40 o.u)
  have hlt:number.toNat < b.recipes.length:=by have:=hn.2; omega
  by_cases hmy:mayB [2] b.users user=false
  ·rw [if_pos hmy]
   refine a7 hm Tryz.func230 (by kernel_rfl) ?_
   conv=>whnf
   (refine Or.inr ⟨[ ],[ 15,12,13,14 ],by kernel_rfl,?_⟩; (conv=>whnf); refine ⟨[ ],_,_,_,_,⟨ C7 b o hc user number hn,rfl,rfl,by kernel_rfl⟩,?_⟩)
   conv=>whnf
   (repeat' ((first|refine ansT ?_|refine ansF ?_|refine ansD (by first|(simp [*];done)|omega) ?_ | refine ansN (by first|(simp [*];done)|omega) ?_ | refine ⟨by kernel_rfl,?_⟩ | refine ansB (by decide) (by first | decide | (simp; done) | (simp only [List.length_cons,List.length_nil]; decide)) ?_|fail);conv=>whnf))
   (refine Or.inr ⟨[ ],[ 27,25 ],by kernel_rfl,?_⟩; (conv=>whnf); refine ⟨[ 15,12,13,14,26 ],_,_,_,_,⟨ L3 b 2,rfl,rfl,by kernel_rfl⟩,?_⟩)
   conv=>whnf
   (repeat' first|(refine ansS (fun hh=>?_) (fun hh=>?_)<;>(try simp only [ansX] at hh)<;>first|(exfalso;first|omega|(simp [*] at hh;done)|(revert hh;decide))|exact absurd (by assumption) hh|conv=>whnf)|((first|refine kR ?_|refine aB ?_|refine aL ?_|refine aN ?_|((try (refine Or.inl ?_;conv=>whnf));(try (refine ⟨false,?_⟩;conv=>whnf));refine ⟨_,by exact c1 _,?_⟩)|fail);conv=>whnf))
   all_goals rfl
  ·rw [if_neg hmy] at h ⊢
   have hmt:mayB [2] b.users user=true:=by simpa using hmy
   have h2:¬(b.recipes.getD number.toNat rec0).state=2:=fun q=>h (if_neg (fun e=>e q))
   rw [if_pos h2]
   refine a7 hm Tryz.func230 (by kernel_rfl) ?_
   conv=>whnf
   (refine Or.inr ⟨[ ],[ 15,12,13,14 ],by kernel_rfl,?_⟩; (conv=>whnf); refine ⟨[ ],_,_,_,_,⟨ C7 b o hc user number hn,rfl,rfl,by kernel_rfl⟩,?_⟩)
   conv=>whnf
   (repeat' ((first|refine ansT ?_|refine ansF ?_|refine ansD (by first|(simp [*];done)|omega) ?_ | refine ansN (by first|(simp [*];done)|omega) ?_ | refine ⟨by kernel_rfl,?_⟩ | refine ansB (by decide) (by first | decide | (simp; done) | (simp only [List.length_cons,List.length_nil]; decide)) ?_|fail);conv=>whnf))
   (refine Or.inr ⟨[ ],[ 27,25 ],by kernel_rfl,?_⟩; (conv=>whnf); refine ⟨[ 15,12,13,14,26 ],_,_,_,_,⟨ L3 b 2,rfl,rfl,by kernel_rfl⟩,?_⟩)
   conv=>whnf
   (repeat' first|(refine ansS (fun hh=>?_) (fun hh=>?_)<;>(try simp only [ansX] at hh)<;>first|(exfalso;first|omega|(simp [*] at hh;done)|(revert hh;decide))|exact absurd (by assumption) hh|conv=>whnf)|((first|refine kR ?_|refine aB ?_|refine aL ?_|refine aN ?_|((try (refine Or.inl ?_;conv=>whnf));(try (refine ⟨false,?_⟩;conv=>whnf));refine ⟨_,by exact c1 _,?_⟩)|fail);conv=>whnf))
   refine ⟨hlt,?_⟩
   conv=>whnf
   (repeat' first|(refine ansS (fun hh=>?_) (fun hh=>?_)<;>(try simp only [ansX] at hh)<;>first|(exfalso;first|omega|(simp [*] at hh;done)|(revert hh;decide))|exact absurd (by assumption) hh|conv=>whnf)|((first|refine kR ?_|refine aB ?_|refine aL ?_|refine aN ?_|fail);conv=>whnf))
   all_goals rfl
 ·have c:=a10 b o user number h1
  unfold N6
  rw [if_neg h1]
  by_cases hc:chkB b=true
  ·rw [if_pos hc] at c ⊢
   refine a7 hm Tryz.func230 (by kernel_rfl) ?_
   conv=>whnf
   (repeat' ((first | refine ansT ?_ | refine ansF ?_|((try (refine Or.inl ?_;conv=>whnf));(try (refine ⟨false,?_⟩;conv=>whnf));refine ⟨_,by exact c,?_⟩) | refine ansD (by first|(simp [*];done)|omega) ?_ | refine ansN (by first|(simp [*];done)|omega) ?_ | refine ⟨by kernel_rfl,?_⟩ | refine ansB (by decide) (by first | decide | (simp; done) | (simp only [List.length_cons,List.length_nil]; decide)) ?_|fail);conv=>whnf))
   all_goals rfl
  ·rw [if_neg hc] at c ⊢
   refine a7 hm Tryz.func230 (by kernel_rfl) ?_
   conv=>whnf
   (repeat' ((first | refine ansT ?_ | refine ansF ?_|((try (refine Or.inl ?_;conv=>whnf));(try (refine ⟨false,?_⟩;conv=>whnf));refine ⟨_,by exact c,?_⟩) | refine ansD (by first|(simp [*];done)|omega) ?_ | refine ansN (by first|(simp [*];done)|omega) ?_ | refine ⟨by kernel_rfl,?_⟩ | refine ansB (by decide) (by first | decide | (simp; done) | (simp only [List.length_cons,List.length_nil]; decide)) ?_|fail);conv=>whnf))
   all_goals rfl
def upK {α:Type} (f:α->α) (d:α) (l:List α):Nat->List α
 | 0=>l
 | k + 1=>(upK f d l k).set k (f ((upK f d l k).getD k d))
theorem U6 {α:Type} (f:α->α) (d:α) (l:List α):∀ k,(upK f d l k).length=l.length
 | 0=>rfl
 | k + 1=>by
  show ((upK f d l k).set k _).length=_
  rw [List.length_set,U6 f d l k]
theorem P1 {α:Type} {d y:α} {l:List α} {j:Nat} (h:j < l.length):(l.set j y).getD j d=y:=by
 rw [List.getD,List.getElem?_set_self h]; rfl
theorem a5M {α:Type} (f:α->α) (d:α) (l:List α):∀ k i,k<=i->(upK f d l k).getD i d=l.getD i d
 | 0,_,_=>rfl
 | k + 1,i,h=>by
  show ((upK f d l k).set k _).getD i d=_
  rw [List.getD,List.getElem?_set_ne (by omega)]
  exact a5M f d l k i (by omega)
def spI (l:List Int) (m:Nat):List Int:=upK (fun _ => -7) 0 l m
def inR (x:RecT) (m:Nat):RecT:=⟨x.author,x.gauge,spI x.appr m,x.state⟩
def spR (x:RecT):RecT:=⟨-7,x.gauge,spI x.appr x.appr.length,x.state⟩
def inE (x:EntT) (m:Nat):EntT:=⟨x.seq,x.recipe,x.part,spI x.profile m,x.verdict,x.disputed⟩
def spE (x:EntT):EntT:=⟨-7,x.recipe,x.part,spI x.profile x.profile.length,x.verdict,x.disputed⟩

end Go.Proofs.Tryz.My
