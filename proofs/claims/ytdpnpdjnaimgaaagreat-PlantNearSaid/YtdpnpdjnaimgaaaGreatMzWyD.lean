/- A helper text: contracts of functions of the program, and plain lemmas. -/
import Derived.Test.YtdpnpdjnaimgaaaGreatEvSix
import Derived.Test.YtdpnpdjnaimgaaaGreatMzWyB
import Derived.Test.YtdpnpdjnaimgaaaGreatEvNine
import Derived.Test.YtdpnpdjnaimgaaaGreatEvFn
import Derived.Test.YtdpnpdjnaimgaaaGreatMzWyC
import Derived.Test.YtdpnpdjnaimgaaaGreatMzWxk
set_option maxRecDepth 100000
set_option maxHeartbeats 0
set_option linter.unusedVariables false
set_option linter.unusedSimpArgs false
namespace Go.Proofs.Tryz.My
open Go Go.Ev
abbrev wkS (w:WorldT):St:=⟨[],List.replicate 28 .none++(plR w).map (l9 [28,29]),.plain⟩
abbrev wkX (w:WorldT) (k:Int) (f:FuncId):Prop:=(true=true)/\((0<=k/\k < 11)/\∃ news:List Nat,
 (N1 ([28,29]++news) && Nat.beq (plR w).length ([28,29]++news).length && (AV.fn (.func f) [.ptr 0 0 0 0] []).under (plR w).length && (plR w).all (r5 (plR w).length))=true /\
 ((AV.fn (.func f) [.ptr 28 0 0 0] [])=(AV.fn (.func f) [.ptr 0 0 0 0] []).ren ([28,29]++news)/\([28,29]++news).map (wkS w).row=(plR w).map (l9 ([28,29]++news))))
theorem a7Z (w:WorldT):PW Tryz.prog 132 [.ptr 0 0 0 0,u8 1] (plR w) (.fn (.func 169) [.ptr 0 0 0 0] []) (plR w):=by
 have e:D7 Tryz.prog Tryz.f132 [.ptr 0 0 0 0,u8 1] (plR w) (.fn (.func 169) [.ptr 0 0 0 0] []) (plR w)=wkX w 1 169:=by kernel_rfl
 refine j9 hm Tryz.func132 (by kernel_rfl) ?_
 rw [e]
 exact ⟨rfl,⟨by decide,by decide⟩,[],by kernel_rfl,rfl,rfl⟩
theorem a70 (w:WorldT):PW Tryz.prog 132 [.ptr 0 0 0 0,u8 2] (plR w) (.fn (.func 170) [.ptr 0 0 0 0] []) (plR w):=by
 have e:D7 Tryz.prog Tryz.f132 [.ptr 0 0 0 0,u8 2] (plR w) (.fn (.func 170) [.ptr 0 0 0 0] []) (plR w)=wkX w 2 170:=by kernel_rfl
 refine j9 hm Tryz.func132 (by kernel_rfl) ?_
 rw [e]
 exact ⟨rfl,⟨by decide,by decide⟩,[],by kernel_rfl,rfl,rfl⟩
theorem a71 (w:WorldT):PW Tryz.prog 132 [.ptr 0 0 0 0,u8 3] (plR w) (.fn (.func 171) [.ptr 0 0 0 0] []) (plR w):=by
 have e:D7 Tryz.prog Tryz.f132 [.ptr 0 0 0 0,u8 3] (plR w) (.fn (.func 171) [.ptr 0 0 0 0] []) (plR w)=wkX w 3 171:=by kernel_rfl
 refine j9 hm Tryz.func132 (by kernel_rfl) ?_
 rw [e]
 exact ⟨rfl,⟨by decide,by decide⟩,[],by kernel_rfl,rfl,rfl⟩
theorem a72 (w:WorldT):PW Tryz.prog 132 [.ptr 0 0 0 0,u8 4] (plR w) (.fn (.func 172) [.ptr 0 0 0 0] []) (plR w):=by
 have e:D7 Tryz.prog Tryz.f132 [.ptr 0 0 0 0,u8 4] (plR w) (.fn (.func 172) [.ptr 0 0 0 0] []) (plR w)=wkX w 4 172:=by kernel_rfl
 refine j9 hm Tryz.func132 (by kernel_rfl) ?_
 rw [e]
 exact ⟨rfl,⟨by decide,by decide⟩,[],by kernel_rfl,rfl,rfl⟩
theorem a73 (w:WorldT):PW Tryz.prog 132 [.ptr 0 0 0 0,u8 5] (plR w) (.fn (.func 173) [.ptr 0 0 0 0] []) (plR w):=by
 have e:D7 Tryz.prog Tryz.f132 [.ptr 0 0 0 0,u8 5] (plR w) (.fn (.func 173) [.ptr 0 0 0 0] []) (plR w)=wkX w 5 173:=by kernel_rfl
 refine j9 hm Tryz.func132 (by kernel_rfl) ?_
 rw [e]
 exact ⟨rfl,⟨by decide,by decide⟩,[],by kernel_rfl,rfl,rfl⟩
theorem a74 (w:WorldT):PW Tryz.prog 132 [.ptr 0 0 0 0,u8 6] (plR w) (.fn (.func 174) [.ptr 0 0 0 0] []) (plR w):=by
 have e:D7 Tryz.prog Tryz.f132 [.ptr 0 0 0 0,u8 6] (plR w) (.fn (.func 174) [.ptr 0 0 0 0] []) (plR w)=wkX w 6 174:=by kernel_rfl
 refine j9 hm Tryz.func132 (by kernel_rfl) ?_
 rw [e]
 exact ⟨rfl,⟨by decide,by decide⟩,[],by kernel_rfl,rfl,rfl⟩
theorem a75 (w:WorldT):PW Tryz.prog 132 [.ptr 0 0 0 0,u8 7] (plR w) (.fn (.func 175) [.ptr 0 0 0 0] []) (plR w):=by
 have e:D7 Tryz.prog Tryz.f132 [.ptr 0 0 0 0,u8 7] (plR w) (.fn (.func 175) [.ptr 0 0 0 0] []) (plR w)=wkX w 7 175:=by kernel_rfl
 refine j9 hm Tryz.func132 (by kernel_rfl) ?_
 rw [e]
 exact ⟨rfl,⟨by decide,by decide⟩,[],by kernel_rfl,rfl,rfl⟩
theorem a76 (w:WorldT):PW Tryz.prog 132 [.ptr 0 0 0 0,u8 8] (plR w) (.fn (.func 176) [.ptr 0 0 0 0] []) (plR w):=by
 have e:D7 Tryz.prog Tryz.f132 [.ptr 0 0 0 0,u8 8] (plR w) (.fn (.func 176) [.ptr 0 0 0 0] []) (plR w)=wkX w 8 176:=by kernel_rfl
 refine j9 hm Tryz.func132 (by kernel_rfl) ?_
 rw [e]
 exact ⟨rfl,⟨by decide,by decide⟩,[],by kernel_rfl,rfl,rfl⟩
theorem a77 (w:WorldT):PW Tryz.prog 132 [.ptr 0 0 0 0,u8 9] (plR w) (.fn (.func 177) [.ptr 0 0 0 0] []) (plR w):=by
 have e:D7 Tryz.prog Tryz.f132 [.ptr 0 0 0 0,u8 9] (plR w) (.fn (.func 177) [.ptr 0 0 0 0] []) (plR w)=wkX w 9 177:=by kernel_rfl
 refine j9 hm Tryz.func132 (by kernel_rfl) ?_
 rw [e]
 exact ⟨rfl,⟨by decide,by decide⟩,[],by kernel_rfl,rfl,rfl⟩
theorem a4S (w:WorldT):PW Tryz.prog 132 [.ptr 0 0 0 0,u8 10] (plR w) (.fn (.func 178) [.ptr 0 0 0 0] []) (plR w):=by
 have e:D7 Tryz.prog Tryz.f132 [.ptr 0 0 0 0,u8 10] (plR w) (.fn (.func 178) [.ptr 0 0 0 0] []) (plR w)=wkX w 10 178:=by kernel_rfl
 refine j9 hm Tryz.func132 (by kernel_rfl) ?_
 rw [e]
 exact ⟨rfl,⟨by decide,by decide⟩,[],by kernel_rfl,rfl,rfl⟩
theorem L5 (a b:Int):SubR (.tup [i64 a,.nils,i64 b]) (.tup [i64 a,outs [],i64 b]):=by
 refine (a1q (xs:=[i64 a,.nils,i64 b]) (ys:=[i64 a,outs [],i64 b]) rfl fun i hi => ?_).2
 match i with
 | 0=>exact .refl _
 | 1=>exact .nils _ _ _
 | 2=>exact .refl _
 | (k + 3)=>exact .refl _
theorem b4f (a b:Int):SubR (.agg [i64 a,i64 b,.nils]) (ans ⟨a,b,[]⟩):=by
 refine (a1q (xs:=[i64 a,i64 b,.nils]) (ys:=eAns ⟨a,b,[]⟩) rfl fun i hi => ?_).1
 match i with
 | 0=>exact .refl _
 | 1=>exact .refl _
 | 2=>exact .nils _ _ _
 | (k + 3)=>exact .refl _
theorem J9 (w w':WorldT) (f:FuncId) (kind user number n role:Int) (gauge:GauT) (tru noise:List Int) (N:Int) (l:List OutT) (hw:PW Tryz.prog 132 [.ptr 0 0 0 0,u8 kind] (plR w) (.fn (.func f) [.ptr 0 0 0 0] []) (plR w)) (ha:PW Tryz.prog f [.ptr 0 0 0 0,ordX kind user number n role gauge tru noise] (plR w) (.tup [i64 N,outs l,i64 0]) (plR w')) :
  PW Tryz.prog 79 [.ptr 0 0 0 0,ordX kind user number n role gauge tru noise] (plR w) (ans ⟨0,N,l⟩) (plR w'):=by
 refine a9 hm Tryz.func79 (by kernel_rfl) ⟨by kernel_rfl,?_⟩
 conv=>whnf
 refine ⟨by kernel_rfl,?_⟩
 conv=>whnf
 refine Or.inr ⟨false,[25,26],[.ptr 0 0 0 0,u8 kind],_,_,_,⟨hw,rfl,rfl,by kernel_rfl⟩,?_⟩
 conv=>whnf
 refine Or.inr ⟨false,[25,26],[.ptr 0 0 0 0,ordX kind user number n role gauge tru noise],_,_,_,⟨ha,rfl,rfl,by kernel_rfl⟩,?_⟩
 conv=>whnf
 refine ⟨by kernel_rfl,?_⟩
 conv=>whnf
 (repeat' first|(refine ansS (fun hh=>?_) (fun hh=>?_)<;>(try simp only [ansX] at hh)<;>first|(exfalso;first|omega|(simp [*] at hh;done)|(revert hh;decide))|exact absurd (by assumption) hh|conv=>whnf)|((first|refine kR ?_|refine aM ?_|refine aL ?_|refine aN ?_|fail);conv=>whnf))
 refine ⟨[],by kernel_rfl,?_⟩
 conv=>whnf
 exact ⟨rfl,rfl⟩
theorem a78 (w w':WorldT) (f:FuncId) (kind user number n role:Int) (gauge:GauT) (tru noise:List Int) (N:Int) (l:List OutT) (hw:PW Tryz.prog 132 [.ptr 0 0 0 0,u8 kind] (plR w) (.fn (.func f) [.ptr 0 0 0 0] []) (plR w)) (ha:PW Tryz.prog f [.ptr 0 0 0 0,ordX kind user number n role gauge tru noise] (plR w) (.tup [i64 N,outs l,i64 0]) (plR2 w')) :
  PW Tryz.prog 79 [.ptr 0 0 0 0,ordX kind user number n role gauge tru noise] (plR w) (ans ⟨0,N,l⟩) (plR2 w'):=by
 refine a9 hm Tryz.func79 (by kernel_rfl) ⟨by kernel_rfl,?_⟩
 conv=>whnf
 refine ⟨by kernel_rfl,?_⟩
 conv=>whnf
 refine Or.inr ⟨false,[25,26],[.ptr 0 0 0 0,u8 kind],_,_,_,⟨hw,rfl,rfl,by kernel_rfl⟩,?_⟩
 conv=>whnf
 refine Or.inr ⟨true,[25,26],[.ptr 0 0 0 0,ordX kind user number n role gauge tru noise],_,_,_,⟨ha,rfl,rfl,by kernel_rfl⟩,?_⟩
 conv=>whnf
 refine ⟨by kernel_rfl,?_⟩
 conv=>whnf
 (repeat' first|(refine ansS (fun hh=>?_) (fun hh=>?_)<;>(try simp only [ansX] at hh)<;>first|(exfalso;first|omega|(simp [*] at hh;done)|(revert hh;decide))|exact absurd (by assumption) hh|conv=>whnf)|((first|refine kR ?_|refine aM ?_|refine aL ?_|refine aN ?_|fail);conv=>whnf))
 refine ⟨[14],by kernel_rfl,?_⟩
 conv=>whnf
 exact ⟨rfl,rfl⟩
theorem E8 (w:WorldT) (f:FuncId) (kind user number n role:Int) (gauge:GauT) (tru noise:List Int) (e:Int) (he:¬e=0) (hw:PW Tryz.prog 132 [.ptr 0 0 0 0,u8 kind] (plR w) (.fn (.func f) [.ptr 0 0 0 0] []) (plR w)) (ha:PW Tryz.prog f [.ptr 0 0 0 0,ordX kind user number n role gauge tru noise] (plR w) (.tup [i64 0,.nils,i64 e]) (plR w)) :
  PW Tryz.prog 79 [.ptr 0 0 0 0,ordX kind user number n role gauge tru noise] (plR w) (ans ⟨e,0,[]⟩) (plR w):=by
 refine PW.sub (res := .agg [i64 e,i64 0,.nils]) ?_ (b4f e 0)
 refine a9 hm Tryz.func79 (by kernel_rfl) ⟨by kernel_rfl,?_⟩
 conv=>whnf
 refine ⟨by kernel_rfl,?_⟩
 conv=>whnf
 refine Or.inr ⟨false,[25,26],[.ptr 0 0 0 0,u8 kind],_,_,_,⟨hw,rfl,rfl,by kernel_rfl⟩,?_⟩
 conv=>whnf
 refine Or.inr ⟨false,[25,26],[.ptr 0 0 0 0,ordX kind user number n role gauge tru noise],_,_,_,⟨ha,rfl,rfl,by kernel_rfl⟩,?_⟩
 conv=>whnf
 refine ⟨by kernel_rfl,?_⟩
 conv=>whnf
 (repeat' first|(refine ansS (fun hh=>?_) (fun hh=>?_)<;>(try simp only [ansX] at hh)<;>first|(exfalso;first|omega|(simp [*] at hh;done)|(revert hh;decide))|exact absurd (by assumption) hh|conv=>whnf)|((first|refine kR ?_|refine aM ?_|refine aL ?_|refine aN ?_|fail);conv=>whnf))
 refine ⟨[],by kernel_rfl,?_⟩
 conv=>whnf
 exact ⟨rfl,rfl⟩
theorem Q5 {w:WorldT} {o:OrderT} (h:stpE w o=0):stpA w o=⟨0,stpN w o,stpO w o⟩/\stpW w o=stpX w o:=by
 unfold stpA stpW
 rw [if_pos h,if_pos h]
 exact ⟨rfl,rfl⟩
theorem J1 {w:WorldT} {o:OrderT} (h:¬stpE w o=0):stpA w o=⟨stpE w o,0,[]⟩/\stpW w o=w:=by
 unfold stpA stpW
 rw [if_neg h,if_neg h]
 exact ⟨rfl,rfl⟩
theorem b4g (w:WorldT) (hb:Okay w.books) (user number n role:Int) (gauge:GauT) (tru noise:List Int):PW Tryz.prog 79 [.ptr 0 0 0 0,ord ⟨3,user,number,n,role,gauge,tru,noise⟩] (plR w) (ans (stpA w ⟨3,user,number,n,role,gauge,tru,noise⟩)) (plR (stpW w ⟨3,user,number,n,role,gauge,tru,noise⟩)):=by
 have e:stpE w ⟨3,user,number,n,role,gauge,tru,noise⟩=addE w.books role:=rfl
 by_cases h:addE w.books role=0
 ·obtain ⟨e1,e2⟩:=Q5 (e.trans h)
  rw [e1,e2]
  exact J9 w (bokW w (addU w.books role)) _ 3 user number n role gauge tru noise (w.books.users.length:Nat) [] (a71 w) ((a7I w hb 3 user number n role gauge tru noise h).sub (L5 _ _))
 ·obtain ⟨e1,e2⟩:=J1 (show ¬stpE w ⟨3,user,number,n,role,gauge,tru,noise⟩=0 by rw [e]; exact h)
  rw [e1,e2,e]
  exact E8 w _ 3 user number n role gauge tru noise _ h (a71 w) (a59 w hb 3 user number n role gauge tru noise h)
theorem b4h (w:WorldT) (hb:Okay w.books) (user number n role:Int) (gauge:GauT) (tru noise:List Int):PW Tryz.prog 79 [.ptr 0 0 0 0,ord ⟨4,user,number,n,role,gauge,tru,noise⟩] (plR w) (ans (stpA w ⟨4,user,number,n,role,gauge,tru,noise⟩)) (plR (stpW w ⟨4,user,number,n,role,gauge,tru,noise⟩)):=by
 have e:stpE w ⟨4,user,number,n,role,gauge,tru,noise⟩=drfE w.books user gauge:=rfl
 by_cases h:drfE w.books user gauge=0
 ·obtain ⟨e1,e2⟩:=Q5 (e.trans h)
  rw [e1,e2]
  exact J9 w (bokW w (drfB w.books user gauge)) _ 4 user number n role gauge tru noise (w.books.recipes.length:Nat) [] (a72 w) ((b05 w hb 4 user number n role gauge tru noise h).sub (L5 _ _))
 ·obtain ⟨e1,e2⟩:=J1 (show ¬stpE w ⟨4,user,number,n,role,gauge,tru,noise⟩=0 by rw [e]; exact h)
  rw [e1,e2,e]
  exact E8 w _ 4 user number n role gauge tru noise _ h (a72 w) (a83 w hb 4 user number n role gauge tru noise h)
theorem b4i (w:WorldT) (hb:Okay w.books) (user number n role:Int) (gauge:GauT) (tru noise:List Int):PW Tryz.prog 79 [.ptr 0 0 0 0,ord ⟨5,user,number,n,role,gauge,tru,noise⟩] (plR w) (ans (stpA w ⟨5,user,number,n,role,gauge,tru,noise⟩)) (plR (stpW w ⟨5,user,number,n,role,gauge,tru,noise⟩)):=by
 have e:stpE w ⟨5,user,number,n,role,gauge,tru,noise⟩=apvE w.books user number:=rfl
 by_cases h:apvE w.books user number=0
 ·obtain ⟨e1,e2⟩:=Q5 (e.trans h)
  rw [e1,e2]
  exact J9 w (bokW w (apvB w.books user number)) _ 5 user number n role gauge tru noise 0 [] (a73 w) ((a7J w hb 5 user number n role gauge tru noise h).sub (L5 _ _))
 ·obtain ⟨e1,e2⟩:=J1 (show ¬stpE w ⟨5,user,number,n,role,gauge,tru,noise⟩=0 by rw [e]; exact h)
  rw [e1,e2,e]
  exact E8 w _ 5 user number n role gauge tru noise _ h (a73 w) (a6a w hb 5 user number n role gauge tru noise h)
theorem b4j (w:WorldT) (hb:Okay w.books) (user number n role:Int) (gauge:GauT) (tru noise:List Int):PW Tryz.prog 79 [.ptr 0 0 0 0,ord ⟨6,user,number,n,role,gauge,tru,noise⟩] (plR w) (ans (stpA w ⟨6,user,number,n,role,gauge,tru,noise⟩)) (plR (stpW w ⟨6,user,number,n,role,gauge,tru,noise⟩)):=by
 have e:stpE w ⟨6,user,number,n,role,gauge,tru,noise⟩=N6 w.books user number:=rfl
 by_cases h:N6 w.books user number=0
 ·obtain ⟨e1,e2⟩:=Q5 (e.trans h)
  rw [e1,e2]
  exact J9 w (bokW w (Y0 w.books number)) _ 6 user number n role gauge tru noise 0 [] (a74 w) ((a6b w hb 6 user number n role gauge tru noise h).sub (L5 _ _))
 ·obtain ⟨e1,e2⟩:=J1 (show ¬stpE w ⟨6,user,number,n,role,gauge,tru,noise⟩=0 by rw [e]; exact h)
  rw [e1,e2,e]
  exact E8 w _ 6 user number n role gauge tru noise _ h (a74 w) (a3V w hb 6 user number n role gauge tru noise h)
theorem b4k (w:WorldT) (hb:Okay w.books) (user number n role:Int) (gauge:GauT) (tru noise:List Int):PW Tryz.prog 79 [.ptr 0 0 0 0,ord ⟨7,user,number,n,role,gauge,tru,noise⟩] (plR w) (ans (stpA w ⟨7,user,number,n,role,gauge,tru,noise⟩)) (plR (stpW w ⟨7,user,number,n,role,gauge,tru,noise⟩)):=by
 have e:stpE w ⟨7,user,number,n,role,gauge,tru,noise⟩=retE w.books user:=rfl
 by_cases h:retE w.books user=0
 ·obtain ⟨e1,e2⟩:=Q5 (e.trans h)
  rw [e1,e2]
  exact J9 w (bokW w (retB w.books (p9 w.books.recipes))) _ 7 user number n role gauge tru noise 0 [] (a75 w) ((a84 w hb 7 user number n role gauge tru noise h).sub (L5 _ _))
 ·obtain ⟨e1,e2⟩:=J1 (show ¬stpE w ⟨7,user,number,n,role,gauge,tru,noise⟩=0 by rw [e]; exact h)
  rw [e1,e2,e]
  exact E8 w _ 7 user number n role gauge tru noise _ h (a75 w) (a7K w hb 7 user number n role gauge tru noise h)
theorem b4l (w:WorldT) (hb:Okay w.books) (user number n role:Int) (gauge:GauT) (tru noise:List Int):PW Tryz.prog 79 [.ptr 0 0 0 0,ord ⟨8,user,number,n,role,gauge,tru,noise⟩] (plR w) (ans (stpA w ⟨8,user,number,n,role,gauge,tru,noise⟩)) (plR (stpW w ⟨8,user,number,n,role,gauge,tru,noise⟩)):=by
 have e:stpE w ⟨8,user,number,n,role,gauge,tru,noise⟩=disE w.books user number:=rfl
 by_cases h:disE w.books user number=0
 ·obtain ⟨e1,e2⟩:=Q5 (e.trans h)
  rw [e1,e2]
  exact J9 w (bokW w (mrkB w.books number true)) _ 8 user number n role gauge tru noise 0 [] (a76 w) ((a7L w hb 8 user number n role gauge tru noise h).sub (L5 _ _))
 ·obtain ⟨e1,e2⟩:=J1 (show ¬stpE w ⟨8,user,number,n,role,gauge,tru,noise⟩=0 by rw [e]; exact h)
  rw [e1,e2,e]
  exact E8 w _ 8 user number n role gauge tru noise _ h (a76 w) (a6c w hb 8 user number n role gauge tru noise h)
theorem b4m (w:WorldT) (hb:Okay w.books) (user number n role:Int) (gauge:GauT) (tru noise:List Int):PW Tryz.prog 79 [.ptr 0 0 0 0,ord ⟨9,user,number,n,role,gauge,tru,noise⟩] (plR w) (ans (stpA w ⟨9,user,number,n,role,gauge,tru,noise⟩)) (plR (stpW w ⟨9,user,number,n,role,gauge,tru,noise⟩)):=by
 have e:stpE w ⟨9,user,number,n,role,gauge,tru,noise⟩=setE w.books user number:=rfl
 by_cases h:setE w.books user number=0
 ·obtain ⟨e1,e2⟩:=Q5 (e.trans h)
  rw [e1,e2]
  exact J9 w (bokW w (mrkB w.books number false)) _ 9 user number n role gauge tru noise 0 [] (a77 w) ((a85 w hb 9 user number n role gauge tru noise h).sub (L5 _ _))
 ·obtain ⟨e1,e2⟩:=J1 (show ¬stpE w ⟨9,user,number,n,role,gauge,tru,noise⟩=0 by rw [e]; exact h)
  rw [e1,e2,e]
  exact E8 w _ 9 user number n role gauge tru noise _ h (a77 w) (a7M w hb 9 user number n role gauge tru noise h)
theorem b2Z (w:WorldT) (hb:Okay w.books) (user number n role:Int) (gauge:GauT) (tru noise:List Int):PW Tryz.prog 79 [.ptr 0 0 0 0,ord ⟨10,user,number,n,role,gauge,tru,noise⟩] (plR w) (ans (stpA w ⟨10,user,number,n,role,gauge,tru,noise⟩)) (plR (stpW w ⟨10,user,number,n,role,gauge,tru,noise⟩)):=by
 have e:stpE w ⟨10,user,number,n,role,gauge,tru,noise⟩=rstE w user:=rfl
 by_cases h:rstE w user=0
 ·obtain ⟨e1,e2⟩:=Q5 (e.trans h)
  rw [e1,e2]
  exact J9 w (rstW w) _ 10 user number n role gauge tru noise 0 [] (a4S w) ((b06 w hb.u 10 user number n role gauge tru noise h).sub (L5 _ _))
 ·obtain ⟨e1,e2⟩:=J1 (show ¬stpE w ⟨10,user,number,n,role,gauge,tru,noise⟩=0 by rw [e]; exact h)
  rw [e1,e2,e]
  exact E8 w _ 10 user number n role gauge tru noise _ h (a4S w) (a86 w hb.u 10 user number n role gauge tru noise h)
theorem b20 (w:WorldT) (g:GoodW w) (user number n role:Int) (gauge:GauT) (tru noise:List Int) (h:¬stpE w ⟨1,user,number,n,role,gauge,tru,noise⟩=0):PW Tryz.prog 79 [.ptr 0 0 0 0,ord ⟨1,user,number,n,role,gauge,tru,noise⟩] (plR w) (ans (stpA w ⟨1,user,number,n,role,gauge,tru,noise⟩)) (plR (stpW w ⟨1,user,number,n,role,gauge,tru,noise⟩)):=by
 have e:stpE w ⟨1,user,number,n,role,gauge,tru,noise⟩=cntE w n:=rfl
 obtain ⟨e1,e2⟩:=J1 h
 rw [e1,e2,e]
 exact E8 w _ 1 user number n role gauge tru noise _ h (a7Z w) (a89 w g 1 user number n role gauge tru noise h)
theorem b4n (w:WorldT) (g:GoodW w) (user number n role:Int) (gauge:GauT) (tru noise:List Int) (h:stpE w ⟨1,user,number,n,role,gauge,tru,noise⟩=0):PW Tryz.prog 79 [.ptr 0 0 0 0,ord ⟨1,user,number,n,role,gauge,tru,noise⟩] (plR w) (ans (stpA w ⟨1,user,number,n,role,gauge,tru,noise⟩)) (plR2 (stpW w ⟨1,user,number,n,role,gauge,tru,noise⟩)):=by
 obtain ⟨e1,e2⟩:=Q5 h
 rw [e1,e2]
 exact a78 w (cntW w n) _ 1 user number n role gauge tru noise _ _ (a7Z w) (b1a w g 1 user number n role gauge tru noise h)
theorem b21 (w:WorldT) (g:GoodW w) (user number n role:Int) (gauge:GauT) (tru noise:List Int) (ht:tru.length < 2 ^ 40) (hn:noise.length < 2 ^ 40) (h:¬stpE w ⟨2,user,number,n,role,gauge,tru,noise⟩=0):PW Tryz.prog 79 [.ptr 0 0 0 0,ord ⟨2,user,number,n,role,gauge,tru,noise⟩] (plR w) (ans (stpA w ⟨2,user,number,n,role,gauge,tru,noise⟩)) (plR (stpW w ⟨2,user,number,n,role,gauge,tru,noise⟩)):=by
 have e:stpE w ⟨2,user,number,n,role,gauge,tru,noise⟩=prtE w ⟨2,user,number,n,role,gauge,tru,noise⟩:=rfl
 obtain ⟨e1,e2⟩:=J1 h
 rw [e1,e2,e]
 exact E8 w _ 2 user number n role gauge tru noise _ h (a70 w) (b09 w g 2 user number n role gauge tru noise ht hn h)
theorem b4o (w:WorldT) (g:GoodW w) (user number n role:Int) (gauge:GauT) (tru noise:List Int) (h:stpE w ⟨2,user,number,n,role,gauge,tru,noise⟩=0):PW Tryz.prog 79 [.ptr 0 0 0 0,ord ⟨2,user,number,n,role,gauge,tru,noise⟩] (plR w) (ans (stpA w ⟨2,user,number,n,role,gauge,tru,noise⟩)) (plR2 (stpW w ⟨2,user,number,n,role,gauge,tru,noise⟩)):=by
 obtain ⟨e1,e2⟩:=Q5 h
 rw [e1,e2]
 exact a78 w (prtW w ⟨2,user,number,n,role,gauge,tru,noise⟩) _ 2 user number n role gauge tru noise _ [] (a70 w) ((b2W w g (okG g.bk) 2 user number n role gauge tru noise h).sub (L5 _ _))
def a3y (w:WorldT) (o:OrderT):Bool := !(decide (stpE w o=0) && decide (o.kind<=2))
theorem b22 (w:WorldT) (g:GoodW w) (o:OrderT) (ho:ordB o=true) (ht:o.tru.length < 2 ^ 40) (hn:o.noise.length < 2 ^ 40) (h:a3y w o=true):PW Tryz.prog 79 [.ptr 0 0 0 0,ord o] (plR w) (ans (stpA w o)) (plR (stpW w o)):=by
 have hk:1<=o.kind/\o.kind<=10:=by
  unfold ordB at ho
  simp only [Bool.and_eq_true,decide_eq_true_eq] at ho
  exact ho.1.1
 have hs:¬(stpE w o=0/\o.kind<=2):=by
  intro q
  unfold a3y at h
  rw [decide_eq_true q.1,decide_eq_true q.2] at h
  cases h
 have hb:=okG g.bk
 obtain ⟨kind,user,number,n,role,gauge,tru,noise⟩:=o
 simp only [] at hk ht hn hs
 have cs:kind=1∨kind=2∨kind=3∨kind=4∨kind=5∨kind=6∨kind=7∨kind=8∨kind=9∨kind=10:=by omega
 rcases cs with rfl | rfl | rfl | rfl | rfl | rfl | rfl | rfl | rfl | rfl
 ·exact b20 w g user number n role gauge tru noise (fun q=>hs ⟨q,by decide⟩)
 ·exact b21 w g user number n role gauge tru noise ht hn (fun q=>hs ⟨q,by decide⟩)
 ·exact b4g w hb user number n role gauge tru noise
 ·exact b4h w hb user number n role gauge tru noise
 ·exact b4i w hb user number n role gauge tru noise
 ·exact b4j w hb user number n role gauge tru noise
 ·exact b4k w hb user number n role gauge tru noise
 ·exact b4l w hb user number n role gauge tru noise
 ·exact b4m w hb user number n role gauge tru noise
 ·exact b2Z w hb user number n role gauge tru noise
theorem b23 (w:WorldT) (g:GoodW w) (o:OrderT) (ho:ordB o=true) (h:a3y w o=false):PW Tryz.prog 79 [.ptr 0 0 0 0,ord o] (plR w) (ans (stpA w o)) (plR2 (stpW w o)):=by
 have hk:1<=o.kind/\o.kind<=10:=by
  unfold ordB at ho
  simp only [Bool.and_eq_true,decide_eq_true_eq] at ho
  exact ho.1.1
 have hs:stpE w o=0/\o.kind<=2:=by
  unfold a3y at h
  simpa using h
 obtain ⟨kind,user,number,n,role,gauge,tru,noise⟩:=o
 simp only [] at hk hs
 have cs:kind=1∨kind=2:=by omega
 rcases cs with rfl | rfl
 ·exact b4n w g user number n role gauge tru noise hs.1
 ·exact b4o w g user number n role gauge tru noise hs.1
theorem okGW {w:WorldT} (g:GoodW w):OkayW w:=⟨okG g.bk,by have:=g.tk.ln; omega,by have:=g.tk.ln; have:=g.lt; omega⟩
abbrev ansZ:AV := .agg [i64 0,i64 0,.nils]
theorem a9c {l:List OrderT} {k:Nat} (hk:k < l.length):l.take (k + 1)=l.take k++[l.getD k ord0]:=by
 rw [List.take_add_one,List.getElem?_eq_getElem hk]
 simp [List.getD,hk]
theorem a4T (o:OrderT):∀ (l:List OrderT) (w:WorldT),runW w (l++[o])=stpW (runW w l) o
 | [],_=>rfl
 | x :: l,w=>a4T o l (stpW w x)
theorem a4U (o:OrderT):∀ (l:List OrderT) (w:WorldT),runA w (l++[o])=runA w l++[stpA (runW w l) o]
 | [],_=>rfl
 | x :: l,w=>congrArg (stpA w x :: ·) (a4U o l (stpW w x))
theorem a3z:∀ (l:List OrderT) (w:WorldT),(runA w l).length=l.length
 | [],_=>rfl
 | x :: l,w=>congrArg (· + 1) (a3z l (stpW w x))
theorem a79:∀ (l:List OrderT) {w:WorldT},GoodW w->GoodW (runW w l)
 | [],_,g=>g
 | x :: l,_,g=>a79 l (b2L g x)
theorem b24 {l:LineT} (h:S5 l=0):GoodW (newT l):=by
 have hb:=(N7 h).1
 have hk:=(N7 h).2.1.2
 refine ⟨h,rfl,rfl,rfl,by show U8 ⟨0,0,false⟩=true; decide,⟨hb,⟨Int.le_refl _,by show (0:Int)<=1099511627776; decide⟩,⟨Int.le_refl _,by show (0:Int)<=1099511627776; decide⟩,by show (0:Nat)<=32; decide,List.Pairwise.nil,fun s hs=>(by cases hs)⟩,?_,fun i hi=>absurd hi (Nat.not_lt_zero i)⟩
 exact ⟨hk,⟨Int.le_refl _,by show (0:Int)<=1099511627776; decide⟩,by show (0:Nat)<=16; decide,by show (0:Nat)<=16; decide,by show ((0:Nat):Int)<=l.keep; omega,fun r hr=>(by cases hr),fun r hr=>(by cases hr),by show o9 []<=1; decide,List.Pairwise.nil,fun s hs=>(by cases hs)⟩
def osE (l:List OrderT):Int:=if l.all ordB=true then 0 else 2
structure OkayO (o:OrderT):Prop where
 t:o.tru.length < 2 ^ 40
 n:o.noise.length < 2 ^ 40
 r:0<=o.role/\o.role<=255
abbrev b5S (e:Int):AV := .tup [noW,.nils,i64 e]
theorem b25 (l:LineT):Sub (a9M l) (wld (newT l)):=by
 refine (H6 (xs:=[i64 l.belt.step,i64 l.belt.slip,i64 l.belt.gate,i64 l.belt.len,i64 l.lag,i64 l.keep,i64 l.p,i64 l.q,i64 l.al.1,i64 l.al.2,i64 l.belt.step,i64 l.belt.slip,i64 l.belt.gate,i64 l.belt.len,i64 0,i64 0,.nils,i64 l.keep,.nils,.nils,i64 0,.nils,i64 0,i64 0,.ff,.nils]) (ys:=eW (newT l)) rfl fun i hi => ?_).1
 match i with
 | 0 | 1 | 2 | 3 | 4 | 5 | 6 | 7 | 8 | 9 | 10 | 11 | 12 | 13 | 14 | 15=>exact .refl _
 | 16=>exact .nils _ _ _
 | 17=>exact .refl _
 | 18=>exact .nils _ _ _
 | 19=>exact .nils _ _ _
 | 20=>exact .refl _
 | 21=>exact .nils _ _ _
 | 22 | 23=>exact .refl _
 | 24=>exact a8O
 | 25=>exact .nils _ _ _
 | (n + 26)=>exact .refl _
theorem b26 (l:LineT) (h:S5 l=0):PC Tryz.prog 16 [lin l] (.tup [wld (newT l),i64 0]):=by
 refine (b31 l h).sub rfl (fun i hi => .refl _) (H6 (xs:=[a9M l,i64 0]) (ys:=[wld (newT l),i64 0]) rfl fun i hi => ?_).2
 match i with
 | 0=>exact b25 l
 | 1=>exact .refl _
 | (n + 2)=>exact .refl _
abbrev dkT (w:WorldT):List AV:=(eW w).set 25 (.own 15)
abbrev thK:Nat:=15 + 65536 * (1 + 43 + 4096 * 25)
theorem b5n (l:LineT) (os:List OrderT) (h:S5 l=0) (hle:os.length<=500) (hk:∀ i,OkayO (os.getD i ord0)) (hv:os.all ordB=true):PC Tryz.prog 40 [lin l,ords os] (.tup [wld (runW (newT l) os),anss (runA (newT l) os),i64 0]):=by
 have c1:=b26 l h
 have g0:=b24 h
 have c3:=b2R (newT l) (okGW g0)
 have vo:∀ k,k < os.length->ordB (os.getD k ord0)=true:=fun k hk=>by
  rw [l0 hk]
  exact List.all_eq_true.1 hv _ (List.getElem_mem hk)
 generalize hw0:newT l=w0 at *
 refine a7 hm Tryz.func40 (by kernel_rfl) ?_
 conv=>whnf
 (repeat' first|(refine ansS (fun hh=>?_) (fun hh=>?_)<;>(try simp only [ansX] at hh)<;>first|(exfalso;first|omega|(simp [*] at hh;done)|(revert hh;decide))|exact absurd (by assumption) hh|conv=>whnf)|((first|refine kR ?_|refine aM ?_|refine aL ?_|refine aN ?_|((try (refine Or.inl ?_;conv=>whnf));(try (refine ⟨false,?_⟩;conv=>whnf));refine ⟨_,by exact c1,?_⟩)|fail);conv=>whnf))
 refine Or.inr ⟨Nat,[29,8],[],[],fun k=>[i64 k,i64 0],fun _=>[],fun _=>[],fun k=>os.length - k,fun k=>k<=os.length,?_⟩
 conv=>whnf
 refine ⟨⟨0,?_⟩,?_⟩
 ·(conv=>whnf)
  exact ⟨⟨Nat.zero_le _,rfl,rfl,rfl⟩,by kernel_rfl,by kernel_rfl⟩
 intro k hkl
 conv=>whnf
 refine ⟨fun q => ?_,fun q => ?_⟩
 ·have q:=of_decide_eq_true q
  have hkk:k < os.length:=by omega
  have c2:=a3U (os.getD k ord0) (hk k).t (hk k).n (hk k).r
  rw [if_pos (vo k hkk)] at c2
  conv=>whnf
  (repeat' first|(refine ansS (fun hh=>?_) (fun hh=>?_)<;>(try simp only [ansX] at hh)<;>first|(exfalso;first|omega|(simp [*] at hh;done)|(revert hh;decide))|exact absurd (by assumption) hh|conv=>whnf)|((first|refine kR ?_|refine aM ?_|refine aL ?_|refine aN ?_|refine aT ?_|((try (refine Or.inl ?_;conv=>whnf));(try (refine ⟨false,?_⟩;conv=>whnf));refine ⟨_,by exact c2,?_⟩)|fail);conv=>whnf))
  refine ⟨k + 1,?_⟩
  conv=>whnf
  refine ⟨⟨⟨?_,?_⟩,?_,rfl,rfl⟩,by kernel_rfl,by kernel_rfl⟩
  ·show os.length - (k + 1) < os.length - k; omega
  ·show k + 1<=os.length; omega
  ·rw [w64 _ (by omega) (by omega)]; rfl
 ·clear q hkl
  conv=>whnf
  (repeat' ((first|refine ansT ?_|refine ansF ?_|refine ansD (by first|(simp [*];done)|omega) ?_ | refine ansN (by first|(simp [*];done)|omega) ?_ | refine ⟨by kernel_rfl,?_⟩ | refine ansB (by decide) (by first | decide | (simp; done) | (simp only [List.length_cons,List.length_nil]; decide)) ?_|fail);conv=>whnf))
  (refine Or.inr ⟨[ ],[ 43,15 ],by kernel_rfl,?_⟩; (conv=>whnf); refine ⟨[ ],_,_,_,_,⟨ c3,rfl,rfl,by kernel_rfl⟩,?_⟩)
  conv=>whnf
  (repeat' ((first|refine ansT ?_|refine ansF ?_|refine ansD (by first|(simp [*];done)|omega) ?_ | refine ansN (by first|(simp [*];done)|omega) ?_ | refine ⟨by kernel_rfl,?_⟩ | refine ansB (by decide) (by first | decide | (simp; done) | (simp only [List.length_cons,List.length_nil]; decide)) ?_|fail);conv=>whnf))
  refine Or.inr ⟨Nat,[46],[43,15],[(thK,⟨ThingT,76,7,b8,x9⟩),(12,⟨AnsT,66,3,ans0,eAns⟩)],fun k=>[i64 k],fun k=>[.cells 154 (dkT (runW w0 (os.take k))),.vec 76 7 b8 x9 (runW w0 (os.take k)).things],fun k=>[.none,.vec 66 3 ans0 eAns (runA w0 (os.take k))],fun k=>os.length - k,fun k=>k<=os.length,?_⟩
  conv=>whnf
  refine ⟨⟨0,?_⟩,?_⟩
  ·(conv=>whnf)
   exact ⟨⟨Nat.zero_le _,rfl,rfl,rfl⟩,by kernel_rfl,by kernel_rfl⟩
  intro k hkl
  conv=>whnf
  refine ⟨fun q => ?_,fun q => ?_⟩
  ·have q:=of_decide_eq_true q
   have hkk:k < os.length:=by omega
   have gk:=a79 (os.take k) g0
   have sw:=a4T (os.getD k ord0) (os.take k) w0
   have sa:=a4U (os.getD k ord0) (os.take k) w0
   rw [<- a9c hkk] at sw sa
   have la:=a3z (os.take k) w0
   rw [List.length_take] at la
   generalize runW w0 (os.take k)=u at gk sw sa
   generalize runA w0 (os.take k)=A at sa la
   by_cases hs:a3y u (os.getD k ord0)=true
   ·have c4:=b22 u gk (os.getD k ord0) (vo k hkk) (hk k).t (hk k).n hs
    conv=>whnf
    (repeat' first|(refine ansS (fun hh=>?_) (fun hh=>?_)<;>(try simp only [ansX] at hh)<;>first|(exfalso;first|omega|(simp [*] at hh;done)|(revert hh;decide))|exact absurd (by assumption) hh|conv=>whnf)|((first|refine kR ?_|refine aM ?_|refine aL ?_|refine aN ?_|refine aT ?_|fail);conv=>whnf))
    (refine Or.inr ⟨[ ],[ ],by kernel_rfl,?_⟩; (conv=>whnf); refine ⟨[ 43,15 ],_,_,_,_,⟨ c4,rfl,rfl,by kernel_rfl⟩,?_⟩)
    conv=>whnf
    refine ⟨⟨AnsT,3,ans0,eAns,A⟩,[stpA u (os.getD k ord0)],rfl,rfl,⟨rfl,rfl⟩,?_,?_,fun y _=>⟨rfl,rfl,rfl⟩,?_⟩
    ·show (A.length + 1) * 40<=_; omega
    ·show A.length + 1<=_; omega
    conv=>whnf
    refine ⟨k + 1,?_⟩
    conv=>whnf
    refine ⟨⟨⟨?_,?_⟩,?_,?_,?_⟩,by kernel_rfl,by kernel_rfl⟩
    ·show os.length - (k + 1) < os.length - k; omega
    ·show k + 1<=os.length; omega
    ·rw [w64 _ (by omega) (by omega)]; rfl
    ·show _=[Row.cells 154 (dkT (runW w0 (os.take (k + 1)))),Row.vec 76 7 b8 x9 (runW w0 (os.take (k + 1))).things]
     rw [sw]<;>rfl
    ·show _=[Row.none,Row.vec 66 3 ans0 eAns (runA w0 (os.take (k + 1)))]
     rw [sa]<;>rfl
   ·have c4:=b23 u gk (os.getD k ord0) (vo k hkk) (by simpa using hs)
    conv=>whnf
    (repeat' first|(refine ansS (fun hh=>?_) (fun hh=>?_)<;>(try simp only [ansX] at hh)<;>first|(exfalso;first|omega|(simp [*] at hh;done)|(revert hh;decide))|exact absurd (by assumption) hh|conv=>whnf)|((first|refine kR ?_|refine aM ?_|refine aL ?_|refine aN ?_|refine aT ?_|fail);conv=>whnf))
    (refine Or.inr ⟨[ ],[ 53 ],by kernel_rfl,?_⟩; (conv=>whnf); refine ⟨[ 43,15 ],_,_,_,_,⟨ c4,rfl,rfl,by kernel_rfl⟩,?_⟩)
    conv=>whnf
    refine ⟨⟨AnsT,3,ans0,eAns,A⟩,[stpA u (os.getD k ord0)],rfl,rfl,⟨rfl,rfl⟩,?_,?_,fun y _=>⟨rfl,rfl,rfl⟩,?_⟩
    ·show (A.length + 1) * 40<=_; omega
    ·show A.length + 1<=_; omega
    conv=>whnf
    refine ⟨k + 1,?_⟩
    conv=>whnf
    refine ⟨⟨⟨?_,?_⟩,?_,?_,?_⟩,by kernel_rfl,by kernel_rfl⟩
    ·show os.length - (k + 1) < os.length - k; omega
    ·show k + 1<=os.length; omega
    ·rw [w64 _ (by omega) (by omega)]; rfl
    ·show _=[Row.cells 154 (dkT (runW w0 (os.take (k + 1)))),Row.vec 76 7 b8 x9 (runW w0 (os.take (k + 1))).things]
     rw [sw]<;>rfl
    ·show _=[Row.none,Row.vec 66 3 ans0 eAns (runA w0 (os.take (k + 1)))]
     rw [sa]<;>rfl
  ·have q:=of_decide_eq_false q
   have ek:os.take k=os:=List.take_of_length_le (by omega)
   rw [ek]
   conv=>whnf
   (repeat' ((first|refine ansT ?_|refine ansF ?_|refine ansD (by first|(simp [*];done)|omega) ?_ | refine ansN (by first|(simp [*];done)|omega) ?_ | refine ⟨by kernel_rfl,?_⟩ | refine ansB (by decide) (by first | decide | (simp; done) | (simp only [List.length_cons,List.length_nil]; decide)) ?_|fail);conv=>whnf))
   all_goals rfl

end Go.Proofs.Tryz.My
