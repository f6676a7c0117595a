/- A helper text: contracts of functions of the program, and plain lemmas. -/
import Derived.Test.YtdpnpdjnaimgaaaGreatEvSix
import Derived.Test.YtdpnpdjnaimgaaaGreatMzWbX
import Derived.Test.YtdpnpdjnaimgaaaGreatMzWaA
import Derived.Test.YtdpnpdjnaimgaaaGreatMzBpD
set_option maxRecDepth 100000
set_option maxHeartbeats 0
set_option linter.unusedVariables false
set_option linter.unusedSimpArgs false
namespace Go.Proofs.Tryz.My
open Go Go.Ev
theorem a3v (l:List ThingT) (hl:l.length < 2 ^ 20):PW Tryz.prog 125 [thgs l] [] (.own 0) [.vec 76 7 b8 x9 l]:=by
 refine j9 hm Tryz.func125 (by kernel_rfl) ⟨by kernel_rfl,?_⟩
 conv=>whnf
 refine Or.inl ?_
 conv=>whnf
 intro b hb
 conv=>whnf
 refine ⟨fun h => ?_,fun h => ?_⟩
 ·(conv=>whnf)
  refine Or.inr ⟨by kernel_rfl,.vec 76 7 b8 x9 [],rfl,?_⟩
  conv=>whnf
  refine ⟨[2],by kernel_rfl,?_⟩
  conv=>whnf
  rw [hb h]
  exact ⟨rfl,rfl⟩
 conv=>whnf
 refine ⟨⟨ThingT,7,b8,x9,[]⟩,l,rfl,⟨rfl,rfl⟩,rfl,?_,?_,fun y _=>⟨rfl,rfl,rfl⟩,?_⟩
 ·show (0 + l.length) * 56<=_; omega
 ·show 0 + l.length<=_; omega
 conv=>whnf
 refine ⟨[7],by kernel_rfl,?_⟩
 conv=>whnf
 exact ⟨rfl,rfl⟩
theorem a80 (l:List SeenT) (hl:l.length < 2 ^ 20):PW Tryz.prog 124 [I0 l] [] (.own 0) [.vec 78 4 a8 u9 l]:=by
 refine j9 hm Tryz.func124 (by kernel_rfl) ⟨by kernel_rfl,?_⟩
 conv=>whnf
 refine Or.inl ?_
 conv=>whnf
 intro b hb
 conv=>whnf
 refine ⟨fun h => ?_,fun h => ?_⟩
 ·(conv=>whnf)
  refine Or.inr ⟨by kernel_rfl,.vec 78 4 a8 u9 [],rfl,?_⟩
  conv=>whnf
  refine ⟨[2],by kernel_rfl,?_⟩
  conv=>whnf
  rw [hb h]
  exact ⟨rfl,rfl⟩
 conv=>whnf
 refine ⟨⟨SeenT,4,a8,u9,[]⟩,l,rfl,⟨rfl,rfl⟩,rfl,?_,?_,fun y _=>⟨rfl,rfl,rfl⟩,?_⟩
 ·show (0 + l.length) * 24<=_; omega
 ·show 0 + l.length<=_; omega
 conv=>whnf
 refine ⟨[7],by kernel_rfl,?_⟩
 conv=>whnf
 exact ⟨rfl,rfl⟩
theorem a81 (l:List RecT) (hl:l.length < 2 ^ 20):PW Tryz.prog 167 [recs l] [] (.own 0) [.vec 122 13 rec0 eRec l]:=by
 refine j9 hm Tryz.func167 (by kernel_rfl) ⟨by kernel_rfl,?_⟩
 conv=>whnf
 refine Or.inl ?_
 conv=>whnf
 intro b hb
 conv=>whnf
 refine ⟨fun h => ?_,fun h => ?_⟩
 ·(conv=>whnf)
  refine Or.inr ⟨by kernel_rfl,.vec 122 13 rec0 eRec [],rfl,?_⟩
  conv=>whnf
  refine ⟨[2],by kernel_rfl,?_⟩
  conv=>whnf
  rw [hb h]
  exact ⟨rfl,rfl⟩
 conv=>whnf
 refine ⟨⟨RecT,13,rec0,eRec,[]⟩,l,rfl,⟨rfl,rfl⟩,rfl,?_,?_,fun y _=>⟨rfl,rfl,rfl⟩,?_⟩
 ·show (0 + l.length) * 120<=_; omega
 ·show 0 + l.length<=_; omega
 conv=>whnf
 refine ⟨[7],by kernel_rfl,?_⟩
 conv=>whnf
 exact ⟨rfl,rfl⟩
theorem a82 (l:List EntT) (hl:l.length < 2 ^ 20):PW Tryz.prog 168 [ents l] [] (.own 0) [.vec 80 6 ent0 eEnt l]:=by
 refine j9 hm Tryz.func168 (by kernel_rfl) ⟨by kernel_rfl,?_⟩
 conv=>whnf
 refine Or.inl ?_
 conv=>whnf
 intro b hb
 conv=>whnf
 refine ⟨fun h => ?_,fun h => ?_⟩
 ·(conv=>whnf)
  refine Or.inr ⟨by kernel_rfl,.vec 80 6 ent0 eEnt [],rfl,?_⟩
  conv=>whnf
  refine ⟨[2],by kernel_rfl,?_⟩
  conv=>whnf
  rw [hb h]
  exact ⟨rfl,rfl⟩
 conv=>whnf
 refine ⟨⟨EntT,6,ent0,eEnt,[]⟩,l,rfl,⟨rfl,rfl⟩,rfl,?_,?_,fun y _=>⟨rfl,rfl,rfl⟩,?_⟩
 ·show (0 + l.length) * 56<=_; omega
 ·show 0 + l.length<=_; omega
 conv=>whnf
 refine ⟨[7],by kernel_rfl,?_⟩
 conv=>whnf
 exact ⟨rfl,rfl⟩
theorem b03 (l:List RecT) (k:Nat) (hk:k < l.length) (ha:(l.getD k rec0).appr.length < 2 ^ 20):PW Tryz.prog 128 [.ptr 0 13 k 0] [.vec 122 13 rec0 eRec l] (.tup []) [.vec 122 13 rec0 eRec l]:=by
 have c:PC Tryz.prog 129 [ints (l.getD k rec0).appr] (ints (l.getD k rec0).appr):=(R9 (l.getD k rec0).appr ha).toPC 6 (by kernel_rfl)
 refine a9 hm Tryz.func128 (by kernel_rfl) ⟨by kernel_rfl,?_⟩
 conv=>whnf
 (repeat' first|(refine ansS (fun hh=>?_) (fun hh=>?_)<;>(try simp only [ansX] at hh)<;>first|(exfalso;first|omega|(simp [*] at hh;done)|(revert hh;decide))|exact absurd (by assumption) hh|conv=>whnf)|((first|refine kR ?_|refine aB ?_|refine aL ?_|refine aN ?_|refine aT ?_|((try (refine Or.inl ?_;conv=>whnf));(try (refine ⟨false,?_⟩;conv=>whnf));refine ⟨_,by exact c,?_⟩)|fail);conv=>whnf))
 refine ⟨l.getD k rec0,rfl,hk,?_⟩
 conv=>whnf
 refine ⟨[],by kernel_rfl,?_⟩
 conv=>whnf
 refine ⟨rfl,?_⟩
 rw [Q4]
 rfl
theorem b2P (l:List RecT) (hl:l.length < 2 ^ 20) (ha:∀ i,(l.getD i rec0).appr.length < 2 ^ 20):PC Tryz.prog 127 [recs l,.fn (.func 128) [] []] (recs l):=by
 refine a7 hm Tryz.func127 (by kernel_rfl) ?_
 conv=>whnf
 (refine Or.inr ⟨[ ],[ 8 ],by kernel_rfl,?_⟩; (conv=>whnf); refine ⟨[ ],_,_,_,_,⟨ a81 l hl,rfl,rfl,by kernel_rfl⟩,?_⟩)
 conv=>whnf
 refine Or.inr ⟨Nat,[11],[8],[],fun k=>[i64 k],fun _=>[.vec 122 13 rec0 eRec l],fun _=>[],fun k=>l.length - k,fun k=>k<=l.length,?_⟩
 conv=>whnf
 refine ⟨⟨0,?_⟩,?_⟩
 ·(conv=>whnf)
  exact ⟨⟨Nat.zero_le _,rfl,rfl,rfl⟩,by kernel_rfl,by kernel_rfl⟩
 intro k hk
 conv=>whnf
 refine ⟨fun h => ?_,fun h => ?_⟩
 ·have h:=of_decide_eq_true h
  have hkk:k < l.length:=by omega
  conv=>whnf
  (repeat' first|(refine ansS (fun hh=>?_) (fun hh=>?_)<;>(try simp only [ansX] at hh)<;>first|(exfalso;first|omega|(simp [*] at hh;done)|(revert hh;decide))|exact absurd (by assumption) hh|conv=>whnf)|((first|refine kR ?_|refine aB ?_|refine aL ?_|refine aN ?_|refine aT ?_|fail);conv=>whnf))
  (refine Or.inr ⟨[ ],[ ],by kernel_rfl,?_⟩; (conv=>whnf); refine ⟨[ 8 ],_,_,_,_,⟨ b03 l k hkk (ha k),rfl,rfl,by kernel_rfl⟩,?_⟩)
  conv=>whnf
  refine ⟨k + 1,?_⟩
  conv=>whnf
  refine ⟨⟨⟨?_,?_⟩,?_,rfl,rfl⟩,by kernel_rfl,by kernel_rfl⟩
  ·show l.length - (k + 1) < l.length - k; omega
  ·show k + 1<=l.length; omega
  ·rw [w64 _ (by omega) (by omega)]; rfl
 ·(conv=>whnf)
  try rfl
theorem b04 (l:List EntT) (k:Nat) (hk:k < l.length) (ha:(l.getD k ent0).profile.length < 2 ^ 20):PW Tryz.prog 131 [.ptr 0 6 k 0] [.vec 80 6 ent0 eEnt l] (.tup []) [.vec 80 6 ent0 eEnt l]:=by
 have c:PC Tryz.prog 129 [ints (l.getD k ent0).profile] (ints (l.getD k ent0).profile):=(R9 (l.getD k ent0).profile ha).toPC 6 (by kernel_rfl)
 refine a9 hm Tryz.func131 (by kernel_rfl) ⟨by kernel_rfl,?_⟩
 conv=>whnf
 (repeat' first|(refine ansS (fun hh=>?_) (fun hh=>?_)<;>(try simp only [ansX] at hh)<;>first|(exfalso;first|omega|(simp [*] at hh;done)|(revert hh;decide))|exact absurd (by assumption) hh|conv=>whnf)|((first|refine kR ?_|refine aB ?_|refine aL ?_|refine aN ?_|refine aT ?_|((try (refine Or.inl ?_;conv=>whnf));(try (refine ⟨false,?_⟩;conv=>whnf));refine ⟨_,by exact c,?_⟩)|fail);conv=>whnf))
 refine ⟨l.getD k ent0,rfl,hk,?_⟩
 conv=>whnf
 refine ⟨[],by kernel_rfl,?_⟩
 conv=>whnf
 refine ⟨rfl,?_⟩
 rw [Q4]
 rfl
theorem b2Q (l:List EntT) (hl:l.length < 2 ^ 20) (ha:∀ i,(l.getD i ent0).profile.length < 2 ^ 20):PC Tryz.prog 130 [ents l,.fn (.func 131) [] []] (ents l):=by
 refine a7 hm Tryz.func130 (by kernel_rfl) ?_
 conv=>whnf
 (refine Or.inr ⟨[ ],[ 8 ],by kernel_rfl,?_⟩; (conv=>whnf); refine ⟨[ ],_,_,_,_,⟨ a82 l hl,rfl,rfl,by kernel_rfl⟩,?_⟩)
 conv=>whnf
 refine Or.inr ⟨Nat,[11],[8],[],fun k=>[i64 k],fun _=>[.vec 80 6 ent0 eEnt l],fun _=>[],fun k=>l.length - k,fun k=>k<=l.length,?_⟩
 conv=>whnf
 refine ⟨⟨0,?_⟩,?_⟩
 ·(conv=>whnf)
  exact ⟨⟨Nat.zero_le _,rfl,rfl,rfl⟩,by kernel_rfl,by kernel_rfl⟩
 intro k hk
 conv=>whnf
 refine ⟨fun h => ?_,fun h => ?_⟩
 ·have h:=of_decide_eq_true h
  have hkk:k < l.length:=by omega
  conv=>whnf
  (repeat' first|(refine ansS (fun hh=>?_) (fun hh=>?_)<;>(try simp only [ansX] at hh)<;>first|(exfalso;first|omega|(simp [*] at hh;done)|(revert hh;decide))|exact absurd (by assumption) hh|conv=>whnf)|((first|refine kR ?_|refine aB ?_|refine aL ?_|refine aN ?_|refine aT ?_|fail);conv=>whnf))
  (refine Or.inr ⟨[ ],[ ],by kernel_rfl,?_⟩; (conv=>whnf); refine ⟨[ 8 ],_,_,_,_,⟨ b04 l k hkk (ha k),rfl,rfl,by kernel_rfl⟩,?_⟩)
  conv=>whnf
  refine ⟨k + 1,?_⟩
  conv=>whnf
  refine ⟨⟨⟨?_,?_⟩,?_,rfl,rfl⟩,by kernel_rfl,by kernel_rfl⟩
  ·show l.length - (k + 1) < l.length - k; omega
  ·show k + 1<=l.length; omega
  ·rw [w64 _ (by omega) (by omega)]; rfl
 ·(conv=>whnf)
  try rfl
abbrev ordX (kind user number n role:Int) (gauge:GauT) (tru noise:List Int):AV := .agg [u8 kind,i64 user,i64 number,i64 n,u8 role,i64 (gThr gauge),i64 (gNoi gauge),i64 (gSc gauge).1.1,i64 (gSc gauge).1.2,i64 (gSc gauge).2.1,i64 (gSc gauge).2.2,i64 gauge.1.2.1,i64 gauge.1.2.2,i64 gauge.2.1,i64 gauge.2.2,ints tru,ints noise]
abbrev ordL (kind user number n role:Int) (gauge:GauT) (tru noise:List Int):List AV:=[u8 kind,i64 user,i64 number,i64 n,u8 role,i64 (gThr gauge),i64 (gNoi gauge),i64 (gSc gauge).1.1,i64 (gSc gauge).1.2,i64 (gSc gauge).2.1,i64 (gSc gauge).2.2,i64 gauge.1.2.1,i64 gauge.1.2.2,i64 gauge.2.1,i64 gauge.2.2,ints tru,ints noise]
abbrev dkC (w:WorldT):List AV:=(eW w).set 25 (.own 1)
def plR (w:WorldT):List Row:=[.cells 154 (dkC w),.vec 76 7 b8 x9 w.things]
theorem b2R (w:WorldT) (o:OkayW w):PW Tryz.prog 78 [wld w] [] (.ptr 0 0 0 0) (plR w):=by
 have c1:PC Tryz.prog 124 [I0 w.track.parts] (I0 w.track.parts):=(a80 w.track.parts o.t).toPC 6 (by kernel_rfl)
 have c3:PC Tryz.prog 126 [u8l w.books.users] (u8l w.books.users):=(a1B w.books.users o.b.u).toPC 6 (by kernel_rfl)
 have c4:=b2P w.books.recipes o.b.r o.b.a
 have c5:=b2Q w.books.log o.b.l o.b.p
 have o2:=o.h
 refine a9 hm Tryz.func78 (by kernel_rfl) ⟨by kernel_rfl,?_⟩
 conv=>whnf
 (repeat' ((first | refine ansT ?_ | refine ansF ?_|((try (refine Or.inl ?_;conv=>whnf));(try (refine ⟨false,?_⟩;conv=>whnf));refine ⟨_,by exact c1,?_⟩) | refine ansD (by first|(simp [*];done)|omega) ?_ | refine ansN (by first|(simp [*];done)|omega) ?_ | refine ⟨by kernel_rfl,?_⟩ | refine ansB (by decide) (by first | decide | (simp; done) | (simp only [List.length_cons,List.length_nil]; decide)) ?_|fail);conv=>whnf))
 (refine Or.inr ⟨[ ],[ 11 ],by kernel_rfl,?_⟩; (conv=>whnf); refine ⟨[ ],_,_,_,_,⟨ a3v w.things o2,rfl,rfl,by kernel_rfl⟩,?_⟩)
 conv=>whnf
 (repeat' ((first | refine ansT ?_ | refine ansF ?_|((try (refine Or.inl ?_;conv=>whnf));(try (refine ⟨false,?_⟩;conv=>whnf));refine ⟨_,by first | exact c3 | exact c4 | exact c5,?_⟩) | refine ansD (by first|(simp [*];done)|omega) ?_ | refine ansN (by first|(simp [*];done)|omega) ?_ | refine ⟨by kernel_rfl,?_⟩ | refine ansB (by decide) (by first | decide | (simp; done) | (simp only [List.length_cons,List.length_nil]; decide)) ?_|fail);conv=>whnf))
 refine ⟨[33,11],by kernel_rfl,?_⟩
 conv=>whnf
 exact ⟨rfl,rfl⟩
theorem V0 (w:WorldT) (b:BooksT) (n:Int):PW Tryz.prog 227 [.ptr 0 0 0 0,i64 n,bks b,i64 0] (plR w) (.tup [i64 n,.nils,i64 0]) (plR (bokW w b)):=by
 refine a9 hm Tryz.func227 (by kernel_rfl) ⟨by kernel_rfl,?_⟩
 conv=>whnf
 (repeat' ((first|refine ansT ?_|refine ansF ?_|refine ansD (by first|(simp [*];done)|omega) ?_ | refine ansN (by first|(simp [*];done)|omega) ?_ | refine ⟨by kernel_rfl,?_⟩ | refine ansB (by decide) (by first | decide | (simp; done) | (simp only [List.length_cons,List.length_nil]; decide)) ?_|fail);conv=>whnf))
 refine ⟨[],by kernel_rfl,?_⟩
 conv=>whnf
 exact ⟨rfl,rfl⟩
theorem V1 (w:WorldT) (n e:Int) (h:¬e=0):PW Tryz.prog 227 [.ptr 0 0 0 0,i64 n,newB 0,i64 e] (plR w) (.tup [i64 0,.nils,i64 e]) (plR w):=by
 refine a9 hm Tryz.func227 (by kernel_rfl) ⟨by kernel_rfl,?_⟩
 conv=>whnf
 (repeat' first|(refine ansS (fun hh=>?_) (fun hh=>?_)<;>(try simp only [ansX] at hh)<;>first|(exfalso;first|omega|(simp [*] at hh;done)|(revert hh;decide))|exact absurd (by assumption) hh|conv=>whnf)|((first|refine kR ?_|refine aB ?_|refine aL ?_|refine aN ?_|fail);conv=>whnf))
 refine ⟨[],by kernel_rfl,?_⟩
 conv=>whnf
 exact ⟨rfl,rfl⟩
theorem a7I (w:WorldT) (o:Okay w.books) (kind user number n role:Int) (gauge:GauT) (tru noise:List Int) (h:addE w.books role=0):PW Tryz.prog 171 [.ptr 0 0 0 0,ordX kind user number n role gauge tru noise] (plR w) (.tup [i64 (w.books.users.length:Nat),.nils,i64 0]) (plR (bokW w (addU w.books role))):=by
 have c:=a5W w.books o role h
 refine a9 hm Tryz.func171 (by kernel_rfl) ⟨by kernel_rfl,?_⟩
 conv=>whnf
 (repeat' first|(refine ansS (fun hh=>?_) (fun hh=>?_)<;>(try simp only [ansX] at hh)<;>first|(exfalso;first|omega|(simp [*] at hh;done)|(revert hh;decide))|exact absurd (by assumption) hh|conv=>whnf)|((first|refine kR ?_|refine aB ?_|refine aL ?_|refine aN ?_|((try (refine Or.inl ?_;conv=>whnf));(try (refine ⟨false,?_⟩;conv=>whnf));refine ⟨_,by exact c,?_⟩)|fail);conv=>whnf))
 (refine Or.inr ⟨[ ],[ ],by kernel_rfl,?_⟩; (conv=>whnf); refine ⟨[ 30,31 ],_,_,_,_,⟨ V0 w _ _,rfl,rfl,by kernel_rfl⟩,?_⟩)
 conv=>whnf
 refine ⟨[],by kernel_rfl,?_⟩
 conv=>whnf
 exact ⟨rfl,rfl⟩
theorem a59 (w:WorldT) (o:Okay w.books) (kind user number n role:Int) (gauge:GauT) (tru noise:List Int) (h:¬addE w.books role=0):PW Tryz.prog 171 [.ptr 0 0 0 0,ordX kind user number n role gauge tru noise] (plR w) (.tup [i64 0,.nils,i64 (addE w.books role)]) (plR w):=by
 have c:=a3N w.books o role h
 generalize addE w.books role=e at *
 refine a9 hm Tryz.func171 (by kernel_rfl) ⟨by kernel_rfl,?_⟩
 conv=>whnf
 (repeat' first|(refine ansS (fun hh=>?_) (fun hh=>?_)<;>(try simp only [ansX] at hh)<;>first|(exfalso;first|omega|(simp [*] at hh;done)|(revert hh;decide))|exact absurd (by assumption) hh|conv=>whnf)|((first|refine kR ?_|refine aB ?_|refine aL ?_|refine aN ?_|((try (refine Or.inl ?_;conv=>whnf));(try (refine ⟨false,?_⟩;conv=>whnf));refine ⟨_,by exact c,?_⟩)|fail);conv=>whnf))
 (refine Or.inr ⟨[ ],[ ],by kernel_rfl,?_⟩; (conv=>whnf); refine ⟨[ 30,31 ],_,_,_,_,⟨ V1 w _ _ h,rfl,rfl,by kernel_rfl⟩,?_⟩)
 conv=>whnf
 refine ⟨[],by kernel_rfl,?_⟩
 conv=>whnf
 exact ⟨rfl,rfl⟩
theorem b05 (w:WorldT) (o:Okay w.books) (kind user number n role:Int) (gauge:GauT) (tru noise:List Int) (h:drfE w.books user gauge=0):PW Tryz.prog 172 [.ptr 0 0 0 0,ordX kind user number n role gauge tru noise] (plR w) (.tup [i64 (w.books.recipes.length:Nat),.nils,i64 0]) (plR (bokW w (drfB w.books user gauge))):=by
 have c:=a8N w.books o user gauge h
 refine a9 hm Tryz.func172 (by kernel_rfl) ⟨by kernel_rfl,?_⟩
 conv=>whnf
 (repeat' first|(refine ansS (fun hh=>?_) (fun hh=>?_)<;>(try simp only [ansX] at hh)<;>first|(exfalso;first|omega|(simp [*] at hh;done)|(revert hh;decide))|exact absurd (by assumption) hh|conv=>whnf)|((first|refine kR ?_|refine aB ?_|refine aL ?_|refine aN ?_|((try (refine Or.inl ?_;conv=>whnf));(try (refine ⟨false,?_⟩;conv=>whnf));refine ⟨_,by exact c,?_⟩)|fail);conv=>whnf))
 (refine Or.inr ⟨[ ],[ ],by kernel_rfl,?_⟩; (conv=>whnf); refine ⟨[ 32,33 ],_,_,_,_,⟨ V0 w _ _,rfl,rfl,by kernel_rfl⟩,?_⟩)
 conv=>whnf
 refine ⟨[],by kernel_rfl,?_⟩
 conv=>whnf
 exact ⟨rfl,rfl⟩
theorem a83 (w:WorldT) (o:Okay w.books) (kind user number n role:Int) (gauge:GauT) (tru noise:List Int) (h:¬drfE w.books user gauge=0):PW Tryz.prog 172 [.ptr 0 0 0 0,ordX kind user number n role gauge tru noise] (plR w) (.tup [i64 0,.nils,i64 (drfE w.books user gauge)]) (plR w):=by
 have c:=a7e w.books o user gauge h
 generalize drfE w.books user gauge=e at *
 refine a9 hm Tryz.func172 (by kernel_rfl) ⟨by kernel_rfl,?_⟩
 conv=>whnf
 (repeat' first|(refine ansS (fun hh=>?_) (fun hh=>?_)<;>(try simp only [ansX] at hh)<;>first|(exfalso;first|omega|(simp [*] at hh;done)|(revert hh;decide))|exact absurd (by assumption) hh|conv=>whnf)|((first|refine kR ?_|refine aB ?_|refine aL ?_|refine aN ?_|((try (refine Or.inl ?_;conv=>whnf));(try (refine ⟨false,?_⟩;conv=>whnf));refine ⟨_,by exact c,?_⟩)|fail);conv=>whnf))
 (refine Or.inr ⟨[ ],[ ],by kernel_rfl,?_⟩; (conv=>whnf); refine ⟨[ 32,33 ],_,_,_,_,⟨ V1 w _ _ h,rfl,rfl,by kernel_rfl⟩,?_⟩)
 conv=>whnf
 refine ⟨[],by kernel_rfl,?_⟩
 conv=>whnf
 exact ⟨rfl,rfl⟩
theorem a7J (w:WorldT) (o:Okay w.books) (kind user number n role:Int) (gauge:GauT) (tru noise:List Int) (h:apvE w.books user number=0):PW Tryz.prog 173 [.ptr 0 0 0 0,ordX kind user number n role gauge tru noise] (plR w) (.tup [i64 0,.nils,i64 0]) (plR (bokW w (apvB w.books user number))):=by
 have c:=a5X w.books o user number h
 refine a9 hm Tryz.func173 (by kernel_rfl) ⟨by kernel_rfl,?_⟩
 conv=>whnf
 (repeat' first|(refine ansS (fun hh=>?_) (fun hh=>?_)<;>(try simp only [ansX] at hh)<;>first|(exfalso;first|omega|(simp [*] at hh;done)|(revert hh;decide))|exact absurd (by assumption) hh|conv=>whnf)|((first|refine kR ?_|refine aB ?_|refine aL ?_|refine aN ?_|((try (refine Or.inl ?_;conv=>whnf));(try (refine ⟨false,?_⟩;conv=>whnf));refine ⟨_,by exact c,?_⟩)|fail);conv=>whnf))
 (refine Or.inr ⟨[ ],[ ],by kernel_rfl,?_⟩; (conv=>whnf); refine ⟨[ 29,30 ],_,_,_,_,⟨ V0 w _ _,rfl,rfl,by kernel_rfl⟩,?_⟩)
 conv=>whnf
 refine ⟨[],by kernel_rfl,?_⟩
 conv=>whnf
 exact ⟨rfl,rfl⟩
theorem a6a (w:WorldT) (o:Okay w.books) (kind user number n role:Int) (gauge:GauT) (tru noise:List Int) (h:¬apvE w.books user number=0):PW Tryz.prog 173 [.ptr 0 0 0 0,ordX kind user number n role gauge tru noise] (plR w) (.tup [i64 0,.nils,i64 (apvE w.books user number)]) (plR w):=by
 have c:=a3S w.books o user number h
 generalize apvE w.books user number=e at *
 refine a9 hm Tryz.func173 (by kernel_rfl) ⟨by kernel_rfl,?_⟩
 conv=>whnf
 (repeat' first|(refine ansS (fun hh=>?_) (fun hh=>?_)<;>(try simp only [ansX] at hh)<;>first|(exfalso;first|omega|(simp [*] at hh;done)|(revert hh;decide))|exact absurd (by assumption) hh|conv=>whnf)|((first|refine kR ?_|refine aB ?_|refine aL ?_|refine aN ?_|((try (refine Or.inl ?_;conv=>whnf));(try (refine ⟨false,?_⟩;conv=>whnf));refine ⟨_,by exact c,?_⟩)|fail);conv=>whnf))
 (refine Or.inr ⟨[ ],[ ],by kernel_rfl,?_⟩; (conv=>whnf); refine ⟨[ 29,30 ],_,_,_,_,⟨ V1 w _ _ h,rfl,rfl,by kernel_rfl⟩,?_⟩)
 conv=>whnf
 refine ⟨[],by kernel_rfl,?_⟩
 conv=>whnf
 exact ⟨rfl,rfl⟩
theorem a6b (w:WorldT) (o:Okay w.books) (kind user number n role:Int) (gauge:GauT) (tru noise:List Int) (h:N6 w.books user number=0):PW Tryz.prog 174 [.ptr 0 0 0 0,ordX kind user number n role gauge tru noise] (plR w) (.tup [i64 0,.nils,i64 0]) (plR (bokW w (Y0 w.books number))):=by
 have c:=a3T w.books o user number h
 refine a9 hm Tryz.func174 (by kernel_rfl) ⟨by kernel_rfl,?_⟩
 conv=>whnf
 (repeat' first|(refine ansS (fun hh=>?_) (fun hh=>?_)<;>(try simp only [ansX] at hh)<;>first|(exfalso;first|omega|(simp [*] at hh;done)|(revert hh;decide))|exact absurd (by assumption) hh|conv=>whnf)|((first|refine kR ?_|refine aB ?_|refine aL ?_|refine aN ?_|((try (refine Or.inl ?_;conv=>whnf));(try (refine ⟨false,?_⟩;conv=>whnf));refine ⟨_,by exact c,?_⟩)|fail);conv=>whnf))
 (refine Or.inr ⟨[ ],[ ],by kernel_rfl,?_⟩; (conv=>whnf); refine ⟨[ 29,30 ],_,_,_,_,⟨ V0 w _ _,rfl,rfl,by kernel_rfl⟩,?_⟩)
 conv=>whnf
 refine ⟨[],by kernel_rfl,?_⟩
 conv=>whnf
 exact ⟨rfl,rfl⟩
theorem a3V (w:WorldT) (o:Okay w.books) (kind user number n role:Int) (gauge:GauT) (tru noise:List Int) (h:¬N6 w.books user number=0):PW Tryz.prog 174 [.ptr 0 0 0 0,ordX kind user number n role gauge tru noise] (plR w) (.tup [i64 0,.nils,i64 (N6 w.books user number)]) (plR w):=by
 have c:=a3f w.books o user number h
 generalize N6 w.books user number=e at *
 refine a9 hm Tryz.func174 (by kernel_rfl) ⟨by kernel_rfl,?_⟩
 conv=>whnf
 (repeat' first|(refine ansS (fun hh=>?_) (fun hh=>?_)<;>(try simp only [ansX] at hh)<;>first|(exfalso;first|omega|(simp [*] at hh;done)|(revert hh;decide))|exact absurd (by assumption) hh|conv=>whnf)|((first|refine kR ?_|refine aB ?_|refine aL ?_|refine aN ?_|((try (refine Or.inl ?_;conv=>whnf));(try (refine ⟨false,?_⟩;conv=>whnf));refine ⟨_,by exact c,?_⟩)|fail);conv=>whnf))
 (refine Or.inr ⟨[ ],[ ],by kernel_rfl,?_⟩; (conv=>whnf); refine ⟨[ 29,30 ],_,_,_,_,⟨ V1 w _ _ h,rfl,rfl,by kernel_rfl⟩,?_⟩)
 conv=>whnf
 refine ⟨[],by kernel_rfl,?_⟩
 conv=>whnf
 exact ⟨rfl,rfl⟩
theorem a84 (w:WorldT) (o:Okay w.books) (kind user number n role:Int) (gauge:GauT) (tru noise:List Int) (h:retE w.books user=0):PW Tryz.prog 175 [.ptr 0 0 0 0,ordX kind user number n role gauge tru noise] (plR w) (.tup [i64 0,.nils,i64 0]) (plR (bokW w (retB w.books (p9 w.books.recipes)))):=by
 have c:=a7k w.books o user h
 refine a9 hm Tryz.func175 (by kernel_rfl) ⟨by kernel_rfl,?_⟩
 conv=>whnf
 (repeat' first|(refine ansS (fun hh=>?_) (fun hh=>?_)<;>(try simp only [ansX] at hh)<;>first|(exfalso;first|omega|(simp [*] at hh;done)|(revert hh;decide))|exact absurd (by assumption) hh|conv=>whnf)|((first|refine kR ?_|refine aB ?_|refine aL ?_|refine aN ?_|((try (refine Or.inl ?_;conv=>whnf));(try (refine ⟨false,?_⟩;conv=>whnf));refine ⟨_,by exact c,?_⟩)|fail);conv=>whnf))
 (refine Or.inr ⟨[ ],[ ],by kernel_rfl,?_⟩; (conv=>whnf); refine ⟨[ 27,28 ],_,_,_,_,⟨ V0 w _ _,rfl,rfl,by kernel_rfl⟩,?_⟩)
 conv=>whnf
 refine ⟨[],by kernel_rfl,?_⟩
 conv=>whnf
 exact ⟨rfl,rfl⟩
theorem a7K (w:WorldT) (o:Okay w.books) (kind user number n role:Int) (gauge:GauT) (tru noise:List Int) (h:¬retE w.books user=0):PW Tryz.prog 175 [.ptr 0 0 0 0,ordX kind user number n role gauge tru noise] (plR w) (.tup [i64 0,.nils,i64 (retE w.books user)]) (plR w):=by
 have c:=a5L w.books o user h
 generalize retE w.books user=e at *
 refine a9 hm Tryz.func175 (by kernel_rfl) ⟨by kernel_rfl,?_⟩
 conv=>whnf
 (repeat' first|(refine ansS (fun hh=>?_) (fun hh=>?_)<;>(try simp only [ansX] at hh)<;>first|(exfalso;first|omega|(simp [*] at hh;done)|(revert hh;decide))|exact absurd (by assumption) hh|conv=>whnf)|((first|refine kR ?_|refine aB ?_|refine aL ?_|refine aN ?_|((try (refine Or.inl ?_;conv=>whnf));(try (refine ⟨false,?_⟩;conv=>whnf));refine ⟨_,by exact c,?_⟩)|fail);conv=>whnf))
 (refine Or.inr ⟨[ ],[ ],by kernel_rfl,?_⟩; (conv=>whnf); refine ⟨[ 27,28 ],_,_,_,_,⟨ V1 w _ _ h,rfl,rfl,by kernel_rfl⟩,?_⟩)
 conv=>whnf
 refine ⟨[],by kernel_rfl,?_⟩
 conv=>whnf
 exact ⟨rfl,rfl⟩
theorem a7L (w:WorldT) (o:Okay w.books) (kind user number n role:Int) (gauge:GauT) (tru noise:List Int) (h:disE w.books user number=0):PW Tryz.prog 176 [.ptr 0 0 0 0,ordX kind user number n role gauge tru noise] (plR w) (.tup [i64 0,.nils,i64 0]) (plR (bokW w (mrkB w.books number true))):=by
 have c:=a5Y w.books o user number h
 refine a9 hm Tryz.func176 (by kernel_rfl) ⟨by kernel_rfl,?_⟩
 conv=>whnf
 (repeat' first|(refine ansS (fun hh=>?_) (fun hh=>?_)<;>(try simp only [ansX] at hh)<;>first|(exfalso;first|omega|(simp [*] at hh;done)|(revert hh;decide))|exact absurd (by assumption) hh|conv=>whnf)|((first|refine kR ?_|refine aB ?_|refine aL ?_|refine aN ?_|((try (refine Or.inl ?_;conv=>whnf));(try (refine ⟨false,?_⟩;conv=>whnf));refine ⟨_,by exact c,?_⟩)|fail);conv=>whnf))
 (refine Or.inr ⟨[ ],[ ],by kernel_rfl,?_⟩; (conv=>whnf); refine ⟨[ 29,30 ],_,_,_,_,⟨ V0 w _ _,rfl,rfl,by kernel_rfl⟩,?_⟩)
 conv=>whnf
 refine ⟨[],by kernel_rfl,?_⟩
 conv=>whnf
 exact ⟨rfl,rfl⟩
theorem a6c (w:WorldT) (o:Okay w.books) (kind user number n role:Int) (gauge:GauT) (tru noise:List Int) (h:¬disE w.books user number=0):PW Tryz.prog 176 [.ptr 0 0 0 0,ordX kind user number n role gauge tru noise] (plR w) (.tup [i64 0,.nils,i64 (disE w.books user number)]) (plR w):=by
 have c:=a3R w.books o user number h
 generalize disE w.books user number=e at *
 refine a9 hm Tryz.func176 (by kernel_rfl) ⟨by kernel_rfl,?_⟩
 conv=>whnf
 (repeat' first|(refine ansS (fun hh=>?_) (fun hh=>?_)<;>(try simp only [ansX] at hh)<;>first|(exfalso;first|omega|(simp [*] at hh;done)|(revert hh;decide))|exact absurd (by assumption) hh|conv=>whnf)|((first|refine kR ?_|refine aB ?_|refine aL ?_|refine aN ?_|((try (refine Or.inl ?_;conv=>whnf));(try (refine ⟨false,?_⟩;conv=>whnf));refine ⟨_,by exact c,?_⟩)|fail);conv=>whnf))
 (refine Or.inr ⟨[ ],[ ],by kernel_rfl,?_⟩; (conv=>whnf); refine ⟨[ 29,30 ],_,_,_,_,⟨ V1 w _ _ h,rfl,rfl,by kernel_rfl⟩,?_⟩)
 conv=>whnf
 refine ⟨[],by kernel_rfl,?_⟩
 conv=>whnf
 exact ⟨rfl,rfl⟩
theorem a85 (w:WorldT) (o:Okay w.books) (kind user number n role:Int) (gauge:GauT) (tru noise:List Int) (h:setE w.books user number=0):PW Tryz.prog 177 [.ptr 0 0 0 0,ordX kind user number n role gauge tru noise] (plR w) (.tup [i64 0,.nils,i64 0]) (plR (bokW w (mrkB w.books number false))):=by
 have c:=a7l w.books o user number h
 refine a9 hm Tryz.func177 (by kernel_rfl) ⟨by kernel_rfl,?_⟩
 conv=>whnf
 (repeat' first|(refine ansS (fun hh=>?_) (fun hh=>?_)<;>(try simp only [ansX] at hh)<;>first|(exfalso;first|omega|(simp [*] at hh;done)|(revert hh;decide))|exact absurd (by assumption) hh|conv=>whnf)|((first|refine kR ?_|refine aB ?_|refine aL ?_|refine aN ?_|((try (refine Or.inl ?_;conv=>whnf));(try (refine ⟨false,?_⟩;conv=>whnf));refine ⟨_,by exact c,?_⟩)|fail);conv=>whnf))
 (refine Or.inr ⟨[ ],[ ],by kernel_rfl,?_⟩; (conv=>whnf); refine ⟨[ 29,30 ],_,_,_,_,⟨ V0 w _ _,rfl,rfl,by kernel_rfl⟩,?_⟩)
 conv=>whnf
 refine ⟨[],by kernel_rfl,?_⟩
 conv=>whnf
 exact ⟨rfl,rfl⟩
theorem a7M (w:WorldT) (o:Okay w.books) (kind user number n role:Int) (gauge:GauT) (tru noise:List Int) (h:¬setE w.books user number=0):PW Tryz.prog 177 [.ptr 0 0 0 0,ordX kind user number n role gauge tru noise] (plR w) (.tup [i64 0,.nils,i64 (setE w.books user number)]) (plR w):=by
 have c:=a5R w.books o user number h
 generalize setE w.books user number=e at *
 refine a9 hm Tryz.func177 (by kernel_rfl) ⟨by kernel_rfl,?_⟩
 conv=>whnf
 (repeat' first|(refine ansS (fun hh=>?_) (fun hh=>?_)<;>(try simp only [ansX] at hh)<;>first|(exfalso;first|omega|(simp [*] at hh;done)|(revert hh;decide))|exact absurd (by assumption) hh|conv=>whnf)|((first|refine kR ?_|refine aB ?_|refine aL ?_|refine aN ?_|((try (refine Or.inl ?_;conv=>whnf));(try (refine ⟨false,?_⟩;conv=>whnf));refine ⟨_,by exact c,?_⟩)|fail);conv=>whnf))
 (refine Or.inr ⟨[ ],[ ],by kernel_rfl,?_⟩; (conv=>whnf); refine ⟨[ 29,30 ],_,_,_,_,⟨ V1 w _ _ h,rfl,rfl,by kernel_rfl⟩,?_⟩)
 conv=>whnf
 refine ⟨[],by kernel_rfl,?_⟩
 conv=>whnf
 exact ⟨rfl,rfl⟩
theorem a4M:PC Tryz.prog 56 [] (.agg (a55 Y5)):=by
 refine a7E.sub rfl (fun i hi=>absurd hi (Nat.not_lt_zero i)) (H6 (xs:=[i64 0,i64 0,.ff]) (ys:=a55 Y5) rfl fun i hi => ?_).1
 match i with
 | 0=>exact .refl _
 | 1=>exact .refl _
 | 2=>exact a8O
 | (n + 3)=>exact .refl _
theorem b06 (w:WorldT) (hl:w.books.users.length < 2 ^ 20) (kind user number n role:Int) (gauge:GauT) (tru noise:List Int) (h:rstE w user=0):PW Tryz.prog 178 [.ptr 0 0 0 0,ordX kind user number n role gauge tru noise] (plR w) (.tup [i64 0,.nils,i64 0]) (plR (rstW w)):=by
 have w1:IntKind.i64.wrap ((w.books.users.length:Int) - 1)=(w.books.users.length:Int) - 1:=w64 _ (by omega) (by omega)
 have c1:=D9 0 (IntKind.i64.wrap ((w.books.users.length:Int) - 1)) user
 have h1:0<=user/\user<=(w.books.users.length:Int) - 1:=Decidable.byContradiction fun q=>by unfold rstE at h; rw [if_pos q] at h; cases h
 have h2:w.books.users.getD user.toNat 0=3:=Decidable.byContradiction fun q=>by unfold rstE at h; rw [if_neg (fun f=>f h1),if_pos q] at h; cases h
 have e1:(decide (0<=user) && decide (user<=IntKind.i64.wrap ((w.books.users.length:Int) - 1)))=true:=by rw [w1,decide_eq_true h1.1,decide_eq_true h1.2]; rfl
 rw [e1] at c1
 have cs:=a4M
 refine a9 hm Tryz.func178 (by kernel_rfl) ⟨by kernel_rfl,?_⟩
 conv=>whnf
 (repeat' first|(refine ansS (fun hh=>?_) (fun hh=>?_)<;>(try simp only [ansX] at hh)<;>first|(exfalso;first|omega|(simp [*] at hh;done)|(revert hh;decide))|exact absurd (by assumption) hh|conv=>whnf)|((first|refine kR ?_|refine aB ?_|refine aL ?_|refine aN ?_|refine aT ?_|((try (refine Or.inl ?_;conv=>whnf));(try (refine ⟨false,?_⟩;conv=>whnf));refine ⟨_,by first | exact c1 | exact cs,?_⟩)|fail);conv=>whnf))
 refine ⟨[],by kernel_rfl,?_⟩
 conv=>whnf
 first | exact ⟨rfl,rfl⟩
theorem a86 (w:WorldT) (hl:w.books.users.length < 2 ^ 20) (kind user number n role:Int) (gauge:GauT) (tru noise:List Int) (h:¬rstE w user=0):PW Tryz.prog 178 [.ptr 0 0 0 0,ordX kind user number n role gauge tru noise] (plR w) (.tup [i64 0,.nils,i64 (rstE w user)]) (plR w):=by
 have w1:IntKind.i64.wrap ((w.books.users.length:Int) - 1)=(w.books.users.length:Int) - 1:=w64 _ (by omega) (by omega)
 have c1:=D9 0 (IntKind.i64.wrap ((w.books.users.length:Int) - 1)) user
 by_cases h1:0<=user/\user<=(w.books.users.length:Int) - 1
 ·have e1:(decide (0<=user) && decide (user<=IntKind.i64.wrap ((w.books.users.length:Int) - 1)))=true:=by rw [w1,decide_eq_true h1.1,decide_eq_true h1.2]; rfl
  rw [e1] at c1
  by_cases h2:w.books.users.getD user.toNat 0=3
  ·exact absurd (by unfold rstE; rw [if_neg (fun f=>f h1),if_neg (fun f=>f h2)]) h
  ·have hr:rstE w user=100:=by unfold rstE; rw [if_neg (fun f=>f h1),if_pos h2]
   rw [hr]
   refine a9 hm Tryz.func178 (by kernel_rfl) ⟨by kernel_rfl,?_⟩
   conv=>whnf
   (repeat' first|(refine ansS (fun hh=>?_) (fun hh=>?_)<;>(try simp only [ansX] at hh)<;>first|(exfalso;first|omega|(simp [*] at hh;done)|(revert hh;decide))|exact absurd (by assumption) hh|conv=>whnf)|((first|refine kR ?_|refine aB ?_|refine aL ?_|refine aN ?_|refine aT ?_|((try (refine Or.inl ?_;conv=>whnf));(try (refine ⟨false,?_⟩;conv=>whnf));refine ⟨_,by exact c1,?_⟩)|fail);conv=>whnf))
   refine ⟨[],by kernel_rfl,?_⟩
   conv=>whnf
   exact ⟨rfl,rfl⟩
 ·have hr:rstE w user=6:=by unfold rstE; rw [if_pos h1]
  have e1:(decide (0<=user) && decide (user<=IntKind.i64.wrap ((w.books.users.length:Int) - 1)))=false:=by
   rw [w1]
   cases h:(decide (0<=user) && decide (user<=(w.books.users.length:Int) - 1))
   ·rfl
   ·rw [Bool.and_eq_true,decide_eq_true_eq,decide_eq_true_eq] at h; exact absurd h h1
  rw [e1] at c1
  rw [hr]
  refine a9 hm Tryz.func178 (by kernel_rfl) ⟨by kernel_rfl,?_⟩
  conv=>whnf
  (repeat' first|(refine ansS (fun hh=>?_) (fun hh=>?_)<;>(try simp only [ansX] at hh)<;>first|(exfalso;first|omega|(simp [*] at hh;done)|(revert hh;decide))|exact absurd (by assumption) hh|conv=>whnf)|((first|refine kR ?_|refine aB ?_|refine aL ?_|refine aN ?_|refine aT ?_|((try (refine Or.inl ?_;conv=>whnf));(try (refine ⟨false,?_⟩;conv=>whnf));refine ⟨_,by exact c1,?_⟩)|fail);conv=>whnf))
  refine ⟨[],by kernel_rfl,?_⟩
  conv=>whnf
  exact ⟨rfl,rfl⟩

end Go.Proofs.Tryz.My
