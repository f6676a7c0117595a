/- A helper text: contracts of functions of the program, and plain lemmas. -/
import Derived.Test.YtdpnpdjnaimgaaaGreatEvSix
import Derived.Test.YtdpnpdjnaimgaaaGreatMzBpA
import Derived.Test.YtdpnpdjnaimgaaaGreatMzBoC
import Derived.Test.YtdpnpdjnaimgaaaGreatEvZe
import Derived.Test.YtdpnpdjnaimgaaaGreatEvTen
import Derived.Test.YtdpnpdjnaimgaaaGreatEvDel
set_option maxRecDepth 100000
set_option maxHeartbeats 0
set_option linter.unusedVariables false
set_option linter.unusedSimpArgs false
namespace Go.Proofs.Tryz.My
open Go Go.Ev
def renI:Go.Shelf.Ren:=⟨fun n=>match n with | 21=>276 | 27=>311 | 28=>312 | 35=>325 | 39=>330 | n=>n,fun t=>match t with | 22=>60 | t=>t,fun n=>n⟩
theorem b5x:Go.Proofs.Lays2.n21 Tryz.prog renI where
 mixed:=hm
 f21:=by kernel_rfl
 f27:=by kernel_rfl
 f28:=by kernel_rfl
 f35:=by kernel_rfl
 f39:=by kernel_rfl
 t0:=by kernel_rfl
 a0:=fun w=>by kernel_rfl
 z0:=fun w=>by kernel_rfl
 v0:=fun w=>by kernel_rfl
 t3:=by kernel_rfl
 a3:=fun w=>by kernel_rfl
 z3:=fun w=>by kernel_rfl
 v3:=fun w=>by kernel_rfl
 t4:=by kernel_rfl
 a4:=fun w=>by kernel_rfl
 z4:=fun w=>by kernel_rfl
 v4:=fun w=>by kernel_rfl
 t22:=by kernel_rfl
 a22:=fun w=>by kernel_rfl
 z22:=fun w=>by kernel_rfl
 v22:=fun w=>by kernel_rfl
 i3:=by kernel_rfl
theorem b4Z (zs:List Int) (u:Int) (k:Nat) (hk:k<=zs.length) (hl:zs.length < 1073741824):PW Tryz.prog 276 [.own 0,i64 k,.own 1] [.vec 3 1 0 eI zs,.lit 3 1 [[i64 u]]] (.own 2) [.none,.none,.vec 3 1 0 eI (zs.take k++u :: zs.drop k)] :=
 b0j b5x Tryz.func276 (by kernel_rfl) rfl zs u k hk hl 3
def insI (l:List Int) (u:Int):List Int:=l.take (posI l u)++u :: l.drop (posI l u)
theorem a7j (l:List Int) (u:Int):(insI l u).length=l.length + 1:=by
 have:=a5N l u
 unfold insI
 simp
 omega
def badA (b:BooksT) (user:Int) (x:RecT):Bool:=x.appr.contains user || (decide (user=x.author) || !mayB [2,3] b.users user)
def apvR (us:List Int) (x:RecT) (user:Int):RecT:=⟨x.author,x.gauge,insI x.appr user,if x7 us (insI x.appr user)=true then 2 else x.state⟩
def setR (b:BooksT) (i:Nat) (y:RecT):BooksT:=⟨b.keep,b.users,b.recipes.set i y,b.next,b.log⟩
def apvB (b:BooksT) (user number:Int):BooksT:=setR b number.toNat (apvR b.users (b.recipes.getD number.toNat rec0) user)
def apvE (b:BooksT) (user number:Int):Int :=
 if chkB b=true/\P0 b user number then (if badA b user (b.recipes.getD number.toNat rec0)=true then 100 else if (b.recipes.getD number.toNat rec0).state > 2 then 101 else 0) else (if chkB b then 6 else 8)
theorem a4z {b:BooksT} {user number:Int} (h:apvE b user number=0):chkB b=true/\P0 b user number/\badA b user (b.recipes.getD number.toNat rec0)=false/\¬(b.recipes.getD number.toNat rec0).state > 2:=by
 unfold apvE at h
 by_cases h1:chkB b=true/\P0 b user number
 ·rw [if_pos h1] at h
  by_cases h2:badA b user (b.recipes.getD number.toNat rec0)=true
  ·rw [if_pos h2] at h; cases h
  ·rw [if_neg h2] at h
   by_cases h3:(b.recipes.getD number.toNat rec0).state > 2
   ·rw [if_pos h3] at h; cases h
   ·exact ⟨h1.1,h1.2,by simpa using h2,h3⟩
 ·rw [if_neg h1] at h
  split at h<;>cases h
theorem a5S {b:BooksT} {user:Int} {x:RecT} (h:badA b user x=false):x.appr.contains user=false/\¬user=x.author/\mayB [2,3] b.users user=true:=by
 unfold badA at h
 simp only [Bool.or_eq_false_iff,decide_eq_false_iff_not,Bool.not_eq_false'] at h
 exact ⟨h.1,h.2.1,h.2.2⟩
theorem a5T {b:BooksT} (h:chkB b=true) {i:Nat} (hi:i < b.recipes.length):a1Z b.users (b.recipes.getD i rec0)=true/\a1x b.users (b.recipes.getD i rec0)=true:=by
 simp only [chkB,B7,Bool.and_eq_true] at h
 have h:=(a67 (p:=recB b.users) (d:=rec0)).1 h.1.2.1 i hi
 unfold recB at h
 rw [Bool.and_eq_true] at h
 exact h
theorem a5U (b:BooksT) (a c:Int):PW Tryz.prog 160 [.ptr 0 0 0 0,.own 4] (dskR b++[.lit 5 1 [[u8 a],[u8 c]]]) (.fn (.func 207) [] [.ptr 5 0 0 0,.ptr 6 0 0 0]) (dskR b++[.lit 5 1 [[u8 a],[u8 c]],.cells 176 [.ptr 0 0 0 0],.cells 33 [.own 4]]):=by
 refine j9 hm Tryz.func160 (by kernel_rfl) ⟨by kernel_rfl,?_⟩
 conv=>whnf
 refine ⟨[2,3],by kernel_rfl,?_⟩
 conv=>whnf
 exact ⟨rfl,rfl⟩
theorem a5V (b:BooksT) (o:Okay b) (user number:Int) (h:apvE b user number=0):PW Tryz.prog 229 [bks b,i64 user,i64 number] [] (.tup [ownB (apvB b user number),i64 0]) (ownR (apvB b user number)):=by
 obtain ⟨hc,hn,hb,h2⟩:=a4z h
 clear h
 obtain ⟨hb1,hb2,hb3⟩:=a5S hb
 have s:=u4 hc
 have hlt:number.toNat < b.recipes.length:=by have:=hn.2; omega
 have hi:0<=number/\number < (b.recipes.length:Int):=by have:=hn.2; omega
 have hx:=o.a number.toNat
 have c1:=fun u=>a28 b.keep b.next u b.users b.recipes b.log 2 3 (lt40 o.u)
 have c2:=a9G (b.recipes.getD number.toNat rec0).appr (b2j (a5T hc hlt).1) (by omega) user
 rw [hb1] at c2
 have hx1:=a68 (a5T hc hlt).1
 obtain ⟨R,hR⟩:∃ R:RecT,R=⟨(b.recipes.getD number.toNat rec0).author,(b.recipes.getD number.toNat rec0).gauge,insI (b.recipes.getD number.toNat rec0).appr user,(b.recipes.getD number.toNat rec0).state⟩:=⟨_,rfl⟩
 have hlR:number.toNat < (b.recipes.set number.toNat R).length:=by rw [List.length_set]; exact hlt
 have hgR:(b.recipes.set number.toNat R).getD number.toNat rec0=R:=P1 hlt
 have hRa:R.appr=insI (b.recipes.getD number.toNat rec0).appr user:=by rw [hR]
 have c4:=a4u b.keep b.next b.users (b.recipes.set number.toNat R) b.log (lt40 o.u) ((b.recipes.set number.toNat R).getD number.toNat rec0).appr (by rw [hgR,hRa,a7j]; omega)
 have hE:x7 b.users ((b.recipes.set number.toNat R).getD number.toNat rec0).appr=x7 b.users (insI (b.recipes.getD number.toNat rec0).appr user):=by rw [hgR,hRa]
 rw [hE] at c4
 refine a9 hm Tryz.func229 (by kernel_rfl) ⟨by kernel_rfl,?_⟩
 conv=>whnf
 (refine Or.inr ⟨[ ],[ 21,18,19,20 ],by kernel_rfl,?_⟩; (conv=>whnf); refine ⟨[ ],_,_,_,_,⟨ C7 b o hc user number hn,rfl,rfl,by kernel_rfl⟩,?_⟩)
 conv=>whnf
 (repeat' ((first|refine ansT ?_|refine ansF ?_|refine ansD (by first|(simp [*];done)|omega) ?_ | refine ansN (by first|(simp [*];done)|omega) ?_ | refine ⟨by kernel_rfl,?_⟩ | refine ansB (by decide) (by first | decide | (simp; done) | (simp only [List.length_cons,List.length_nil]; decide)) ?_|fail);conv=>whnf))
 (repeat' first|(refine ansS (fun hh=>?_) (fun hh=>?_)<;>(try simp only [ansX] at hh)<;>first|(exfalso;first|omega|(simp [*] at hh;done)|(revert hh;decide))|exact absurd (by assumption) hh|conv=>whnf)|((first|refine kR ?_|refine aB ?_|refine aL ?_|refine aN ?_|((try (refine Or.inl ?_;conv=>whnf));(try (refine ⟨false,?_⟩;conv=>whnf));refine ⟨_,by first | exact c2 | exact c1 _,?_⟩)|fail);conv=>whnf))
 refine ⟨hlt,?_⟩
 conv=>whnf
 refine Or.inl ?_
 conv=>whnf
 (repeat' first|(refine ansS (fun hh=>?_) (fun hh=>?_)<;>(try simp only [ansX] at hh)<;>first|(exfalso;first|omega|(simp [*] at hh;done)|(revert hh;decide))|exact absurd (by assumption) hh|conv=>whnf)|((first|refine kR ?_|refine aB ?_|refine aL ?_|refine aN ?_|((try (refine Or.inl ?_;conv=>whnf));(try (refine ⟨false,?_⟩;conv=>whnf));refine ⟨_,by first | exact c2 | exact c1 _,?_⟩)|fail);conv=>whnf))
 refine ⟨hlt,?_⟩
 conv=>whnf
 (repeat' first|(refine ansS (fun hh=>?_) (fun hh=>?_)<;>(try simp only [ansX] at hh)<;>first|(exfalso;first|omega|(simp [*] at hh;done)|(revert hh;decide))|exact absurd (by assumption) hh|conv=>whnf)|((first|refine kR ?_|refine aB ?_|refine aL ?_|refine aN ?_|((try (refine Or.inl ?_;conv=>whnf));(try (refine ⟨false,?_⟩;conv=>whnf));refine ⟨_,by first | exact c2 | exact c1 _,?_⟩)|fail);conv=>whnf))
 (refine Or.inr ⟨[ ],[ 50,48 ],by kernel_rfl,?_⟩; (conv=>whnf); refine ⟨[ 21,18,19,20,46 ],_,_,_,_,⟨ a5U b 2 3,rfl,rfl,by kernel_rfl⟩,?_⟩)
 conv=>whnf
 (repeat' first|(refine ansS (fun hh=>?_) (fun hh=>?_)<;>(try simp only [ansX] at hh)<;>first|(exfalso;first|omega|(simp [*] at hh;done)|(revert hh;decide))|exact absurd (by assumption) hh|conv=>whnf)|((first|refine kR ?_|refine aB ?_|refine aL ?_|refine aN ?_|((try (refine Or.inl ?_;conv=>whnf));(try (refine ⟨false,?_⟩;conv=>whnf));refine ⟨_,by exact c1 _,?_⟩)|fail);conv=>whnf))
 refine ⟨hlt,?_⟩
 conv=>whnf
 (repeat' first|(refine ansS (fun hh=>?_) (fun hh=>?_)<;>(try simp only [ansX] at hh)<;>first|(exfalso;first|omega|(simp [*] at hh;done)|(revert hh;decide))|exact absurd (by assumption) hh|conv=>whnf)|((first|refine kR ?_|refine aB ?_|refine aL ?_|refine aN ?_|fail);conv=>whnf))
 refine ⟨hlt,?_⟩
 conv=>whnf
 refine Or.inr ⟨19,number.toNat,63,[64],by kernel_rfl,?_⟩
 conv=>whnf
 refine ⟨⟨hlt,rfl⟩,?_⟩
 conv=>whnf
 refine ⟨[],[62],by kernel_rfl,?_⟩
 conv=>whnf
 refine ⟨[63,67],_,_,_,_,⟨b4Z (b.recipes.getD number.toNat rec0).appr user (posI (b.recipes.getD number.toNat rec0).appr user) (a5N _ _) (by omega),rfl,rfl,by kernel_rfl⟩,?_⟩
 conv=>whnf
 refine ⟨insI (b.recipes.getD number.toNat rec0).appr user,R,⟨rfl,hRa,by rw [hR]; rfl,hlt,rfl⟩,?_⟩
 conv=>whnf
 refine ⟨hlR,?_⟩
 conv=>whnf
 refine Or.inl ?_
 conv=>whnf
 by_cases he:x7 b.users (insI (b.recipes.getD number.toNat rec0).appr user)=true
 ·have hB:apvB b user number=⟨b.keep,b.users,(b.recipes.set number.toNat R).set number.toNat (V7 ((b.recipes.set number.toNat R).getD number.toNat rec0) 2),b.next,b.log⟩:=by
   unfold apvB setR apvR
   rw [if_pos he,List.set_set,hgR,hR]
   rfl
  rw [hB]
  rw [he] at c4
  (repeat' ((first | refine ansT ?_ | refine ansF ?_|((try (refine Or.inl ?_;conv=>whnf));(try (refine ⟨false,?_⟩;conv=>whnf));refine ⟨_,by exact c4,?_⟩) | refine ansD (by first|(simp [*];done)|omega) ?_ | refine ansN (by first|(simp [*];done)|omega) ?_ | refine ⟨by kernel_rfl,?_⟩ | refine ansB (by decide) (by first | decide | (simp; done) | (simp only [List.length_cons,List.length_nil]; decide)) ?_|fail);conv=>whnf))
  (repeat' first|(refine ansS (fun hh=>?_) (fun hh=>?_)<;>(try simp only [ansX] at hh)<;>first|(exfalso;first|omega|(simp [*] at hh;done)|(revert hh;decide))|exact absurd (by assumption) hh|conv=>whnf)|((first|refine kR ?_|refine aB ?_|refine aL ?_|refine aN ?_|fail);conv=>whnf))
  refine ⟨V7 ((b.recipes.set number.toNat R).getD number.toNat rec0) 2,⟨rfl,rfl,hlR⟩,?_⟩
  conv=>whnf
  refine ⟨[18,19,20],by kernel_rfl,?_⟩
  conv=>whnf
  exact ⟨rfl,rfl⟩
 ·have hB:apvB b user number=⟨b.keep,b.users,b.recipes.set number.toNat R,b.next,b.log⟩:=by
   unfold apvB setR apvR
   rw [if_neg he,hR]
  rw [hB]
  have he2:x7 b.users (insI (b.recipes.getD number.toNat rec0).appr user)=false:=by simpa using he
  rw [he2] at c4
  (repeat' ((first | refine ansT ?_ | refine ansF ?_|((try (refine Or.inl ?_;conv=>whnf));(try (refine ⟨false,?_⟩;conv=>whnf));refine ⟨_,by exact c4,?_⟩) | refine ansD (by first|(simp [*];done)|omega) ?_ | refine ansN (by first|(simp [*];done)|omega) ?_ | refine ⟨by kernel_rfl,?_⟩ | refine ansB (by decide) (by first | decide | (simp; done) | (simp only [List.length_cons,List.length_nil]; decide)) ?_|fail);conv=>whnf))
  (repeat' first|(refine ansS (fun hh=>?_) (fun hh=>?_)<;>(try simp only [ansX] at hh)<;>first|(exfalso;first|omega|(simp [*] at hh;done)|(revert hh;decide))|exact absurd (by assumption) hh|conv=>whnf)|((first|refine kR ?_|refine aB ?_|refine aL ?_|refine aN ?_|fail);conv=>whnf))
  refine ⟨[18,19,20],by kernel_rfl,?_⟩
  conv=>whnf
  exact ⟨rfl,rfl⟩
theorem a3S (b:BooksT) (o:Okay b) (user number:Int) (h:¬apvE b user number=0):PC Tryz.prog 229 [bks b,i64 user,i64 number] (.tup [newB 0,i64 (apvE b user number)]):=by
 by_cases h1:chkB b=true/\P0 b user number
 ·unfold apvE at h ⊢
  rw [if_pos h1] at h ⊢
  obtain ⟨hc,hn⟩:=h1
  have s:=u4 hc
  have hlt:number.toNat < b.recipes.length:=by have:=hn.2; omega
  have hi:0<=number/\number < (b.recipes.length:Int):=by have:=hn.2; omega
  have hx:=o.a number.toNat
  have c1:=fun u=>a28 b.keep b.next u b.users b.recipes b.log 2 3 (lt40 o.u)
  have c2:=a9G (b.recipes.getD number.toNat rec0).appr (b2j (a5T hc hlt).1) (by omega) user
  by_cases hb:badA b user (b.recipes.getD number.toNat rec0)=true
  ·rw [if_pos hb]
   unfold badA at hb
   by_cases q1:(b.recipes.getD number.toNat rec0).appr.contains user=true
   ·rw [q1] at c2
    clear hb q1
    refine a7 hm Tryz.func229 (by kernel_rfl) ?_
    conv=>whnf
    (refine Or.inr ⟨[ ],[ 21,18,19,20 ],by kernel_rfl,?_⟩; (conv=>whnf); refine ⟨[ ],_,_,_,_,⟨ C7 b o hc user number hn,rfl,rfl,by kernel_rfl⟩,?_⟩)
    conv=>whnf
    (repeat' ((first|refine ansT ?_|refine ansF ?_|refine ansD (by first|(simp [*];done)|omega) ?_ | refine ansN (by first|(simp [*];done)|omega) ?_ | refine ⟨by kernel_rfl,?_⟩ | refine ansB (by decide) (by first | decide | (simp; done) | (simp only [List.length_cons,List.length_nil]; decide)) ?_|fail);conv=>whnf))
    (repeat' first|(refine ansS (fun hh=>?_) (fun hh=>?_)<;>(try simp only [ansX] at hh)<;>first|(exfalso;first|omega|(simp [*] at hh;done)|(revert hh;decide))|exact absurd (by assumption) hh|conv=>whnf)|((first|refine kR ?_|refine aB ?_|refine aL ?_|refine aN ?_|fail);conv=>whnf))
    refine ⟨hlt,?_⟩
    conv=>whnf
    refine Or.inl ?_
    conv=>whnf
    (repeat' first|(refine ansS (fun hh=>?_) (fun hh=>?_)<;>(try simp only [ansX] at hh)<;>first|(exfalso;first|omega|(simp [*] at hh;done)|(revert hh;decide))|exact absurd (by assumption) hh|conv=>whnf)|((first|refine kR ?_|refine aB ?_|refine aL ?_|refine aN ?_|((try (refine Or.inl ?_;conv=>whnf));(try (refine ⟨false,?_⟩;conv=>whnf));refine ⟨_,by exact c2,?_⟩)|fail);conv=>whnf))
    all_goals rfl
   ·have q1:(b.recipes.getD number.toNat rec0).appr.contains user=false:=by simpa using q1
    rw [q1] at c2 hb
    rw [Bool.false_or] at hb
    by_cases q2:user=(b.recipes.getD number.toNat rec0).author
    ·clear hb q1
     refine a7 hm Tryz.func229 (by kernel_rfl) ?_
     conv=>whnf
     (refine Or.inr ⟨[ ],[ 21,18,19,20 ],by kernel_rfl,?_⟩; (conv=>whnf); refine ⟨[ ],_,_,_,_,⟨ C7 b o hc user number hn,rfl,rfl,by kernel_rfl⟩,?_⟩)
     conv=>whnf
     (repeat' ((first|refine ansT ?_|refine ansF ?_|refine ansD (by first|(simp [*];done)|omega) ?_ | refine ansN (by first|(simp [*];done)|omega) ?_ | refine ⟨by kernel_rfl,?_⟩ | refine ansB (by decide) (by first | decide | (simp; done) | (simp only [List.length_cons,List.length_nil]; decide)) ?_|fail);conv=>whnf))
     (repeat' first|(refine ansS (fun hh=>?_) (fun hh=>?_)<;>(try simp only [ansX] at hh)<;>first|(exfalso;first|omega|(simp [*] at hh;done)|(revert hh;decide))|exact absurd (by assumption) hh|conv=>whnf)|((first|refine kR ?_|refine aB ?_|refine aL ?_|refine aN ?_|fail);conv=>whnf))
     refine ⟨hlt,?_⟩
     conv=>whnf
     refine Or.inl ?_
     conv=>whnf
     (repeat' first|(refine ansS (fun hh=>?_) (fun hh=>?_)<;>(try simp only [ansX] at hh)<;>first|(exfalso;first|omega|(simp [*] at hh;done)|(revert hh;decide))|exact absurd (by assumption) hh|conv=>whnf)|((first|refine kR ?_|refine aB ?_|refine aL ?_|refine aN ?_|((try (refine Or.inl ?_;conv=>whnf));(try (refine ⟨false,?_⟩;conv=>whnf));refine ⟨_,by exact c2,?_⟩)|fail);conv=>whnf))
     refine ⟨hlt,?_⟩
     conv=>whnf
     (repeat' first|(refine ansS (fun hh=>?_) (fun hh=>?_)<;>(try simp only [ansX] at hh)<;>first|(exfalso;first|omega|(simp [*] at hh;done)|(revert hh;decide))|exact absurd (by assumption) hh|conv=>whnf)|((first|refine kR ?_|refine aB ?_|refine aL ?_|refine aN ?_|fail);conv=>whnf))
     all_goals rfl
    ·have q3:mayB [2,3] b.users user=false:=by
      rw [decide_eq_false q2,Bool.false_or,Bool.not_eq_true'] at hb
      exact hb
     clear hb q1
     refine a7 hm Tryz.func229 (by kernel_rfl) ?_
     conv=>whnf
     (refine Or.inr ⟨[ ],[ 21,18,19,20 ],by kernel_rfl,?_⟩; (conv=>whnf); refine ⟨[ ],_,_,_,_,⟨ C7 b o hc user number hn,rfl,rfl,by kernel_rfl⟩,?_⟩)
     conv=>whnf
     (repeat' ((first|refine ansT ?_|refine ansF ?_|refine ansD (by first|(simp [*];done)|omega) ?_ | refine ansN (by first|(simp [*];done)|omega) ?_ | refine ⟨by kernel_rfl,?_⟩ | refine ansB (by decide) (by first | decide | (simp; done) | (simp only [List.length_cons,List.length_nil]; decide)) ?_|fail);conv=>whnf))
     (repeat' first|(refine ansS (fun hh=>?_) (fun hh=>?_)<;>(try simp only [ansX] at hh)<;>first|(exfalso;first|omega|(simp [*] at hh;done)|(revert hh;decide))|exact absurd (by assumption) hh|conv=>whnf)|((first|refine kR ?_|refine aB ?_|refine aL ?_|refine aN ?_|fail);conv=>whnf))
     refine ⟨hlt,?_⟩
     conv=>whnf
     refine Or.inl ?_
     conv=>whnf
     (repeat' first|(refine ansS (fun hh=>?_) (fun hh=>?_)<;>(try simp only [ansX] at hh)<;>first|(exfalso;first|omega|(simp [*] at hh;done)|(revert hh;decide))|exact absurd (by assumption) hh|conv=>whnf)|((first|refine kR ?_|refine aB ?_|refine aL ?_|refine aN ?_|((try (refine Or.inl ?_;conv=>whnf));(try (refine ⟨false,?_⟩;conv=>whnf));refine ⟨_,by exact c2,?_⟩)|fail);conv=>whnf))
     refine ⟨hlt,?_⟩
     conv=>whnf
     (repeat' first|(refine ansS (fun hh=>?_) (fun hh=>?_)<;>(try simp only [ansX] at hh)<;>first|(exfalso;first|omega|(simp [*] at hh;done)|(revert hh;decide))|exact absurd (by assumption) hh|conv=>whnf)|((first|refine kR ?_|refine aB ?_|refine aL ?_|refine aN ?_|fail);conv=>whnf))
     (refine Or.inr ⟨[ ],[ 50,48 ],by kernel_rfl,?_⟩; (conv=>whnf); refine ⟨[ 21,18,19,20,46 ],_,_,_,_,⟨ a5U b 2 3,rfl,rfl,by kernel_rfl⟩,?_⟩)
     conv=>whnf
     (repeat' first|(refine ansS (fun hh=>?_) (fun hh=>?_)<;>(try simp only [ansX] at hh)<;>first|(exfalso;first|omega|(simp [*] at hh;done)|(revert hh;decide))|exact absurd (by assumption) hh|conv=>whnf)|((first|refine kR ?_|refine aB ?_|refine aL ?_|refine aN ?_|((try (refine Or.inl ?_;conv=>whnf));(try (refine ⟨false,?_⟩;conv=>whnf));refine ⟨_,by exact c1 _,?_⟩)|fail);conv=>whnf))
     all_goals rfl
  ·have hb2:badA b user (b.recipes.getD number.toNat rec0)=false:=by simpa using hb
   rw [if_neg hb] at h ⊢
   obtain ⟨hb1,hb2,hb3⟩:=a5S hb2
   rw [hb1] at c2
   have h2:(b.recipes.getD number.toNat rec0).state > 2:=Decidable.byContradiction fun q=>h (if_neg q)
   rw [if_pos h2]
   clear h hb hb1
   refine a7 hm Tryz.func229 (by kernel_rfl) ?_
   conv=>whnf
   (refine Or.inr ⟨[ ],[ 21,18,19,20 ],by kernel_rfl,?_⟩; (conv=>whnf); refine ⟨[ ],_,_,_,_,⟨ C7 b o hc user number hn,rfl,rfl,by kernel_rfl⟩,?_⟩)
   conv=>whnf
   (repeat' ((first|refine ansT ?_|refine ansF ?_|refine ansD (by first|(simp [*];done)|omega) ?_ | refine ansN (by first|(simp [*];done)|omega) ?_ | refine ⟨by kernel_rfl,?_⟩ | refine ansB (by decide) (by first | decide | (simp; done) | (simp only [List.length_cons,List.length_nil]; decide)) ?_|fail);conv=>whnf))
   (repeat' first|(refine ansS (fun hh=>?_) (fun hh=>?_)<;>(try simp only [ansX] at hh)<;>first|(exfalso;first|omega|(simp [*] at hh;done)|(revert hh;decide))|exact absurd (by assumption) hh|conv=>whnf)|((first|refine kR ?_|refine aB ?_|refine aL ?_|refine aN ?_|fail);conv=>whnf))
   refine ⟨hlt,?_⟩
   conv=>whnf
   refine Or.inl ?_
   conv=>whnf
   (repeat' first|(refine ansS (fun hh=>?_) (fun hh=>?_)<;>(try simp only [ansX] at hh)<;>first|(exfalso;first|omega|(simp [*] at hh;done)|(revert hh;decide))|exact absurd (by assumption) hh|conv=>whnf)|((first|refine kR ?_|refine aB ?_|refine aL ?_|refine aN ?_|((try (refine Or.inl ?_;conv=>whnf));(try (refine ⟨false,?_⟩;conv=>whnf));refine ⟨_,by exact c2,?_⟩)|fail);conv=>whnf))
   refine ⟨hlt,?_⟩
   conv=>whnf
   (repeat' first|(refine ansS (fun hh=>?_) (fun hh=>?_)<;>(try simp only [ansX] at hh)<;>first|(exfalso;first|omega|(simp [*] at hh;done)|(revert hh;decide))|exact absurd (by assumption) hh|conv=>whnf)|((first|refine kR ?_|refine aB ?_|refine aL ?_|refine aN ?_|fail);conv=>whnf))
   (refine Or.inr ⟨[ ],[ 50,48 ],by kernel_rfl,?_⟩; (conv=>whnf); refine ⟨[ 21,18,19,20,46 ],_,_,_,_,⟨ a5U b 2 3,rfl,rfl,by kernel_rfl⟩,?_⟩)
   conv=>whnf
   (repeat' first|(refine ansS (fun hh=>?_) (fun hh=>?_)<;>(try simp only [ansX] at hh)<;>first|(exfalso;first|omega|(simp [*] at hh;done)|(revert hh;decide))|exact absurd (by assumption) hh|conv=>whnf)|((first|refine kR ?_|refine aB ?_|refine aL ?_|refine aN ?_|((try (refine Or.inl ?_;conv=>whnf));(try (refine ⟨false,?_⟩;conv=>whnf));refine ⟨_,by exact c1 _,?_⟩)|fail);conv=>whnf))
   refine ⟨hlt,?_⟩
   conv=>whnf
   (repeat' first|(refine ansS (fun hh=>?_) (fun hh=>?_)<;>(try simp only [ansX] at hh)<;>first|(exfalso;first|omega|(simp [*] at hh;done)|(revert hh;decide))|exact absurd (by assumption) hh|conv=>whnf)|((first|refine kR ?_|refine aB ?_|refine aL ?_|refine aN ?_|fail);conv=>whnf))
   all_goals rfl
 ·have c:=a10 b o user number h1
  unfold apvE
  rw [if_neg h1]
  by_cases hc:chkB b=true
  ·rw [if_pos hc] at c ⊢
   refine a7 hm Tryz.func229 (by kernel_rfl) ?_
   conv=>whnf
   (repeat' ((first | refine ansT ?_ | refine ansF ?_|((try (refine Or.inl ?_;conv=>whnf));(try (refine ⟨false,?_⟩;conv=>whnf));refine ⟨_,by exact c,?_⟩) | refine ansD (by first|(simp [*];done)|omega) ?_ | refine ansN (by first|(simp [*];done)|omega) ?_ | refine ⟨by kernel_rfl,?_⟩ | refine ansB (by decide) (by first | decide | (simp; done) | (simp only [List.length_cons,List.length_nil]; decide)) ?_|fail);conv=>whnf))
   all_goals rfl
  ·rw [if_neg hc] at c ⊢
   refine a7 hm Tryz.func229 (by kernel_rfl) ?_
   conv=>whnf
   (repeat' ((first | refine ansT ?_ | refine ansF ?_|((try (refine Or.inl ?_;conv=>whnf));(try (refine ⟨false,?_⟩;conv=>whnf));refine ⟨_,by exact c,?_⟩) | refine ansD (by first|(simp [*];done)|omega) ?_ | refine ansN (by first|(simp [*];done)|omega) ?_ | refine ⟨by kernel_rfl,?_⟩ | refine ansB (by decide) (by first | decide | (simp; done) | (simp only [List.length_cons,List.length_nil]; decide)) ?_|fail);conv=>whnf))
   all_goals rfl
theorem a5W (b:BooksT) (o:Okay b) (role:Int) (h:addE b role=0):PC Tryz.prog 226 [bks b,u8 role] (.tup [bks (addU b role),i64 b.users.length,i64 0]):=(a5K b o role h).toPC 6 (by kernel_rfl)
theorem a8N (b:BooksT) (o:Okay b) (user:Int) (g:GauT) (h:drfE b user g=0):PC Tryz.prog 228 [bks b,i64 user,gau g] (.tup [bks (drfB b user g),i64 b.recipes.length,i64 0]):=(a8M b o user g h).toPC 6 (by kernel_rfl)
theorem a5X (b:BooksT) (o:Okay b) (user number:Int) (h:apvE b user number=0):PC Tryz.prog 229 [bks b,i64 user,i64 number] (.tup [bks (apvB b user number),i64 0]):=(a5V b o user number h).toPC 6 (by kernel_rfl)
theorem a3T (b:BooksT) (o:Okay b) (user number:Int) (h:N6 b user number=0):PC Tryz.prog 230 [bks b,i64 user,i64 number] (.tup [bks (Y0 b number),i64 0]):=(a3O b o user number h).toPC 6 (by kernel_rfl)
theorem a7k (b:BooksT) (o:Okay b) (user:Int) (h:retE b user=0):PC Tryz.prog 231 [bks b,i64 user] (.tup [bks (retB b (p9 b.recipes)),i64 0]):=(a7f b o user h).toPC 6 (by kernel_rfl)
theorem a5Y (b:BooksT) (o:Okay b) (user seq:Int) (h:disE b user seq=0):PC Tryz.prog 232 [bks b,i64 user,i64 seq] (.tup [bks (mrkB b seq true),i64 0]):=(a5Q b o user seq h).toPC 6 (by kernel_rfl)
theorem a7l (b:BooksT) (o:Okay b) (user seq:Int) (h:setE b user seq=0):PC Tryz.prog 233 [bks b,i64 user,i64 seq] (.tup [bks (mrkB b seq false),i64 0]):=(a7i b o user seq h).toPC 6 (by kernel_rfl)
def renD:Go.Shelf.Ren:=⟨fun n=>match n with | 45=>273 | n=>n,fun t=>match t with | 22=>35 | 23=>80 | t=>t,fun n=>n⟩
theorem b5y:Go.Proofs.SlLaysE0.n45 Tryz.prog renD where
 mixed:=hm
 f45:=⟨"slices.Delete[[]sightbench/api.Entry,sightbench/api.Entry]",by kernel_rfl,by kernel_rfl⟩
 t0:=by kernel_rfl
 a0:=fun w=>by kernel_rfl
 z0:=fun w=>by kernel_rfl
 v0:=fun w=>by kernel_rfl
 t3:=by kernel_rfl
 a3:=fun w=>by kernel_rfl
 z3:=fun w=>by kernel_rfl
 v3:=fun w=>by kernel_rfl
 t4:=by kernel_rfl
 a4:=fun w=>by kernel_rfl
 z4:=fun w=>by kernel_rfl
 v4:=fun w=>by kernel_rfl
 t22:=by kernel_rfl
 a22:=fun w=>by kernel_rfl
 z22:=fun w=>by kernel_rfl
 v22:=fun w=>by kernel_rfl
def a08 (l:List EntT) (i:Nat):List EntT:=l.take i++l.drop (i + 1)
theorem a9I (l:List EntT) (i:Nat) (hi:i < l.length):PW Tryz.prog 273 [.own 0,i64 i,i64 ((i:Int) + 1)] [.vec 80 6 ent0 eEnt l] (.own 1) [.none,.vec 80 6 ent0 eEnt (a08 l i)] :=
 a8A b5y Tryz.func273 (by kernel_rfl) rfl (fun w=>by kernel_rfl) ((Tryz.prog.info? 80).get (by kernel_rfl)) (by kernel_rfl) (by kernel_rfl) (.agg #[.int .i64 0,.int .i64 0,.int .i64 0,.slice none 0 0,.int .u8 0,.bool false]) (fun w=>by kernel_rfl) (by kernel_rfl) (fun v hv=>by
  have h:v ∈ [Value.int .i64 0,.int .i64 0,.int .i64 0,.slice none 0 0,.int .u8 0,.bool false]:=hv
  simp only [List.mem_cons,List.not_mem_nil,or_false] at h
  rcases h with h | h | h | h | h | h<;>rw [h]<;>rfl) 80 ent0 eEnt (fun y j hj=>by
  match j,hj with
  | 0,_=>rfl
  | 1,_=>rfl
  | 2,_=>rfl
  | 3,_=>rfl
  | 4,_=>rfl
  | 5,_=>rfl) l i hi
theorem b2l (x:EntT) (hx:x.profile.length < 2 ^ 20):PC Tryz.prog 153 [ent x] (ent x):=(a7c x hx).toPC 6 (by kernel_rfl)
theorem b0I (l:List EntT) (hl:l.length < 2 ^ 16) (ha:∀ i,(l.getD i ent0).profile.length < 2 ^ 20):PW Tryz.prog 152 [ents l,.fn (.func 153) [] []] [] (.own 0) [.vec 80 6 ent0 eEnt l]:=by
 have w1:IntKind.i64.wrap ((l.length:Int) + 1)=(l.length:Int) + 1:=w64 _ (by omega) (by omega)
 refine a9 hm Tryz.func152 (by kernel_rfl) ⟨by kernel_rfl,?_⟩
 conv=>whnf
 refine ⟨.vec 80 6 ent0 eEnt [],⟨⟨rfl,rfl,rfl⟩,by omega,by omega,of_decide_eq_true (by kernel_rfl)⟩,?_⟩
 conv=>whnf
 refine Or.inr ⟨Nat,[14],[],[(5,⟨EntT,80,6,ent0,eEnt⟩)],fun i=>[i64 i],fun _=>[],fun i=>[.vec 80 6 ent0 eEnt (l.take i)],fun i=>l.length - i,fun i=>i<=l.length,?_⟩
 conv=>whnf
 refine ⟨⟨0,?_⟩,?_⟩
 ·(conv=>whnf)
  exact ⟨⟨Nat.zero_le _,rfl,rfl,rfl⟩,by kernel_rfl,by kernel_rfl⟩
 ·intro j hj
  conv=>whnf
  refine ⟨fun h => ?_,fun h => ?_⟩
  ·have h:=of_decide_eq_true h
   have hjj:j < l.length:=by omega
   have hk:(l.take j).length=j:=by rw [List.length_take]; omega
   conv=>whnf
   refine ⟨⟨by omega,by omega⟩,?_⟩
   conv=>whnf
   (repeat' ((first | refine ansT ?_ | refine ansF ?_|((try (refine Or.inl ?_;conv=>whnf));(try (refine ⟨false,?_⟩;conv=>whnf));refine ⟨_,by exact b2l _ (ha _),?_⟩) | refine ansD (by first|(simp [*];done)|omega) ?_ | refine ansN (by first|(simp [*];done)|omega) ?_ | refine ⟨by kernel_rfl,?_⟩ | refine ansB (by decide) (by first | decide | (simp; done) | (simp only [List.length_cons,List.length_nil]; decide)) ?_|fail);conv=>whnf))
   refine ⟨⟨EntT,6,ent0,eEnt,l.take j⟩,[l.getD j ent0],rfl,rfl,⟨rfl,rfl⟩,?_,?_,fun y _=>⟨rfl,rfl,rfl⟩,?_⟩
   ·show ((l.take j).length + 1) * 56<=_; rw [hk]; omega
   ·show (l.take j).length + 1<=_; rw [hk]; omega
   conv=>whnf
   refine ⟨j + 1,?_⟩
   conv=>whnf
   refine ⟨⟨⟨?_,?_⟩,?_,rfl,?_⟩,by kernel_rfl,by kernel_rfl⟩
   ·show l.length - (j + 1) < l.length - j; omega
   ·show j + 1<=l.length; omega
   ·rw [w64 _ (by omega) (by omega)]; rfl
   ·show [Row.vec 80 6 ent0 eEnt (l.take j++[l.getD j ent0])]=[Row.vec 80 6 ent0 eEnt (l.take (j + 1))]
    rw [List.take_add_one,List.getElem?_eq_getElem hjj]
    simp [List.getD,hjj]
  ·have h:=of_decide_eq_false h
   have ej:l.take j=l:=List.take_of_length_le (by omega)
   rw [ej]
   conv=>whnf
   refine ⟨[5],by kernel_rfl,?_⟩
   conv=>whnf
   exact ⟨rfl,rfl⟩
def dskV (b:BooksT):List Row:=[.cells 182 [i64 b.keep,.own 1,.own 2,i64 b.next,.own 3],.vec 5 1 0 e8 b.users,.nest 122 13 11 3 rec0 eRec RecT.appr none b.recipes,.vec 80 6 ent0 eEnt b.log]
theorem J7 (b:BooksT) (o:Okay b) (h:chkB b=true):PW Tryz.prog 97 [bks b] [] (.tup [.ptr 0 0 0 0,i64 0]) (dskV b):=by
 have c:PC Tryz.prog 69 [bks b] (i64 0):=by have c:=Z5 b o; rwa [if_pos h] at c
 have s:=u4 h
 refine a9 hm Tryz.func97 (by kernel_rfl) ⟨by kernel_rfl,?_⟩
 conv=>whnf
 (repeat' ((first | refine ansT ?_ | refine ansF ?_|((try (refine Or.inl ?_;conv=>whnf));(try (refine ⟨false,?_⟩;conv=>whnf));refine ⟨_,by exact c,?_⟩) | refine ansD (by first|(simp [*];done)|omega) ?_ | refine ansN (by first|(simp [*];done)|omega) ?_ | refine ⟨by kernel_rfl,?_⟩ | refine ansB (by decide) (by first | decide | (simp; done) | (simp only [List.length_cons,List.length_nil]; decide)) ?_|fail);conv=>whnf))
 (refine Or.inr ⟨[ ],[ 12 ],by kernel_rfl,?_⟩; (conv=>whnf); refine ⟨[ ],_,_,_,_,⟨ a1B b.users o.u,rfl,rfl,by kernel_rfl⟩,?_⟩)
 conv=>whnf
 (refine Or.inr ⟨[ ],[ 16 ],by kernel_rfl,?_⟩; (conv=>whnf); refine ⟨[ ],_,_,_,_,⟨ a7d b.recipes (by omega) o.a,rfl,rfl,by kernel_rfl⟩,?_⟩)
 conv=>whnf
 (refine Or.inr ⟨[ ],[ 20 ],by kernel_rfl,?_⟩; (conv=>whnf); refine ⟨[ ],_,_,_,_,⟨ b0I b.log (by omega) o.p,rfl,rfl,by kernel_rfl⟩,?_⟩)
 conv=>whnf
 refine ⟨[24,12,16,20],by kernel_rfl,?_⟩
 conv=>whnf
 exact ⟨rfl,rfl⟩
def K6 (x:EntT):Bool := !x.disputed
theorem a1D (x:EntT):PC Tryz.prog 272 [ent x] (.bool (K6 x)):=by
 refine a7 hm Tryz.func272 (by kernel_rfl) ?_
 conv=>whnf
 try rfl
theorem a4A (l:List EntT) (hl:l.length < 2 ^ 40):PC Tryz.prog 154 [ents l,.fn (.func 272) [] []] (i64 (ixE K6 l)):=by
 refine a7 hm Tryz.func154 (by kernel_rfl) ?_
 conv=>whnf
 refine Or.inr ⟨Nat,[8],[],[],fun k=>[i64 k],fun _=>[],fun _=>[],fun k=>l.length - k,fun k=>k<=l.length/\∀ m,m < k->K6 (l.getD m ent0)=false,?_⟩
 conv=>whnf
 refine ⟨⟨0,?_⟩,?_⟩
 ·(conv=>whnf)
  exact ⟨⟨⟨Nat.zero_le _,fun i hi=>absurd hi (Nat.not_lt_zero i)⟩,rfl,rfl,rfl⟩,by kernel_rfl,by kernel_rfl⟩
 intro k hk
 conv=>whnf
 refine ⟨fun h => ?_,fun h => ?_⟩
 ·have h:=of_decide_eq_true h
  have hkk:k < l.length:=by omega
  conv=>whnf
  refine ⟨⟨by omega,by omega⟩,?_⟩
  conv=>whnf
  rw [show Int.toNat (k:Int)=k from rfl]
  (repeat' (first|(refine ⟨_,by first | exact a1D _,?_⟩; (conv=>whnf)) | (refine Or.inl ?_; (conv=>whnf); refine ⟨_,by first | exact a1D _,?_⟩; (conv=>whnf)) | (refine Or.inl ?_; (conv=>whnf); refine ⟨false,?_⟩; (conv=>whnf); refine ⟨_,by first | exact a1D _,?_⟩; (conv=>whnf)) | (refine ⟨by kernel_rfl,?_⟩; (conv=>whnf)) | fail))
  refine ⟨fun q1 => ?_,fun q1 => ?_⟩
  ·(conv=>whnf)
   exact congrArg i64 (a9H hkk q1 hk.2).symm
  ·refine ⟨k + 1,?_⟩
   conv=>whnf
   refine ⟨⟨⟨?_,?_,?_⟩,?_,rfl,rfl⟩,by kernel_rfl,by kernel_rfl⟩
   ·show l.length - (k + 1) < l.length - k; omega
   ·omega
   ·intro m h2
    by_cases e:m=k
    ·subst e; exact q1
    ·exact hk.2 m (by omega)
   ·rw [w64 _ (by omega) (by omega)]; rfl
 ·have h:=of_decide_eq_false h
  conv=>whnf
  exact congrArg i64 (a7g fun m h2=>hk.2 m (by omega)).symm
def rcdG (b:BooksT):GauT:=(b.recipes.getD (p9 b.recipes) rec0).gauge
def rcdX (b:BooksT) (part:Int) (profile:List Int):EntT:=⟨b.next,p9 b.recipes,part,profile,(meaF (rcdG b) profile).2.1,false⟩
def rcdL (b:BooksT):List EntT:=if (b.log.length:Int)=b.keep then a08 b.log (b.log.findIdx K6) else b.log
def rcdB (b:BooksT) (part:Int) (profile:List Int):BooksT:=⟨b.keep,b.users,b.recipes,b.next + 1,rcdL b++[rcdX b part profile]⟩
def rcdE (b:BooksT) (part:Int) (profile:List Int):Int :=
 if chkB b then (if ¬(0<=part/\part<=1099511627776) then 2 else if ¬b.recipes.any A7=true then 102 else if ¬(meaF (rcdG b) profile).2.2=0 then (meaF (rcdG b) profile).2.2 else
  if ((b.log.length:Int)=b.keep/\¬b.log.any K6=true)∨b.next=1099511627776 then 9 else 0) else 8
theorem a1E {b:BooksT} {part:Int} {profile:List Int} (h:rcdE b part profile=0):chkB b=true/\(0<=part/\part<=1099511627776)/\b.recipes.any A7=true/\(meaF (rcdG b) profile).2.2=0/\((b.log.length:Int)=b.keep->b.log.any K6=true)/\¬b.next=1099511627776:=by
 unfold rcdE at h
 by_cases h1:chkB b=true
 ·rw [if_pos h1] at h
  by_cases h2:0<=part/\part<=1099511627776
  ·rw [if_neg (fun q=>q h2)] at h
   by_cases h3:b.recipes.any A7=true
   ·rw [if_neg (fun q=>q h3)] at h
    by_cases h4:(meaF (rcdG b) profile).2.2=0
    ·rw [if_neg (fun q=>q h4)] at h
     by_cases h5:((b.log.length:Int)=b.keep/\¬b.log.any K6=true)∨b.next=1099511627776
     ·rw [if_pos h5] at h; cases h
     ·exact ⟨h1,h2,h3,h4,fun e=>Decidable.byContradiction fun q=>h5 (.inl ⟨e,q⟩),fun e=>h5 (.inr e)⟩
    ·rw [if_pos h4] at h; exact absurd h h4
   ·rw [if_pos h3] at h; cases h
  ·rw [if_pos h2] at h; cases h
 ·rw [if_neg h1] at h; cases h
theorem a4B {l:List EntT} {i:Nat} (hi:i < l.length):(a08 l i).length=l.length - 1:=by
 unfold a08
 simp
 omega
theorem a7m {b:BooksT} (h:chkB b=true):0<=b.next/\b.next<=1099511627776:=by
 simp only [chkB,U5,n8,Bool.and_eq_true,decide_eq_true_eq] at h
 omega
theorem a8O:Sub .ff (.bool false):=fun F w v h=>by cases h; exact .bool _
theorem H6 {xs ys:List AV} (hl:xs.length=ys.length) (h:∀ i,i < xs.length->Sub (xs.getD i .any) (ys.getD i .any)):Sub (.agg xs) (.agg ys)/\Sub (.tup xs) (.tup ys):=by
 constructor
 ·intro F w v hv
  cases hv with
  | agg h1 h2=>exact .agg (by rw [<- hl]; exact h1) fun i hi=>h i (by omega) _ _ _ (h2 i (by omega))
 ·intro F w v hv
  cases hv with
  | tup h1 h2=>exact .tup (by rw [<- hl]; exact h1) fun i hi=>h i (by omega) _ _ _ (h2 i (by omega))
abbrev entZ:AV := .agg [i64 0,i64 0,i64 0,.nils,u8 0,.ff]
theorem a5Z (b:BooksT) (o:Okay b) (part:Int) (profile:List Int) (hp:profile.length < 2 ^ 20) (h:rcdE b part profile=0) :
  PC Tryz.prog 225 [bks b,i64 part,ints profile] (.tup [bks (rcdB b part profile),.agg [i64 b.next,i64 (p9 b.recipes),i64 part,ints profile,u8 (meaF (rcdG b) profile).2.1,.ff],i64 0]):=by
 obtain ⟨hc,hpt,ha,hm0,hfull,hnx⟩:=a1E h
 clear h
 have s:=u4 hc
 have cl:PC Tryz.prog 129 [ints profile] (ints profile):=(R9 profile hp).toPC 6 (by kernel_rfl)
 have nx:=a7m hc
 have c1:PC Tryz.prog 105 [i64 0,i64 1099511627776,i64 part] (.bool (decide (0<=part) && decide (part<=1099511627776))):=y0 0 _ part
 have c2:=a4w b o
 have hN:actN b=p9 b.recipes:=by unfold actN; rw [if_pos hc,if_pos ha]
 have hE:actE b=0:=by unfold actE; rw [if_pos hc,if_pos ha]
 rw [hN,hE] at c2
 have c3:=a0G (b.recipes.getD (p9 b.recipes) rec0).gauge profile (lt40 hp)
 have hm1:(meaF (b.recipes.getD (p9 b.recipes) rec0).gauge profile).2.2=0:=hm0
 rw [hm1] at c3
 have hA:=D8 ha
 have c4:=a4A b.log (lt40 o.l)
 unfold ixE at c4
 have w1:IntKind.i64.wrap (b.next + 1)=b.next + 1:=w64 _ (by omega) (by omega)
 unfold rcdB rcdX rcdL rcdG
 generalize p9 b.recipes=n at *
 by_cases hf:(b.log.length:Int)=b.keep
 ·have hfr:=hfull hf
  rw [if_pos hfr] at c4
  rw [if_pos hf]
  have hi:=a0r hfr
  generalize b.log.findIdx K6=i at *
  have hdl:=a4B hi
  have w2:IntKind.i64.wrap ((i:Int) + 1)=(i:Int) + 1:=w64 _ (by omega) (by omega)
  refine a7 hm Tryz.func225 (by kernel_rfl) ?_
  conv=>whnf
  (refine Or.inr ⟨[ ],[ 22,19,20,21 ],by kernel_rfl,?_⟩; (conv=>whnf); refine ⟨[ ],_,_,_,_,⟨ J7 b o hc,rfl,rfl,by kernel_rfl⟩,?_⟩)
  conv=>whnf
  (repeat' ((first|refine ansT ?_|refine ansF ?_|refine ansD (by first|(simp [*];done)|omega) ?_ | refine ansN (by first|(simp [*];done)|omega) ?_ | refine ⟨by kernel_rfl,?_⟩ | refine ansB (by decide) (by first | decide | (simp; done) | (simp only [List.length_cons,List.length_nil]; decide)) ?_|fail);conv=>whnf))
  (repeat' first|(refine ansS (fun hh=>?_) (fun hh=>?_)<;>(try simp only [ansX] at hh)<;>first|(exfalso;first|omega|(simp [*] at hh;done)|(revert hh;decide))|exact absurd (by assumption) hh|conv=>whnf)|((first|refine kR ?_|refine aB ?_|refine aL ?_|refine aN ?_|((try (refine Or.inl ?_;conv=>whnf));(try (refine ⟨false,?_⟩;conv=>whnf));refine ⟨_,by first | exact c1 | exact c2 | exact c3,?_⟩)|fail);conv=>whnf))
  refine ⟨hA,?_⟩
  conv=>whnf
  (repeat' first|(refine ansS (fun hh=>?_) (fun hh=>?_)<;>(try simp only [ansX] at hh)<;>first|(exfalso;first|omega|(simp [*] at hh;done)|(revert hh;decide))|exact absurd (by assumption) hh|conv=>whnf)|((first|refine kR ?_|refine aB ?_|refine aL ?_|refine aN ?_|((try (refine Or.inl ?_;conv=>whnf));(try (refine ⟨false,?_⟩;conv=>whnf));refine ⟨_,by first | exact c3 | exact c4,?_⟩)|fail);conv=>whnf))
  rw [w2]
  (refine Or.inr ⟨[ ],[ 94 ],by kernel_rfl,?_⟩; (conv=>whnf); refine ⟨[ 21 ],_,_,_,_,⟨ a9I b.log i hi,rfl,rfl,by kernel_rfl⟩,?_⟩)
  conv=>whnf
  (repeat' first|(refine ansS (fun hh=>?_) (fun hh=>?_)<;>(try simp only [ansX] at hh)<;>first|(exfalso;first|omega|(simp [*] at hh;done)|(revert hh;decide))|exact absurd (by assumption) hh|conv=>whnf)|((first|refine kR ?_|refine aB ?_|refine aL ?_|refine aN ?_|((try (refine Or.inl ?_;conv=>whnf));(try (refine ⟨false,?_⟩;conv=>whnf));refine ⟨_,by exact cl,?_⟩)|fail);conv=>whnf))
  refine ⟨⟨EntT,6,ent0,eEnt,a08 b.log i⟩,[⟨b.next,n,part,profile,(meaF (b.recipes.getD n rec0).gauge profile).2.1,false⟩],rfl,rfl,⟨rfl,rfl⟩,?_,?_,fun y _=>⟨rfl,rfl,rfl⟩,?_⟩
  ·show ((a08 b.log i).length + 1) * 56<=_; omega
  ·show (a08 b.log i).length + 1<=_; omega
  conv=>whnf
  (repeat' first|(refine ansS (fun hh=>?_) (fun hh=>?_)<;>(try simp only [ansX] at hh)<;>first|(exfalso;first|omega|(simp [*] at hh;done)|(revert hh;decide))|exact absurd (by assumption) hh|conv=>whnf)|((first|refine kR ?_|refine aB ?_|refine aL ?_|refine aN ?_|((try (refine Or.inl ?_;conv=>whnf));(try (refine ⟨false,?_⟩;conv=>whnf));refine ⟨_,by exact cl,?_⟩)|fail);conv=>whnf))
  all_goals (first | rfl | (rw [w1]; rfl))
 ·rw [if_neg hf]
  refine a7 hm Tryz.func225 (by kernel_rfl) ?_
  conv=>whnf
  (refine Or.inr ⟨[ ],[ 22,19,20,21 ],by kernel_rfl,?_⟩; (conv=>whnf); refine ⟨[ ],_,_,_,_,⟨ J7 b o hc,rfl,rfl,by kernel_rfl⟩,?_⟩)
  conv=>whnf
  (repeat' ((first|refine ansT ?_|refine ansF ?_|refine ansD (by first|(simp [*];done)|omega) ?_ | refine ansN (by first|(simp [*];done)|omega) ?_ | refine ⟨by kernel_rfl,?_⟩ | refine ansB (by decide) (by first | decide | (simp; done) | (simp only [List.length_cons,List.length_nil]; decide)) ?_|fail);conv=>whnf))
  (repeat' first|(refine ansS (fun hh=>?_) (fun hh=>?_)<;>(try simp only [ansX] at hh)<;>first|(exfalso;first|omega|(simp [*] at hh;done)|(revert hh;decide))|exact absurd (by assumption) hh|conv=>whnf)|((first|refine kR ?_|refine aB ?_|refine aL ?_|refine aN ?_|((try (refine Or.inl ?_;conv=>whnf));(try (refine ⟨false,?_⟩;conv=>whnf));refine ⟨_,by first | exact c1 | exact c2 | exact c3,?_⟩)|fail);conv=>whnf))
  refine ⟨hA,?_⟩
  conv=>whnf
  (repeat' first|(refine ansS (fun hh=>?_) (fun hh=>?_)<;>(try simp only [ansX] at hh)<;>first|(exfalso;first|omega|(simp [*] at hh;done)|(revert hh;decide))|exact absurd (by assumption) hh|conv=>whnf)|((first|refine kR ?_|refine aB ?_|refine aL ?_|refine aN ?_|((try (refine Or.inl ?_;conv=>whnf));(try (refine ⟨false,?_⟩;conv=>whnf));refine ⟨_,by exact c3,?_⟩)|fail);conv=>whnf))
  (repeat' first|(refine ansS (fun hh=>?_) (fun hh=>?_)<;>(try simp only [ansX] at hh)<;>first|(exfalso;first|omega|(simp [*] at hh;done)|(revert hh;decide))|exact absurd (by assumption) hh|conv=>whnf)|((first|refine kR ?_|refine aB ?_|refine aL ?_|refine aN ?_|((try (refine Or.inl ?_;conv=>whnf));(try (refine ⟨false,?_⟩;conv=>whnf));refine ⟨_,by exact cl,?_⟩)|fail);conv=>whnf))
  refine ⟨⟨EntT,6,ent0,eEnt,b.log⟩,[⟨b.next,n,part,profile,(meaF (b.recipes.getD n rec0).gauge profile).2.1,false⟩],rfl,rfl,⟨rfl,rfl⟩,?_,?_,fun y _=>⟨rfl,rfl,rfl⟩,?_⟩
  ·show (b.log.length + 1) * 56<=_; omega
  ·show b.log.length + 1<=_; omega
  conv=>whnf
  (repeat' first|(refine ansS (fun hh=>?_) (fun hh=>?_)<;>(try simp only [ansX] at hh)<;>first|(exfalso;first|omega|(simp [*] at hh;done)|(revert hh;decide))|exact absurd (by assumption) hh|conv=>whnf)|((first|refine kR ?_|refine aB ?_|refine aL ?_|refine aN ?_|((try (refine Or.inl ?_;conv=>whnf));(try (refine ⟨false,?_⟩;conv=>whnf));refine ⟨_,by exact cl,?_⟩)|fail);conv=>whnf))
  all_goals (first | rfl | (rw [w1]; rfl))
theorem a7n (b:BooksT) (o:Okay b) (part:Int) (profile:List Int) (hp:profile.length < 2 ^ 20) (h:rcdE b part profile=0) :
  PC Tryz.prog 225 [bks b,i64 part,ints profile] (.tup [bks (rcdB b part profile),ent (rcdX b part profile),i64 0]):=by
 have e:Sub (.agg [i64 b.next,i64 (p9 b.recipes),i64 part,ints profile,u8 (meaF (rcdG b) profile).2.1,.ff]) (ent (rcdX b part profile)):=by
  refine (H6 (xs:=[i64 b.next,i64 (p9 b.recipes),i64 part,ints profile,u8 (meaF (rcdG b) profile).2.1,.ff]) (ys:=eEnt (rcdX b part profile)) rfl fun i hi => ?_).1
  match i with
  | 0=>exact .refl _
  | 1=>exact .refl _
  | 2=>exact .refl _
  | 3=>exact .refl _
  | 4=>exact .refl _
  | 5=>exact a8O
  | (n + 6)=>exact .refl _
 refine (a5Z b o part profile hp h).sub rfl (fun i hi => .refl _) ?_
 refine (H6 (xs:=[bks (rcdB b part profile),.agg [i64 b.next,i64 (p9 b.recipes),i64 part,ints profile,u8 (meaF (rcdG b) profile).2.1,.ff],i64 0]) (ys:=[bks (rcdB b part profile),ent (rcdX b part profile),i64 0]) rfl fun i hi => ?_).2
 match i with
 | 0=>exact .refl _
 | 1=>exact e
 | 2=>exact .refl _
 | (n + 3)=>exact .refl _
theorem a50 (b:BooksT) (o:Okay b) (part:Int) (profile:List Int) (hp:profile.length < 2 ^ 20) (h:¬rcdE b part profile=0) :
  PC Tryz.prog 225 [bks b,i64 part,ints profile] (.tup [newB 0,entZ,i64 (rcdE b part profile)]):=by
 by_cases hc:chkB b=true
 ·unfold rcdE at h ⊢
  rw [if_pos hc] at h ⊢
  have s:=u4 hc
  have nx:=a7m hc
  have c1:PC Tryz.prog 105 [i64 0,i64 1099511627776,i64 part] (.bool (decide (0<=part) && decide (part<=1099511627776))):=y0 0 _ part
  by_cases hpt:0<=part/\part<=1099511627776
  ·rw [if_neg (fun q=>q hpt)] at h ⊢
   have c2:=a4w b o
   by_cases ha:b.recipes.any A7=true
   ·rw [if_neg (fun q=>q ha)] at h ⊢
    have hN:actN b=p9 b.recipes:=by unfold actN; rw [if_pos hc,if_pos ha]
    have hE:actE b=0:=by unfold actE; rw [if_pos hc,if_pos ha]
    rw [hN,hE] at c2
    have hA:=D8 ha
    have c3:=a0G (b.recipes.getD (p9 b.recipes) rec0).gauge profile (lt40 hp)
    unfold rcdG at h ⊢
    generalize p9 b.recipes=n at *
    by_cases hm0:(meaF (b.recipes.getD n rec0).gauge profile).2.2=0
    ·rw [if_neg (fun q=>q hm0)] at h ⊢
     have h9:((b.log.length:Int)=b.keep/\¬b.log.any K6=true)∨b.next=1099511627776:=Decidable.byContradiction fun q=>h (if_neg q)
     rw [if_pos h9]
     rw [hm0] at c3
     clear h
     have c4:=a4A b.log (lt40 o.l)
     unfold ixE at c4
     by_cases hf:(b.log.length:Int)=b.keep
     ·by_cases hfr:b.log.any K6=true
      ·have hnx:b.next=1099511627776:=by
        rcases h9 with q | q
        ·exact absurd hfr q.2
        ·exact q
       clear h9
       rw [if_pos hfr] at c4
       have hi:=a0r hfr
       generalize b.log.findIdx K6=i at *
       have w2:IntKind.i64.wrap ((i:Int) + 1)=(i:Int) + 1:=w64 _ (by omega) (by omega)
       refine a7 hm Tryz.func225 (by kernel_rfl) ?_
       conv=>whnf
       (refine Or.inr ⟨[ ],[ 22,19,20,21 ],by kernel_rfl,?_⟩; (conv=>whnf); refine ⟨[ ],_,_,_,_,⟨ J7 b o hc,rfl,rfl,by kernel_rfl⟩,?_⟩)
       conv=>whnf
       (repeat' ((first|refine ansT ?_|refine ansF ?_|refine ansD (by first|(simp [*];done)|omega) ?_ | refine ansN (by first|(simp [*];done)|omega) ?_ | refine ⟨by kernel_rfl,?_⟩ | refine ansB (by decide) (by first | decide | (simp; done) | (simp only [List.length_cons,List.length_nil]; decide)) ?_|fail);conv=>whnf))
       (repeat' first|(refine ansS (fun hh=>?_) (fun hh=>?_)<;>(try simp only [ansX] at hh)<;>first|(exfalso;first|omega|(simp [*] at hh;done)|(revert hh;decide))|exact absurd (by assumption) hh|conv=>whnf)|((first|refine kR ?_|refine aB ?_|refine aL ?_|refine aN ?_|((try (refine Or.inl ?_;conv=>whnf));(try (refine ⟨false,?_⟩;conv=>whnf));refine ⟨_,by first | exact c1 | exact c2 | exact c3,?_⟩)|fail);conv=>whnf))
       refine ⟨hA,?_⟩
       conv=>whnf
       (repeat' first|(refine ansS (fun hh=>?_) (fun hh=>?_)<;>(try simp only [ansX] at hh)<;>first|(exfalso;first|omega|(simp [*] at hh;done)|(revert hh;decide))|exact absurd (by assumption) hh|conv=>whnf)|((first|refine kR ?_|refine aB ?_|refine aL ?_|refine aN ?_|((try (refine Or.inl ?_;conv=>whnf));(try (refine ⟨false,?_⟩;conv=>whnf));refine ⟨_,by first | exact c3 | exact c4,?_⟩)|fail);conv=>whnf))
       rw [w2]
       (refine Or.inr ⟨[ ],[ 94 ],by kernel_rfl,?_⟩; (conv=>whnf); refine ⟨[ 21 ],_,_,_,_,⟨ a9I b.log i hi,rfl,rfl,by kernel_rfl⟩,?_⟩)
       conv=>whnf
       (repeat' first|(refine ansS (fun hh=>?_) (fun hh=>?_)<;>(try simp only [ansX] at hh)<;>first|(exfalso;first|omega|(simp [*] at hh;done)|(revert hh;decide))|exact absurd (by assumption) hh|conv=>whnf)|((first|refine kR ?_|refine aB ?_|refine aL ?_|refine aN ?_|fail);conv=>whnf))
       all_goals rfl
      ·rw [if_neg hfr] at c4
       clear h9
       refine a7 hm Tryz.func225 (by kernel_rfl) ?_
       conv=>whnf
       (refine Or.inr ⟨[ ],[ 22,19,20,21 ],by kernel_rfl,?_⟩; (conv=>whnf); refine ⟨[ ],_,_,_,_,⟨ J7 b o hc,rfl,rfl,by kernel_rfl⟩,?_⟩)
       conv=>whnf
       (repeat' ((first|refine ansT ?_|refine ansF ?_|refine ansD (by first|(simp [*];done)|omega) ?_ | refine ansN (by first|(simp [*];done)|omega) ?_ | refine ⟨by kernel_rfl,?_⟩ | refine ansB (by decide) (by first | decide | (simp; done) | (simp only [List.length_cons,List.length_nil]; decide)) ?_|fail);conv=>whnf))
       (repeat' first|(refine ansS (fun hh=>?_) (fun hh=>?_)<;>(try simp only [ansX] at hh)<;>first|(exfalso;first|omega|(simp [*] at hh;done)|(revert hh;decide))|exact absurd (by assumption) hh|conv=>whnf)|((first|refine kR ?_|refine aB ?_|refine aL ?_|refine aN ?_|((try (refine Or.inl ?_;conv=>whnf));(try (refine ⟨false,?_⟩;conv=>whnf));refine ⟨_,by first | exact c1 | exact c2 | exact c3,?_⟩)|fail);conv=>whnf))
       refine ⟨hA,?_⟩
       conv=>whnf
       (repeat' first|(refine ansS (fun hh=>?_) (fun hh=>?_)<;>(try simp only [ansX] at hh)<;>first|(exfalso;first|omega|(simp [*] at hh;done)|(revert hh;decide))|exact absurd (by assumption) hh|conv=>whnf)|((first|refine kR ?_|refine aB ?_|refine aL ?_|refine aN ?_|((try (refine Or.inl ?_;conv=>whnf));(try (refine ⟨false,?_⟩;conv=>whnf));refine ⟨_,by first | exact c3 | exact c4,?_⟩)|fail);conv=>whnf))
       all_goals rfl
     ·have hnx:b.next=1099511627776:=by
       rcases h9 with q | q
       ·exact absurd q.1 hf
       ·exact q
      clear h9
      refine a7 hm Tryz.func225 (by kernel_rfl) ?_
      conv=>whnf
      (refine Or.inr ⟨[ ],[ 22,19,20,21 ],by kernel_rfl,?_⟩; (conv=>whnf); refine ⟨[ ],_,_,_,_,⟨ J7 b o hc,rfl,rfl,by kernel_rfl⟩,?_⟩)
      conv=>whnf
      (repeat' ((first|refine ansT ?_|refine ansF ?_|refine ansD (by first|(simp [*];done)|omega) ?_ | refine ansN (by first|(simp [*];done)|omega) ?_ | refine ⟨by kernel_rfl,?_⟩ | refine ansB (by decide) (by first | decide | (simp; done) | (simp only [List.length_cons,List.length_nil]; decide)) ?_|fail);conv=>whnf))
      (repeat' first|(refine ansS (fun hh=>?_) (fun hh=>?_)<;>(try simp only [ansX] at hh)<;>first|(exfalso;first|omega|(simp [*] at hh;done)|(revert hh;decide))|exact absurd (by assumption) hh|conv=>whnf)|((first|refine kR ?_|refine aB ?_|refine aL ?_|refine aN ?_|((try (refine Or.inl ?_;conv=>whnf));(try (refine ⟨false,?_⟩;conv=>whnf));refine ⟨_,by first | exact c1 | exact c2 | exact c3,?_⟩)|fail);conv=>whnf))
      refine ⟨hA,?_⟩
      conv=>whnf
      (repeat' first|(refine ansS (fun hh=>?_) (fun hh=>?_)<;>(try simp only [ansX] at hh)<;>first|(exfalso;first|omega|(simp [*] at hh;done)|(revert hh;decide))|exact absurd (by assumption) hh|conv=>whnf)|((first|refine kR ?_|refine aB ?_|refine aL ?_|refine aN ?_|((try (refine Or.inl ?_;conv=>whnf));(try (refine ⟨false,?_⟩;conv=>whnf));refine ⟨_,by exact c3,?_⟩)|fail);conv=>whnf))
      (repeat' first|(refine ansS (fun hh=>?_) (fun hh=>?_)<;>(try simp only [ansX] at hh)<;>first|(exfalso;first|omega|(simp [*] at hh;done)|(revert hh;decide))|exact absurd (by assumption) hh|conv=>whnf)|((first|refine kR ?_|refine aB ?_|refine aL ?_|refine aN ?_|fail);conv=>whnf))
      all_goals rfl
    ·rw [if_pos hm0]
     clear h
     refine a7 hm Tryz.func225 (by kernel_rfl) ?_
     conv=>whnf
     (refine Or.inr ⟨[ ],[ 22,19,20,21 ],by kernel_rfl,?_⟩; (conv=>whnf); refine ⟨[ ],_,_,_,_,⟨ J7 b o hc,rfl,rfl,by kernel_rfl⟩,?_⟩)
     conv=>whnf
     (repeat' ((first|refine ansT ?_|refine ansF ?_|refine ansD (by first|(simp [*];done)|omega) ?_ | refine ansN (by first|(simp [*];done)|omega) ?_ | refine ⟨by kernel_rfl,?_⟩ | refine ansB (by decide) (by first | decide | (simp; done) | (simp only [List.length_cons,List.length_nil]; decide)) ?_|fail);conv=>whnf))
     (repeat' first|(refine ansS (fun hh=>?_) (fun hh=>?_)<;>(try simp only [ansX] at hh)<;>first|(exfalso;first|omega|(simp [*] at hh;done)|(revert hh;decide))|exact absurd (by assumption) hh|conv=>whnf)|((first|refine kR ?_|refine aB ?_|refine aL ?_|refine aN ?_|((try (refine Or.inl ?_;conv=>whnf));(try (refine ⟨false,?_⟩;conv=>whnf));refine ⟨_,by first | exact c1 | exact c2 | exact c3,?_⟩)|fail);conv=>whnf))
     refine ⟨hA,?_⟩
     conv=>whnf
     (repeat' first|(refine ansS (fun hh=>?_) (fun hh=>?_)<;>(try simp only [ansX] at hh)<;>first|(exfalso;first|omega|(simp [*] at hh;done)|(revert hh;decide))|exact absurd (by assumption) hh|conv=>whnf)|((first|refine kR ?_|refine aB ?_|refine aL ?_|refine aN ?_|((try (refine Or.inl ?_;conv=>whnf));(try (refine ⟨false,?_⟩;conv=>whnf));refine ⟨_,by exact c3,?_⟩)|fail);conv=>whnf))
     all_goals rfl
   ·rw [if_pos ha]
    have hE:actE b=102:=by unfold actE; rw [if_pos hc,if_neg ha]
    rw [hE] at c2
    clear h
    refine a7 hm Tryz.func225 (by kernel_rfl) ?_
    conv=>whnf
    (refine Or.inr ⟨[ ],[ 22,19,20,21 ],by kernel_rfl,?_⟩; (conv=>whnf); refine ⟨[ ],_,_,_,_,⟨ J7 b o hc,rfl,rfl,by kernel_rfl⟩,?_⟩)
    conv=>whnf
    (repeat' ((first|refine ansT ?_|refine ansF ?_|refine ansD (by first|(simp [*];done)|omega) ?_ | refine ansN (by first|(simp [*];done)|omega) ?_ | refine ⟨by kernel_rfl,?_⟩ | refine ansB (by decide) (by first | decide | (simp; done) | (simp only [List.length_cons,List.length_nil]; decide)) ?_|fail);conv=>whnf))
    (repeat' first|(refine ansS (fun hh=>?_) (fun hh=>?_)<;>(try simp only [ansX] at hh)<;>first|(exfalso;first|omega|(simp [*] at hh;done)|(revert hh;decide))|exact absurd (by assumption) hh|conv=>whnf)|((first|refine kR ?_|refine aB ?_|refine aL ?_|refine aN ?_|((try (refine Or.inl ?_;conv=>whnf));(try (refine ⟨false,?_⟩;conv=>whnf));refine ⟨_,by first | exact c1 | exact c2,?_⟩)|fail);conv=>whnf))
    all_goals rfl
  ·rw [if_pos hpt]
   clear h
   refine a7 hm Tryz.func225 (by kernel_rfl) ?_
   conv=>whnf
   (refine Or.inr ⟨[ ],[ 22,19,20,21 ],by kernel_rfl,?_⟩; (conv=>whnf); refine ⟨[ ],_,_,_,_,⟨ J7 b o hc,rfl,rfl,by kernel_rfl⟩,?_⟩)
   conv=>whnf
   (repeat' ((first|refine ansT ?_|refine ansF ?_|refine ansD (by first|(simp [*];done)|omega) ?_ | refine ansN (by first|(simp [*];done)|omega) ?_ | refine ⟨by kernel_rfl,?_⟩ | refine ansB (by decide) (by first | decide | (simp; done) | (simp only [List.length_cons,List.length_nil]; decide)) ?_|fail);conv=>whnf))
   (repeat' first|(refine ansS (fun hh=>?_) (fun hh=>?_)<;>(try simp only [ansX] at hh)<;>first|(exfalso;first|omega|(simp [*] at hh;done)|(revert hh;decide))|exact absurd (by assumption) hh|conv=>whnf)|((first|refine kR ?_|refine aB ?_|refine aL ?_|refine aN ?_|((try (refine Or.inl ?_;conv=>whnf));(try (refine ⟨false,?_⟩;conv=>whnf));refine ⟨_,by exact c1,?_⟩)|fail);conv=>whnf))
   all_goals rfl
 ·have hc2:chkB b=false:=by simpa using hc
  have c:=G0 b o hc2
  unfold rcdE
  rw [if_neg hc]
  refine a7 hm Tryz.func225 (by kernel_rfl) ?_
  conv=>whnf
  (repeat' ((first | refine ansT ?_ | refine ansF ?_|((try (refine Or.inl ?_;conv=>whnf));(try (refine ⟨false,?_⟩;conv=>whnf));refine ⟨_,by exact c,?_⟩) | refine ansD (by first|(simp [*];done)|omega) ?_ | refine ansN (by first|(simp [*];done)|omega) ?_ | refine ⟨by kernel_rfl,?_⟩ | refine ansB (by decide) (by first | decide | (simp; done) | (simp only [List.length_cons,List.length_nil]; decide)) ?_|fail);conv=>whnf))
  all_goals rfl
def b5z:List Int:=[0,0,100,100,0]
def a3j (lo hi:Int):GauT:=((((50,0),((1,1),(1,1))),(lo,1)),(hi,1))
def tB0:BooksT:=⟨2,[],[],0,[]⟩
def tB1:BooksT:=⟨2,[2],[],0,[]⟩
def tB2:BooksT:=⟨2,[2,2],[],0,[]⟩
def tB3:BooksT:=⟨2,[2,2,3],[],0,[]⟩
def tB4:BooksT:=⟨2,[2,2,3,1],[],0,[]⟩
def tB5:BooksT:=⟨2,[2,2,3,1],[⟨0,a3j 1 3,[],1⟩],0,[]⟩
def tB6:BooksT:=⟨2,[2,2,3,1],[⟨0,a3j 1 3,[1],1⟩],0,[]⟩
def tB7:BooksT:=⟨2,[2,2,3,1],[⟨0,a3j 1 3,[1,2],2⟩],0,[]⟩
def tB8:BooksT:=⟨2,[2,2,3,1],[⟨0,a3j 1 3,[1,2],3⟩],0,[]⟩
def tX (q part:Int) (is:Bool):EntT:=⟨q,0,part,b5z,1,is⟩
def tL (next:Int) (l:List EntT):BooksT:=⟨2,[2,2,3,1],[⟨0,a3j 1 3,[1,2],3⟩],next,l⟩
structure ActT where
 kind:Int
 user:Int
 number:Int
 role:Int
 gauge:GauT
 profile:List Int
def eAct (a:ActT):List AV:=[u8 a.kind,i64 a.user,i64 a.number,u8 a.role,i64 (gThr a.gauge),i64 (gNoi a.gauge),i64 (gSc a.gauge).1.1,i64 (gSc a.gauge).1.2,i64 (gSc a.gauge).2.1,i64 (gSc a.gauge).2.2,i64 a.gauge.1.2.1,i64 a.gauge.1.2.2,i64 a.gauge.2.1,i64 a.gauge.2.2,ints a.profile]
abbrev act (a:ActT):AV := .agg (eAct a)
def knd (a:ActT):Int:=a.kind.tmod 8
def doE (b:BooksT) (a:ActT):Int :=
 if knd a=0 then addE b a.role else if knd a=1 then drfE b a.user a.gauge else if knd a=2 then apvE b a.user a.number else if knd a=3 then N6 b a.user a.number else if knd a=4 then retE b a.user else if knd a=5 then rcdE b a.number a.profile else if knd a=6 then disE b a.user a.number else setE b a.user a.number
def doB (b:BooksT) (a:ActT):BooksT :=
 if knd a=0 then addU b a.role else if knd a=1 then drfB b a.user a.gauge else if knd a=2 then apvB b a.user a.number else if knd a=3 then Y0 b a.number else if knd a=4 then retB b (p9 b.recipes) else if knd a=5 then rcdB b a.number a.profile else if knd a=6 then mrkB b a.number true else mrkB b a.number false

end Go.Proofs.Tryz.My
