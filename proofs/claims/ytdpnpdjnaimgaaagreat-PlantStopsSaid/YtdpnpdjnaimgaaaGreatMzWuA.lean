/- Helper lemmas. -/
import Derived.Test.YtdpnpdjnaimgaaaGreatMzWzA
import Derived.Test.YtdpnpdjnaimgaaaGreatMzWtC
set_option linter.unusedVariables false
set_option linter.unusedSimpArgs false
set_option maxRecDepth 100000
set_option maxHeartbeats 0
namespace Go.Proofs.Tryz.My
open Go Go.Ev
def uk (p:G2):List AV:=[u8 p.ord.kind,i64 p.ord.j8,i64 p.ord.a7,i64 p.ord.n,u8 p.ord.j9,i64 (H8 p.ord.b9),i64 (D9 p.ord.b9),i64 (J5 p.ord.b9).1.1,i64 (J5 p.ord.b9).1.2,i64 (J5 p.ord.b9).2.1,i64 (J5 p.ord.b9).2.2,i64 p.ord.b9.1.2.1,i64 p.ord.b9.1.2.2,i64 p.ord.b9.2.1,i64 p.ord.b9.2.2,C8 p.ord.tru,C8 p.ord.a8,
 i64 (H8 p.b9),i64 (D9 p.b9),i64 (J5 p.b9).1.1,i64 (J5 p.b9).1.2,i64 (J5 p.b9).2.1,i64 (J5 p.b9).2.2,i64 p.b9.1.2.1,i64 p.b9.1.2.2,i64 p.b9.2.1,i64 p.b9.2.2,u8 p.o6,i64 p.seq]
abbrev zwC:List AV:=[i64 0,i64 0,i64 0,i64 0,i64 0,i64 0,i64 0,i64 0,i64 0,i64 0,i64 0,i64 0,i64 0,i64 0,i64 0,i64 0,.nils,i64 0,.nils,.nils,i64 0,.nils,i64 0,i64 0,.ff,.nils]
def bkC (x y z:Nat) (b:G4):List AV:=vu b.line++([.own x,i64 b.active,.own y]++(eQ b.drift++([.own z]++zwC)))
def bkF (x y z:Nat) (b:G4) (w:n9):List AV:=vu b.line++([.own x,i64 b.active,.own y]++(eQ b.drift++([.own z]++eW w)))
abbrev tp (b:G4):Row := .vec 59 10 ao eG b.gauges
abbrev yi (b:G4):Row := .vec 113 29 A1 uk b.pieces
abbrev DY (b:G4):Row := .vec 83 5 K4 bE b.n7
abbrev tq (x y z:Nat) (b:G4):Row := .cells 111 (bkC x y z b)
def XZ (b:G4) (w:n9):List Row:=[.cells 111 (bkF 1 2 3 b w),tp b,yi b,DY b]
def Ii (b:G4):List Row:=[tq 1 2 3 b,tp b,yi b,DY b]
theorem Ij (b:G4) (w x:n9) (a:bX) (kind j8 a7 n j9:Int) (b9:x8) (tru a8:List Int) (h1:b.drift.alarm=false) (hn:a.n=(b.pieces.length:Nat)) (hx:¬w.l9.next < x.l9.next) (hp:b.pieces.length < 2 ^ 20) :
  PW Tryz.prog 140 [.ptr 0 0 0 0,Q2 kind j8 a7 n j9 b9 tru a8,jB a,eR w,eR x] (Ii b) (.bool true) [tq 1 4 3 b,tp b,.none,DY b,.vec 113 29 A1 uk (b.pieces++[⟨⟨kind,j8,a7,n,j9,b9,tru,a8⟩,ao,0,-1⟩])]:=by
 refine pW Tryz.func140 ⟨by kernel_rfl,?_⟩
 conv=>whnf
 (repeat' ((first|refine aU fun hh=>?_|refine aV fun hh=>?_|refine aS (fun hh=>?_) fun hh=>?_|refine kT ?_|fail)<;>conv=>whnf))
 refine ⟨⟨G2,29,A1,uk,b.pieces⟩,[⟨⟨kind,j8,a7,n,j9,b9,tru,a8⟩,ao,0,-1⟩],rfl,rfl,⟨rfl,rfl⟩,?_,?_,fun y _=>⟨rfl,rfl,rfl⟩,?_⟩
 ·show (b.pieces.length + 1) * 264<=_;omega
 ·show b.pieces.length + 1<=_;omega
 conv=>whnf
 (repeat' ((first|refine aU fun hh=>?_|refine aV fun hh=>?_|refine aS (fun hh=>?_) fun hh=>?_|refine kT ?_|fail)<;>conv=>whnf))
 refine ⟨[137],by kernel_rfl,?_⟩
 conv=>whnf
 first|exact ⟨rfl,rfl⟩
theorem Ik (b:G4) (w x:n9) (a:bX) (kind j8 a7 n j9:Int) (b9:x8) (tru a8:List Int) (h1:b.drift.alarm=false) (hn:a.n=(b.pieces.length:Nat)) (hx:w.l9.next < x.l9.next) (hp:b.pieces.length < 2 ^ 20) (hga:0<=b.active/\b.active < (b.gauges.length:Nat)) (ho:fJ tru a8)
  (VF:(F8 (pP b) (H4 tru a8)).2.2=0) (ht:kj b.line=true) (hd:Z4 b.drift=true) :
  PW Tryz.prog 140 [.ptr 0 0 0 0,Q2 kind j8 a7 n j9 b9 tru a8,jB a,eR w,eR x] (Ii b) (.bool true) [tq 1 4 3 ⟨b.line,b.gauges,b.active,b.pieces,sQ b.line (jb b.drift) (!decide ((F8 (pP b) (H4 tru a8)).2.1=1)),b.n7,b.world⟩,tp b,.none,DY b,.vec 113 29 A1 uk (b.pieces++[⟨⟨kind,j8,a7,n,j9,b9,tru,a8⟩,pP b,(F8 (pP b) (H4 tru a8)).2.1,w.l9.next⟩])]:=by
 have c1:=cf tru a8 ho
 have hl:=M0 ho.1
 unfold pP at VF ⊢
 have c2:=bA (b.gauges.getD b.active.toNat ao) (H4 tru a8) (by rw [aF];omega)
 rw [VF] at c2
 generalize (F8 (b.gauges.getD b.active.toNat ao) (H4 tru a8)).2.1=V at *
 by_cases hr:b.drift.rounds=500
 ·have c5:=qh b.line ht X3 jC (by decide) (!decide (V=1))
  have cs:=W7
  have ed:jb b.drift=X3:=by unfold jb;rw [if_pos hr]
  rw [ed]
  refine pW Tryz.func140 ⟨by kernel_rfl,?_⟩
  conv=>whnf
  (repeat' ((first|refine aU fun hh=>?_|refine aV fun hh=>?_|refine aS (fun hh=>?_) fun hh=>?_|refine kT ?_|((try refine Or.inl ?_;conv=>whnf);(try refine ⟨false,?_⟩;conv=>whnf);refine ⟨_,by first|exact c1|exact c2|exact cs|exact c5,?_⟩)|fail)<;>conv=>whnf))
  refine ⟨⟨G2,29,A1,uk,b.pieces⟩,[⟨⟨kind,j8,a7,n,j9,b9,tru,a8⟩,b.gauges.getD b.active.toNat ao,V,w.l9.next⟩],rfl,rfl,⟨rfl,rfl⟩,?_,?_,fun y _=>⟨rfl,rfl,rfl⟩,?_⟩
  ·show (b.pieces.length + 1) * 264<=_;omega
  ·show b.pieces.length + 1<=_;omega
  conv=>whnf
  (repeat' ((first|refine aU fun hh=>?_|refine aV fun hh=>?_|refine aS (fun hh=>?_) fun hh=>?_|refine kT ?_|fail)<;>conv=>whnf))
  refine ⟨[137],by kernel_rfl,?_⟩
  conv=>whnf
  first|exact ⟨rfl,rfl⟩
 ·have c5:=qh b.line ht b.drift hd hr (!decide (V=1))
  have ed:jb b.drift=b.drift:=by unfold jb;rw [if_neg hr]
  rw [ed]
  refine pW Tryz.func140 ⟨by kernel_rfl,?_⟩
  conv=>whnf
  (repeat' ((first|refine aU fun hh=>?_|refine aV fun hh=>?_|refine aS (fun hh=>?_) fun hh=>?_|refine kT ?_|((try refine Or.inl ?_;conv=>whnf);(try refine ⟨false,?_⟩;conv=>whnf);refine ⟨_,by first|exact c1|exact c2|exact c5,?_⟩)|fail)<;>conv=>whnf))
  refine ⟨⟨G2,29,A1,uk,b.pieces⟩,[⟨⟨kind,j8,a7,n,j9,b9,tru,a8⟩,b.gauges.getD b.active.toNat ao,V,w.l9.next⟩],rfl,rfl,⟨rfl,rfl⟩,?_,?_,fun y _=>⟨rfl,rfl,rfl⟩,?_⟩
  ·show (b.pieces.length + 1) * 264<=_;omega
  ·show b.pieces.length + 1<=_;omega
  conv=>whnf
  (repeat' ((first|refine aU fun hh=>?_|refine aV fun hh=>?_|refine aS (fun hh=>?_) fun hh=>?_|refine kT ?_|fail)<;>conv=>whnf))
  refine ⟨[137],by kernel_rfl,?_⟩
  conv=>whnf
  first|exact ⟨rfl,rfl⟩
theorem LX (b:G4) (w x:n9) (a:bX) (kind j8 a7 n j9:Int) (b9:x8) (tru a8:List Int) (he:¬a.e=0) (hE:¬kind=2∨a.e=2∨decide (a.e=101)=b.drift.alarm) (ho:b.n7.length < 2 ^ 20/\a.n7.length < 2 ^ 20):PW Tryz.prog 88 [.ptr 0 0 0 0,Q2 kind j8 a7 n j9 b9 tru a8,jB a,eR w,eR x] (Ii b) (.bool true) [tq 1 2 4 b,tp b,yi b,.none,.vec 83 5 K4 bE (b.n7++a.n7)]:=by
 refine pW Tryz.func88 ⟨by kernel_rfl,?_⟩
 conv=>whnf
 refine ⟨by kernel_rfl,?_⟩
 conv=>whnf
 refine ⟨⟨V5,5,K4,bE,b.n7⟩,a.n7,rfl,rfl,rfl,?_,?_,fun y _=>⟨rfl,rfl,rfl⟩,?_⟩
 ·show (b.n7.length + a.n7.length) * 24<=_;omega
 ·show b.n7.length + a.n7.length<=_;omega
 conv=>whnf
 (repeat' ((first|refine aU fun hh=>?_|refine aV fun hh=>?_|refine aS (fun hh=>?_) fun hh=>?_|refine kT ?_|fail)<;>conv=>whnf))
 ·refine ⟨[18],by kernel_rfl,?_⟩
  conv=>whnf
  exact ⟨rfl,rfl⟩
 ·refine ⟨[18],by kernel_rfl,?_⟩
  conv=>whnf
  exact ⟨rfl,rfl⟩
 ·rename_i q1 q2
  refine ⟨[18],by kernel_rfl,?_⟩
  conv=>whnf
  have q3:a.e=2:=by
   rcases hE with hE|hE|hE
   ·exact absurd q2 hE
   ·exact hE
   ·rw [hE] at hh;simp at hh
  have e:AV.bool (decide (a.e=2)) = .bool true:=by rw [decide_eq_true q3]
  first|exact ⟨e,rfl⟩
theorem ji (b:G4) (w x:n9) (a:bX) (kind j8 a7 n j9:Int) (b9:x8) (tru a8:List Int) (he:a.e=0) (hk:¬kind=2/\¬kind=4/\¬kind=6/\¬kind=7/\¬kind=10) (ho:b.n7.length < 2 ^ 20/\a.n7.length < 2 ^ 20):PW Tryz.prog 88 [.ptr 0 0 0 0,Q2 kind j8 a7 n j9 b9 tru a8,jB a,eR w,eR x] (Ii b) (.bool true) [tq 1 2 4 b,tp b,yi b,.none,.vec 83 5 K4 bE (b.n7++a.n7)]:=by
 have cs:=W7
 refine pW Tryz.func88 ⟨by kernel_rfl,?_⟩
 conv=>whnf
 refine ⟨by kernel_rfl,?_⟩
 conv=>whnf
 refine ⟨⟨V5,5,K4,bE,b.n7⟩,a.n7,rfl,rfl,rfl,?_,?_,fun y _=>⟨rfl,rfl,rfl⟩,?_⟩
 ·show (b.n7.length + a.n7.length) * 24<=_;omega
 ·show b.n7.length + a.n7.length<=_;omega
 conv=>whnf
 (repeat' ((first|refine aU fun hh=>?_|refine aV fun hh=>?_|refine aS (fun hh=>?_) fun hh=>?_|refine kT ?_|((try refine Or.inl ?_;conv=>whnf);(try refine ⟨false,?_⟩;conv=>whnf);refine ⟨_,by exact cs,?_⟩)|fail)<;>conv=>whnf))
 refine ⟨[18],by kernel_rfl,?_⟩
 conv=>whnf
 first|exact ⟨rfl,rfl⟩
theorem LY (b:G4) (w x:n9) (a:bX) (kind j8 a7 n j9:Int) (b9:x8) (tru a8:List Int) (he:a.e=0) (hk:kind=6) (ho:b.n7.length < 2 ^ 20/\a.n7.length < 2 ^ 20):PW Tryz.prog 88 [.ptr 0 0 0 0,Q2 kind j8 a7 n j9 b9 tru a8,jB a,eR w,eR x] (Ii b) (.bool true) [tq 1 2 4 ⟨b.line,b.gauges,a7,b.pieces,b.drift,b.n7,b.world⟩,tp b,yi b,.none,.vec 83 5 K4 bE (b.n7++a.n7)]:=by
 have cs:=W7
 refine pW Tryz.func88 ⟨by kernel_rfl,?_⟩
 conv=>whnf
 refine ⟨by kernel_rfl,?_⟩
 conv=>whnf
 refine ⟨⟨V5,5,K4,bE,b.n7⟩,a.n7,rfl,rfl,rfl,?_,?_,fun y _=>⟨rfl,rfl,rfl⟩,?_⟩
 ·show (b.n7.length + a.n7.length) * 24<=_;omega
 ·show b.n7.length + a.n7.length<=_;omega
 conv=>whnf
 (repeat' ((first|refine aU fun hh=>?_|refine aV fun hh=>?_|refine aS (fun hh=>?_) fun hh=>?_|refine kT ?_|((try refine Or.inl ?_;conv=>whnf);(try refine ⟨false,?_⟩;conv=>whnf);refine ⟨_,by exact cs,?_⟩)|fail)<;>conv=>whnf))
 refine ⟨[18],by kernel_rfl,?_⟩
 conv=>whnf
 first|exact ⟨rfl,rfl⟩
theorem LZ (b:G4) (w x:n9) (a:bX) (kind j8 a7 n j9:Int) (b9:x8) (tru a8:List Int) (he:a.e=0) (hk:kind=7) (ho:b.n7.length < 2 ^ 20/\a.n7.length < 2 ^ 20):PW Tryz.prog 88 [.ptr 0 0 0 0,Q2 kind j8 a7 n j9 b9 tru a8,jB a,eR w,eR x] (Ii b) (.bool true) [tq 1 2 4 ⟨b.line,b.gauges,-1,b.pieces,b.drift,b.n7,b.world⟩,tp b,yi b,.none,.vec 83 5 K4 bE (b.n7++a.n7)]:=by
 have cs:=W7
 refine pW Tryz.func88 ⟨by kernel_rfl,?_⟩
 conv=>whnf
 refine ⟨by kernel_rfl,?_⟩
 conv=>whnf
 refine ⟨⟨V5,5,K4,bE,b.n7⟩,a.n7,rfl,rfl,rfl,?_,?_,fun y _=>⟨rfl,rfl,rfl⟩,?_⟩
 ·show (b.n7.length + a.n7.length) * 24<=_;omega
 ·show b.n7.length + a.n7.length<=_;omega
 conv=>whnf
 (repeat' ((first|refine aU fun hh=>?_|refine aV fun hh=>?_|refine aS (fun hh=>?_) fun hh=>?_|refine kT ?_|((try refine Or.inl ?_;conv=>whnf);(try refine ⟨false,?_⟩;conv=>whnf);refine ⟨_,by exact cs,?_⟩)|fail)<;>conv=>whnf))
 refine ⟨[18],by kernel_rfl,?_⟩
 conv=>whnf
 first|exact ⟨rfl,rfl⟩
theorem Ma (b:G4) (w x:n9) (a:bX) (kind j8 a7 n j9:Int) (b9:x8) (tru a8:List Int) (he:a.e=0) (hk:kind=10) (ho:b.n7.length < 2 ^ 20/\a.n7.length < 2 ^ 20):PW Tryz.prog 88 [.ptr 0 0 0 0,Q2 kind j8 a7 n j9 b9 tru a8,jB a,eR w,eR x] (Ii b) (.bool true) [tq 1 2 4 ⟨b.line,b.gauges,b.active,b.pieces,X3,b.n7,b.world⟩,tp b,yi b,.none,.vec 83 5 K4 bE (b.n7++a.n7)]:=by
 have cs:=W7
 refine pW Tryz.func88 ⟨by kernel_rfl,?_⟩
 conv=>whnf
 refine ⟨by kernel_rfl,?_⟩
 conv=>whnf
 refine ⟨⟨V5,5,K4,bE,b.n7⟩,a.n7,rfl,rfl,rfl,?_,?_,fun y _=>⟨rfl,rfl,rfl⟩,?_⟩
 ·show (b.n7.length + a.n7.length) * 24<=_;omega
 ·show b.n7.length + a.n7.length<=_;omega
 conv=>whnf
 (repeat' ((first|refine aU fun hh=>?_|refine aV fun hh=>?_|refine aS (fun hh=>?_) fun hh=>?_|refine kT ?_|((try refine Or.inl ?_;conv=>whnf);(try refine ⟨false,?_⟩;conv=>whnf);refine ⟨_,by exact cs,?_⟩)|fail)<;>conv=>whnf))
 refine ⟨[18],by kernel_rfl,?_⟩
 conv=>whnf
 first|exact ⟨rfl,rfl⟩
theorem Mb (b:G4) (w x:n9) (a:bX) (kind j8 a7 n j9:Int) (b9:x8) (tru a8:List Int) (he:a.e=0) (hk:kind=4) (ho:b.n7.length < 2 ^ 20/\a.n7.length < 2 ^ 20) (hg:b.gauges.length < 2 ^ 20):PW Tryz.prog 88 [.ptr 0 0 0 0,Q2 kind j8 a7 n j9 b9 tru a8,jB a,eR w,eR x] (Ii b) (.bool true) [tq 4 2 5 b,.none,yi b,.none,.vec 59 10 ao eG (b.gauges++[b9]),.vec 83 5 K4 bE (b.n7++a.n7)]:=by
 refine pW Tryz.func88 ⟨by kernel_rfl,?_⟩
 conv=>whnf
 refine ⟨by kernel_rfl,?_⟩
 conv=>whnf
 refine ⟨⟨V5,5,K4,bE,b.n7⟩,a.n7,rfl,rfl,rfl,?_,?_,fun y _=>⟨rfl,rfl,rfl⟩,?_⟩
 ·show (b.n7.length + a.n7.length) * 24<=_;omega
 ·show b.n7.length + a.n7.length<=_;omega
 conv=>whnf
 (repeat' ((first|refine aU fun hh=>?_|refine aV fun hh=>?_|refine aS (fun hh=>?_) fun hh=>?_|refine kT ?_|fail)<;>conv=>whnf))
 refine ⟨⟨x8,10,ao,eG,b.gauges⟩,[b9],rfl,rfl,⟨rfl,rfl⟩,?_,?_,fun y _=>⟨rfl,rfl,rfl⟩,?_⟩
 ·show (b.gauges.length + 1) * 80<=_;omega
 ·show b.gauges.length + 1<=_;omega
 conv=>whnf
 (repeat' ((first|refine aU fun hh=>?_|refine aV fun hh=>?_|refine aS (fun hh=>?_) fun hh=>?_|refine kT ?_|fail)<;>conv=>whnf))
 refine ⟨[55,18],by kernel_rfl,?_⟩
 conv=>whnf
 first|exact ⟨rfl,rfl⟩
theorem BK (b:G4) (w x:n9) (a:bX) (kind j8 a7 n j9:Int) (b9:x8) (tru a8:List Int) (he:a.e=0) (hk:kind=2) (ho:b.n7.length < 2 ^ 20/\a.n7.length < 2 ^ 20) (d:P8) (p:G2)
  (hc:PW Tryz.prog 140 [.ptr 0 0 0 0,Q2 kind j8 a7 n j9 b9 tru a8,jB a,eR w,eR x] (Ii (iu b a.n7)) (.bool true) [tq 1 4 3 ⟨b.line,b.gauges,b.active,b.pieces,d,b.n7++a.n7,b.world⟩,tp b,.none,.vec 83 5 K4 bE (b.n7++a.n7),.vec 113 29 A1 uk (b.pieces++[p])]) :
  PW Tryz.prog 88 [.ptr 0 0 0 0,Q2 kind j8 a7 n j9 b9 tru a8,jB a,eR w,eR x] (Ii b) (.bool true) [tq 1 4 5 ⟨b.line,b.gauges,b.active,b.pieces,d,b.n7++a.n7,b.world⟩,tp b,.none,.none,.vec 113 29 A1 uk (b.pieces++[p]),.vec 83 5 K4 bE (b.n7++a.n7)]:=by
 refine pW Tryz.func88 ⟨by kernel_rfl,?_⟩
 conv=>whnf
 refine ⟨by kernel_rfl,?_⟩
 conv=>whnf
 refine ⟨⟨V5,5,K4,bE,b.n7⟩,a.n7,rfl,rfl,rfl,?_,?_,fun y _=>⟨rfl,rfl,rfl⟩,?_⟩
 ·show (b.n7.length + a.n7.length) * 24<=_;omega
 ·show b.n7.length + a.n7.length<=_;omega
 conv=>whnf
 (repeat' ((first|refine aU fun hh=>?_|refine aV fun hh=>?_|refine aS (fun hh=>?_) fun hh=>?_|refine kT ?_|fail)<;>conv=>whnf))
 (refine Or.inr ⟨[],[83],by kernel_rfl,?_⟩;(conv=>whnf);refine ⟨[84,85,86,18],_,_,_,_,⟨hc,rfl,rfl,by kernel_rfl⟩,?_⟩)
 conv=>whnf
 (repeat' ((first|refine aU fun hh=>?_|refine aV fun hh=>?_|refine aS (fun hh=>?_) fun hh=>?_|refine kT ?_|fail)<;>conv=>whnf))
 refine ⟨[83,18],by kernel_rfl,?_⟩
 conv=>whnf
 first|exact ⟨rfl,rfl⟩
def Mc (b:G4):Prop:=b.n7.length < 2 ^ 19/\b.gauges.length < 2 ^ 19/\b.pieces.length < 2 ^ 19
theorem yj (w:n9) (o:r8):(G9 w o).n7.length<=1:=by
 unfold G9
 split
 ·show (mO w o).length<=1
  unfold mO
  split
  ·unfold aH
   split
   ·exact Nat.le_refl _
   ·exact Nat.zero_le _
  ·exact Nat.zero_le _
 ·exact Nat.zero_le _
def Pn (w:n9) (o:r8):Prop:=¬(K0 w o=0/\(o.kind=2∨o.kind=4))
theorem Me {l:A5} {w:n9} {b:G4} (t:Told l w b) (o:r8) (hk:1<=o.kind/\o.kind<=10) (hs:Mc b) (h:Pn w o):PW Tryz.prog 88 [.ptr 0 0 0 0,ord o,jB (G9 w o),eR w,eR (Q6 w o)] (Ii b) (.bool true) [tq 1 2 4 (mS b w o),tp (mS b w o),yi (mS b w o),.none,DY (mS b w o)]:=by
 have ol:=yj w o
 by_cases hE:K0 w o=0
 ·have e3:mS b w o=DH (iu b (G9 w o).n7) w o:=by unfold mS;rw [if_pos hE]
  have e1:=(aO hE).1
  have h0:(G9 w o).e=0:=by rw [e1]
  rw [e3]
  obtain ⟨kind,j8,a7,n,j9,b9,tru,a8⟩:=o
  simp only [] at hk
  have cs:kind=1∨kind=2∨kind=3∨kind=4∨kind=5∨kind=6∨kind=7∨kind=8∨kind=9∨kind=10:=by omega
  have BU:=hs.1
  rcases cs with rfl|rfl|rfl|rfl|rfl|rfl|rfl|rfl|rfl|rfl
  ·exact ji b w _ (G9 w ⟨1,j8,a7,n,j9,b9,tru,a8⟩) 1 j8 a7 n j9 b9 tru a8 h0 (by decide) ⟨by omega,by omega⟩
  ·exact absurd ⟨hE,by simp⟩ h
  ·exact ji b w _ (G9 w ⟨3,j8,a7,n,j9,b9,tru,a8⟩) 3 j8 a7 n j9 b9 tru a8 h0 (by decide) ⟨by omega,by omega⟩
  ·exact absurd ⟨hE,by simp⟩ h
  ·exact ji b w _ (G9 w ⟨5,j8,a7,n,j9,b9,tru,a8⟩) 5 j8 a7 n j9 b9 tru a8 h0 (by decide) ⟨by omega,by omega⟩
  ·exact LY b w _ (G9 w ⟨6,j8,a7,n,j9,b9,tru,a8⟩) 6 j8 a7 n j9 b9 tru a8 h0 (rfl) ⟨by omega,by omega⟩
  ·exact LZ b w _ (G9 w ⟨7,j8,a7,n,j9,b9,tru,a8⟩) 7 j8 a7 n j9 b9 tru a8 h0 (rfl) ⟨by omega,by omega⟩
  ·exact ji b w _ (G9 w ⟨8,j8,a7,n,j9,b9,tru,a8⟩) 8 j8 a7 n j9 b9 tru a8 h0 (by decide) ⟨by omega,by omega⟩
  ·exact ji b w _ (G9 w ⟨9,j8,a7,n,j9,b9,tru,a8⟩) 9 j8 a7 n j9 b9 tru a8 h0 (by decide) ⟨by omega,by omega⟩
  ·exact Ma b w _ (G9 w ⟨10,j8,a7,n,j9,b9,tru,a8⟩) 10 j8 a7 n j9 b9 tru a8 h0 (rfl) ⟨by omega,by omega⟩
 ·have e3:mS b w o=iu b (G9 w o).n7:=by unfold mS;rw [if_neg hE]
  have e1:=(W8 hE).1
  have h0:¬(G9 w o).e=0:=by rw [e1];exact hE
  have hP:¬o.kind=2∨(G9 w o).e=2∨decide ((G9 w o).e=101)=b.drift.alarm:=by
   by_cases k2:o.kind=2
   ·refine .inr ?_
    rw [e1,t.df]
    show K0 w o=2∨decide (K0 w o=101)=w.drift.alarm
    have ep:K0 w o=jR w o:=by unfold K0;rw [if_neg (by omega),if_pos k2]
    rw [ep]
    unfold jR
    split
    ·exact .inl rfl
    ·split
     ·rename_i q;exact .inr (by rw [q];rfl)
     ·rename_i q
      refine .inr ?_
      have q:w.drift.alarm=false:=by simpa using q
      rw [q]
      unfold nY
      split
      ·rfl
      ·split<;>rfl
   ·exact .inl k2
  rw [e3]
  obtain ⟨kind,j8,a7,n,j9,b9,tru,a8⟩:=o
  have BU:=hs.1
  exact LX b w _ (G9 w ⟨kind,j8,a7,n,j9,b9,tru,a8⟩) kind j8 a7 n j9 b9 tru a8 h0 hP ⟨by omega,by omega⟩
theorem Mf {w:n9} {b:G4} (o:r8) (hs:Mc b) (hE:K0 w o=0) (hk:o.kind=4):PW Tryz.prog 88 [.ptr 0 0 0 0,ord o,jB (G9 w o),eR w,eR (Q6 w o)] (Ii b) (.bool true) [tq 4 2 5 (mS b w o),.none,yi (mS b w o),.none,tp (mS b w o),DY (mS b w o)]:=by
 have ol:=yj w o
 have e3:mS b w o=DH (iu b (G9 w o).n7) w o:=by unfold mS;rw [if_pos hE]
 have e1:=(aO hE).1
 have h0:(G9 w o).e=0:=by rw [e1]
 rw [e3]
 obtain ⟨kind,j8,a7,n,j9,b9,tru,a8⟩:=o
 have hk:kind=4:=hk
 subst hk
 have BU:=hs.1
 have hs2:=hs.2.1
 exact Mb b w _ (G9 w ⟨4,j8,a7,n,j9,b9,tru,a8⟩) 4 j8 a7 n j9 b9 tru a8 h0 rfl ⟨by omega,by omega⟩ (by omega)
theorem Mg {l:A5} {w:n9} {b:G4} (t:Told l w b) (o:r8) (hs:Mc b) (hE:K0 w o=0) (hk:o.kind=2):PW Tryz.prog 88 [.ptr 0 0 0 0,ord o,jB (G9 w o),eR w,eR (Q6 w o)] (Ii b) (.bool true) [tq 1 4 5 (mS b w o),tp (mS b w o),.none,.none,yi (mS b w o),DY (mS b w o)]:=by
 have e3:mS b w o=DH (iu b (G9 w o).n7) w o:=by unfold mS;rw [if_pos hE]
 obtain ⟨e1,e2⟩:=aO hE
 have h0:(G9 w o).e=0:=by rw [e1]
 have hO:(G9 w o).n7=[]:=by rw [e1];show mO w o=[];unfold mO;rw [if_neg (by omega)]
 have hN:(G9 w o).n=(b.pieces.length:Nat):=by rw [e1,t.np];show AI w o=_;unfold AI;rw [if_neg (by omega),if_pos hk]
 have ep:jR w o=0:=by
  have q:K0 w o=jR w o:=by (unfold K0;rw [if_neg (by omega),if_pos hk])
  rw [<- q];exact hE
 have ex:Q6 w o=jc w o:=by rw [e2];unfold od;rw [if_neg (by omega),if_pos hk]
 obtain ⟨p1,p2,p3,p4⟩:=fP ep
 have BU:=hs.1
 have hs3:=hs.2.2
 have yK:b.drift.alarm=false:=by rw [t.df];exact p3
 have ek:DH (iu b (G9 w o).n7) w o=if sR w o then ⟨b.line,b.gauges,b.active,b.pieces++[⟨o,pP b,AT b o,w.l9.next⟩],sQ b.line (jb b.drift) (!decide (AT b o=1)),b.n7++(G9 w o).n7,b.world⟩ else ⟨b.line,b.gauges,b.active,b.pieces++[⟨o,ao,0,-1⟩],b.drift,b.n7++(G9 w o).n7,b.world⟩:=by
  unfold DH
  rw [if_neg (show ¬o.kind=4 by omega),if_neg (show ¬o.kind=6 by omega),if_neg (show ¬o.kind=7 by omega),if_neg (show ¬o.kind=10 by omega),if_pos hk]
  rfl
 rw [e3,ek]
 by_cases hr:sR w o
 ·rw [if_pos hr]
  obtain ⟨hc,hp,ha,VF,_,hnn⟩:=fH hr
  obtain ⟨a1,a2,a3⟩:=vE t ha
  have hx:w.l9.next < (Q6 w o).l9.next:=by rw [ex];unfold jc;rw [if_pos hr];show w.l9.next < w.l9.next + 1;omega
  have ht:kj b.line=true:=by rw [t.ln.2,<- t.ln.1];exact (K3 t.gw.ln).2.2
  have hd:Z4 b.drift=true:=by rw [t.df];exact t.gw.df
  obtain ⟨kind,j8,a7,n,j9,b9,tru,a8⟩:=o
  have hk:kind=2:=hk
  subst hk
  exact BK b w _ (G9 w ⟨2,j8,a7,n,j9,b9,tru,a8⟩) 2 j8 a7 n j9 b9 tru a8 h0 rfl ⟨by omega,by rw [hO];decide⟩ _ _ (Ik (iu b (G9 w ⟨2,j8,a7,n,j9,b9,tru,a8⟩).n7) w _ (G9 w ⟨2,j8,a7,n,j9,b9,tru,a8⟩) 2 j8 a7 n j9 b9 tru a8 yK hN hx (by show b.pieces.length < _;omega) ⟨a2,a3⟩ p1 (by show (F8 (pP b) _).2.2=0;rw [a1];exact VF) ht hd)
 ·rw [if_neg hr]
  have hx:¬w.l9.next < (Q6 w o).l9.next:=by rw [ex];unfold jc;rw [if_neg hr];show ¬w.l9.next < w.l9.next;omega
  obtain ⟨kind,j8,a7,n,j9,b9,tru,a8⟩:=o
  have hk:kind=2:=hk
  subst hk
  exact BK b w _ (G9 w ⟨2,j8,a7,n,j9,b9,tru,a8⟩) 2 j8 a7 n j9 b9 tru a8 h0 rfl ⟨by omega,by rw [hO];decide⟩ _ _ (Ij (iu b (G9 w ⟨2,j8,a7,n,j9,b9,tru,a8⟩).n7) w _ (G9 w ⟨2,j8,a7,n,j9,b9,tru,a8⟩) 2 j8 a7 n j9 b9 tru a8 yK hN hx (by show b.pieces.length < _;omega))

end Go.Proofs.Tryz.My
