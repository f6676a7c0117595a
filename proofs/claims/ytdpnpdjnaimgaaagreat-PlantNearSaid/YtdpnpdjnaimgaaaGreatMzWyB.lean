/- A helper text: contracts of functions of the program, and plain lemmas. -/
import Derived.Test.YtdpnpdjnaimgaaaGreatEvSix
import Derived.Test.YtdpnpdjnaimgaaaGreatMzWyA
import Derived.Test.YtdpnpdjnaimgaaaGreatMzWxB
import Derived.Test.YtdpnpdjnaimgaaaGreatMzWjA
import Derived.Test.YtdpnpdjnaimgaaaGreatMzWtB
set_option maxRecDepth 100000
set_option maxHeartbeats 0
set_option linter.unusedVariables false
set_option linter.unusedSimpArgs false
namespace Go.Proofs.Tryz.My
open Go Go.Ev
def plR2 (w:WorldT):List Row:=[.cells 154 ((eW w).set 25 (.own 2)),.none,.vec 76 7 b8 x9 w.things]
theorem Y7 (p n:List Int) (h:V9 p n):PC Tryz.prog 41 [ints p,ints n] (.tup [ints (A0 p n),i64 0]):=(a8S p n h).toPC 6 (by kernel_rfl)
theorem b09 (w:WorldT) (g:GoodW w) (kind user number n role:Int) (gauge:GauT) (tru noise:List Int) (ht:tru.length < 2 ^ 40) (hn:noise.length < 2 ^ 40) (h:¬prtE w ⟨kind,user,number,n,role,gauge,tru,noise⟩=0) :
  PW Tryz.prog 170 [.ptr 0 0 0 0,ordX kind user number n role gauge tru noise] (plR w) (.tup [i64 0,.nils,i64 (prtE w ⟨kind,user,number,n,role,gauge,tru,noise⟩)]) (plR w):=by
 unfold prtE at h ⊢
 simp only [] at h ⊢
 have c2:=D9 0 w.line.belt.len n
 by_cases ho:V9 tru noise
 ·have c1:=Y7 tru noise ho
  by_cases hN:0<=n/\n<=w.line.belt.len
  ·rw [if_neg (fun q=>q ⟨ho,hN⟩)] at h ⊢
   rw [decide_eq_true hN.1,decide_eq_true hN.2] at c2
   by_cases ha:w.drift.alarm=true
   ·rw [if_pos ha]
    refine a9 hm Tryz.func170 (by kernel_rfl) ⟨by kernel_rfl,?_⟩
    conv=>whnf
    (repeat' first|(refine ansS (fun hh=>?_) (fun hh=>?_)<;>(try simp only [ansX] at hh)<;>first|(exfalso;first|omega|(simp [*] at hh;done)|(revert hh;decide))|exact absurd (by assumption) hh|conv=>whnf)|((first|refine kR ?_|refine aM ?_|refine aL ?_|refine aN ?_|((try (refine Or.inl ?_;conv=>whnf));(try (refine ⟨false,?_⟩;conv=>whnf));refine ⟨_,by first | exact c1 | exact c2,?_⟩)|fail);conv=>whnf))
    all_goals
     refine ⟨[],by kernel_rfl,?_⟩
     conv=>whnf
     exact ⟨rfl,rfl⟩
   ·rw [if_neg ha] at h ⊢
    have ha:w.drift.alarm=false:=by simpa using ha
    have c3:=a6d w.track (A9.2 g.tk) h
    generalize senE w.track=e at h c3
    refine a9 hm Tryz.func170 (by kernel_rfl) ⟨by kernel_rfl,?_⟩
    conv=>whnf
    (repeat' first|(refine ansS (fun hh=>?_) (fun hh=>?_)<;>(try simp only [ansX] at hh)<;>first|(exfalso;first|omega|(simp [*] at hh;done)|(revert hh;decide))|exact absurd (by assumption) hh|conv=>whnf)|((first|refine kR ?_|refine aM ?_|refine aL ?_|refine aN ?_|((try (refine Or.inl ?_;conv=>whnf));(try (refine ⟨false,?_⟩;conv=>whnf));refine ⟨_,by first | exact c1 | exact c2 | exact c3,?_⟩)|fail);conv=>whnf))
    all_goals
     refine ⟨[],by kernel_rfl,?_⟩
     conv=>whnf
     exact ⟨rfl,rfl⟩
  ·rw [if_pos (fun q=>hN q.2)]
   have e1:(decide (0<=n) && decide (n<=w.line.belt.len))=false:=by rw [<- Bool.decide_and,decide_eq_false hN]
   rw [e1] at c2
   refine a9 hm Tryz.func170 (by kernel_rfl) ⟨by kernel_rfl,?_⟩
   conv=>whnf
   (repeat' first|(refine ansS (fun hh=>?_) (fun hh=>?_)<;>(try simp only [ansX] at hh)<;>first|(exfalso;first|omega|(simp [*] at hh;done)|(revert hh;decide))|exact absurd (by assumption) hh|conv=>whnf)|((first|refine kR ?_|refine aM ?_|refine aL ?_|refine aN ?_|((try (refine Or.inl ?_;conv=>whnf));(try (refine ⟨false,?_⟩;conv=>whnf));refine ⟨_,by first | exact c1 | exact c2,?_⟩)|fail);conv=>whnf))
   all_goals
    refine ⟨[],by kernel_rfl,?_⟩
    conv=>whnf
    exact ⟨rfl,rfl⟩
 ·rw [if_pos (fun q=>ho q.1)]
  have c1:=Y3 tru noise ht hn ho
  have he:¬(if y8 tru=true then (2:Int) else 50)=0:=by split<;>decide
  generalize (if y8 tru=true then (2:Int) else 50)=e at c1 he
  refine a9 hm Tryz.func170 (by kernel_rfl) ⟨by kernel_rfl,?_⟩
  conv=>whnf
  (repeat' first|(refine ansS (fun hh=>?_) (fun hh=>?_)<;>(try simp only [ansX] at hh)<;>first|(exfalso;first|omega|(simp [*] at hh;done)|(revert hh;decide))|exact absurd (by assumption) hh|conv=>whnf)|((first|refine kR ?_|refine aM ?_|refine aL ?_|refine aN ?_|((try (refine Or.inl ?_;conv=>whnf));(try (refine ⟨false,?_⟩;conv=>whnf));refine ⟨_,by first | exact c1 | exact c2,?_⟩)|fail);conv=>whnf))
  all_goals
   refine ⟨[],by kernel_rfl,?_⟩
   conv=>whnf
   exact ⟨rfl,rfl⟩
theorem b2W (w:WorldT) (g:GoodW w) (hb:Okay w.books) (kind user number n role:Int) (gauge:GauT) (tru noise:List Int) (h:prtE w ⟨kind,user,number,n,role,gauge,tru,noise⟩=0) :
  PW Tryz.prog 170 [.ptr 0 0 0 0,ordX kind user number n role gauge tru noise] (plR w) (.tup [i64 w.track.next,.nils,i64 0]) (plR2 (prtW w ⟨kind,user,number,n,role,gauge,tru,noise⟩)):=by
 obtain ⟨h1,h2,h3,h4⟩:=a4I h
 have h1:V9 tru noise:=h1
 have h2:0<=n/\n<=w.line.belt.len:=h2
 have c1:=Y7 tru noise h1
 have c2:=D9 0 w.line.belt.len n
 rw [decide_eq_true h2.1,decide_eq_true h2.2] at c2
 have c3:=b2S w.track (A9.2 g.tk) h4
 have w1:IntKind.i64.wrap (w.track.count + w.line.lag)=w.track.count + w.line.lag:=w64 _ (by have:=g.tk.ct; have:=a8V g.ln; omega) (by have:=g.tk.ct; have:=a8V g.ln; omega)
 have hll:w.things.length<=32:=by rw [g.lt]; exact g.tk.ln
 have hsl:(A0 tru noise).length < 2 ^ 20:=by rw [H7]; have:=E6 h1.1; omega
 by_cases hr:recd w ⟨kind,user,number,n,role,gauge,tru,noise⟩
 ·have c4:PC Tryz.prog 225 [bks w.books,i64 w.track.next,ints (A0 tru noise)] (.tup [bks (rcdB w.books w.track.next (A0 tru noise)),.agg [i64 w.books.next,i64 (p9 w.books.recipes),i64 w.track.next,ints (A0 tru noise),u8 (meaF (rcdG w.books) (A0 tru noise)).2.1,.bool false],i64 0]):=a7n w.books hb w.track.next (A0 tru noise) hsl hr
  have e:prtW w ⟨kind,user,number,n,role,gauge,tru,noise⟩=⟨w.line,senT w.track,rcdB w.books w.track.next (A0 tru noise),takD w.line (drfS w.drift) (!decide ((meaF (rcdG w.books) (A0 tru noise)).2.1=1)),w.things++[⟨w.track.next,0,n,(meaF (rcdG w.books) (A0 tru noise)).2.1,IntKind.i64.wrap (w.track.count + w.line.lag),w.books.next,false⟩]⟩:=by
   unfold prtW
   rw [if_pos hr,w1]
   rfl
  rw [e]
  clear e
  generalize (meaF (rcdG w.books) (A0 tru noise)).2.1=V at c4 ⊢
  generalize rcdB w.books w.track.next (A0 tru noise)=B at c4 ⊢
  have ht:=(N7 g.ln).2.2
  by_cases hd:w.drift.rounds=500
  ·have c5:=a9P w.line ht Y5 a4H (by decide) (!decide (V=1))
   have cs:=a4M
   have ed:drfS w.drift=Y5:=by unfold drfS; rw [if_pos hd]
   rw [ed]
   refine a9 hm Tryz.func170 (by kernel_rfl) ⟨by kernel_rfl,?_⟩
   conv=>whnf
   (repeat' first|(refine ansS (fun hh=>?_) (fun hh=>?_)<;>(try simp only [ansX] at hh)<;>first|(exfalso;first|omega|(simp [*] at hh;done)|(revert hh;decide))|exact absurd (by assumption) hh|conv=>whnf)|((first|refine kR ?_|refine aM ?_|refine aL ?_|refine aN ?_|refine aT ?_|((try (refine Or.inl ?_;conv=>whnf));(try (refine ⟨false,?_⟩;conv=>whnf));refine ⟨_,by first | exact c1 | exact c2 | exact c3 | exact c4 | exact cs | exact c5,?_⟩)|fail);conv=>whnf))
   refine ⟨⟨ThingT,7,b8,x9,w.things⟩,[⟨w.track.next,0,n,V,IntKind.i64.wrap (w.track.count + w.line.lag),w.books.next,false⟩],rfl,rfl,⟨rfl,rfl⟩,?_,?_,fun y _=>⟨rfl,rfl,rfl⟩,?_⟩
   ·show (w.things.length + 1) * 56<=_; omega
   ·show w.things.length + 1<=_; omega
   (repeat' first|(refine ansS (fun hh=>?_) (fun hh=>?_)<;>(try simp only [ansX] at hh)<;>first|(exfalso;first|omega|(simp [*] at hh;done)|(revert hh;decide))|exact absurd (by assumption) hh|conv=>whnf)|((first|refine kR ?_|refine aM ?_|refine aL ?_|refine aN ?_|refine aT ?_|fail);conv=>whnf))
   refine ⟨[147],by kernel_rfl,?_⟩
   conv=>whnf
   exact ⟨rfl,rfl⟩
  ·have c5:=a9P w.line ht w.drift g.df hd (!decide (V=1))
   have ed:drfS w.drift=w.drift:=by unfold drfS; rw [if_neg hd]
   rw [ed]
   refine a9 hm Tryz.func170 (by kernel_rfl) ⟨by kernel_rfl,?_⟩
   conv=>whnf
   (repeat' first|(refine ansS (fun hh=>?_) (fun hh=>?_)<;>(try simp only [ansX] at hh)<;>first|(exfalso;first|omega|(simp [*] at hh;done)|(revert hh;decide))|exact absurd (by assumption) hh|conv=>whnf)|((first|refine kR ?_|refine aM ?_|refine aL ?_|refine aN ?_|refine aT ?_|((try (refine Or.inl ?_;conv=>whnf));(try (refine ⟨false,?_⟩;conv=>whnf));refine ⟨_,by first | exact c1 | exact c2 | exact c3 | exact c4 | exact c5,?_⟩)|fail);conv=>whnf))
   refine ⟨⟨ThingT,7,b8,x9,w.things⟩,[⟨w.track.next,0,n,V,IntKind.i64.wrap (w.track.count + w.line.lag),w.books.next,false⟩],rfl,rfl,⟨rfl,rfl⟩,?_,?_,fun y _=>⟨rfl,rfl,rfl⟩,?_⟩
   ·show (w.things.length + 1) * 56<=_; omega
   ·show w.things.length + 1<=_; omega
   (repeat' first|(refine ansS (fun hh=>?_) (fun hh=>?_)<;>(try simp only [ansX] at hh)<;>first|(exfalso;first|omega|(simp [*] at hh;done)|(revert hh;decide))|exact absurd (by assumption) hh|conv=>whnf)|((first|refine kR ?_|refine aM ?_|refine aL ?_|refine aN ?_|refine aT ?_|fail);conv=>whnf))
   refine ⟨[147],by kernel_rfl,?_⟩
   conv=>whnf
   exact ⟨rfl,rfl⟩
 ·have c4:=a50 w.books hb w.track.next (A0 tru noise) hsl hr
  have e:prtW w ⟨kind,user,number,n,role,gauge,tru,noise⟩=⟨w.line,senT w.track,w.books,w.drift,w.things++[⟨w.track.next,0,n,0,IntKind.i64.wrap (w.track.count + w.line.lag),-1,false⟩]⟩:=by
   unfold prtW prtX
   rw [if_neg hr,w1]
  rw [e]
  clear e
  have hr:¬rcdE w.books w.track.next (A0 tru noise)=0:=hr
  generalize rcdE w.books w.track.next (A0 tru noise)=e at c4 hr
  refine a9 hm Tryz.func170 (by kernel_rfl) ⟨by kernel_rfl,?_⟩
  conv=>whnf
  (repeat' first|(refine ansS (fun hh=>?_) (fun hh=>?_)<;>(try simp only [ansX] at hh)<;>first|(exfalso;first|omega|(simp [*] at hh;done)|(revert hh;decide))|exact absurd (by assumption) hh|conv=>whnf)|((first|refine kR ?_|refine aM ?_|refine aL ?_|refine aN ?_|refine aT ?_|((try (refine Or.inl ?_;conv=>whnf));(try (refine ⟨false,?_⟩;conv=>whnf));refine ⟨_,by first | exact c1 | exact c2 | exact c3 | exact c4,?_⟩)|fail);conv=>whnf))
  refine ⟨⟨ThingT,7,b8,x9,w.things⟩,[⟨w.track.next,0,n,0,IntKind.i64.wrap (w.track.count + w.line.lag),-1,false⟩],rfl,rfl,⟨rfl,rfl⟩,?_,?_,fun y _=>⟨rfl,rfl,rfl⟩,?_⟩
  ·show (w.things.length + 1) * 56<=_; omega
  ·show w.things.length + 1<=_; omega
  (repeat' first|(refine ansS (fun hh=>?_) (fun hh=>?_)<;>(try simp only [ansX] at hh)<;>first|(exfalso;first|omega|(simp [*] at hh;done)|(revert hh;decide))|exact absurd (by assumption) hh|conv=>whnf)|((first|refine kR ?_|refine aM ?_|refine aL ?_|refine aN ?_|refine aT ?_|fail);conv=>whnf))
  refine ⟨[147],by kernel_rfl,?_⟩
  conv=>whnf
  exact ⟨rfl,rfl⟩
theorem a7X (w:WorldT) (g:GoodW w):PW Tryz.prog 216 [.ptr 0 0 0 0] (plR w) (.tup []) (plR (trkW w (n6 w))):=by
 have hl:w.things.length<=32:=by rw [g.lt]; exact g.tk.ln
 refine a9 hm Tryz.func216 (by kernel_rfl) ⟨by kernel_rfl,?_⟩
 conv=>whnf
 refine Or.inr ⟨Nat,[12],[51],[],fun k=>[i64 k],fun k=>[.cells 154 ((eW (trkW w (telA w.track (w.things.take k)))).set 25 (.own 52))],fun _=>[],fun k=>w.things.length - k,fun k=>k<=w.things.length,?_⟩
 conv=>whnf
 refine ⟨⟨0,?_⟩,?_⟩
 ·(conv=>whnf)
  exact ⟨⟨Nat.zero_le _,rfl,rfl,rfl⟩,by kernel_rfl,by kernel_rfl⟩
 intro k hk
 conv=>whnf
 refine ⟨fun h => ?_,fun h => ?_⟩
 ·have h:=of_decide_eq_true h
  have hkk:k < w.things.length:=by have h:(k:Int) < (w.things.length:Nat):=h; omega
  have gs:=a4G (w.things.take k) _ g.tk
  have sm:=a4F (w.things.take k) w.track
  have st:=b0X w.track hkk
  generalize telA w.track (w.things.take k)=u at gs sm st
  have ct:=b35 u (A9.2 gs) (w.things.getD k b8).id (w.things.getD k b8).verdict
  have cb:=a7O u (A9.2 gs) (w.things.getD k b8).id (w.things.getD k b8).verdict
  have fin:∀ v,tel1 u (w.things.getD k b8)=v->trkW w v=trkW w (telA w.track (w.things.take (k + 1))):=fun v hv=>by rw [st,hv]
  unfold tel1 at fin
  by_cases h1:(w.things.getD (Int.toNat (k:Int)) b8).verdict=0∨¬(w.things.getD (Int.toNat (k:Int)) b8).due=(trkW w u).track.count
  ·have f:=fin u (if_pos (show (w.things.getD k b8).verdict=0∨¬(w.things.getD k b8).due=u.count from h1))
   conv=>whnf
   (repeat' first|(refine ansS (fun hh=>?_) (fun hh=>?_)<;>(try simp only [ansX] at hh)<;>first|(exfalso;first|omega|(simp [*] at hh;done)|(revert hh;decide))|exact absurd (by assumption) hh|conv=>whnf)|((first|refine kR ?_|refine aM ?_|refine aL ?_|refine aN ?_|refine aT ?_|fail);conv=>whnf))
   all_goals
    refine ⟨k + 1,?_⟩
    conv=>whnf
    refine ⟨⟨⟨?_,?_⟩,?_,?_,rfl⟩,by kernel_rfl,by kernel_rfl⟩
    ·show w.things.length - (k + 1) < w.things.length - k; omega
    ·show k + 1<=w.things.length; omega
    ·rw [w64 _ (by omega) (by omega)]; rfl
    ·show _=[Row.cells 154 ((eW (trkW w (telA w.track (w.things.take (k + 1))))).set 25 (.own 52))]
     rw [<- f]<;>rfl
  ·have hn:¬((w.things.getD k b8).verdict=0∨¬(w.things.getD k b8).due=u.count):=h1
   rw [if_neg hn] at fin
   by_cases h2:telE u (w.things.getD k b8).id (w.things.getD k b8).verdict=0
   ·rw [if_pos h2] at fin
    have ct:=ct h2
    have f:=fin _ rfl
    conv=>whnf
    (repeat' first|(refine ansS (fun hh=>?_) (fun hh=>?_)<;>(try simp only [ansX] at hh)<;>first|(exfalso;first|omega|(simp [*] at hh;done)|(revert hh;decide))|exact absurd (by assumption) hh|conv=>whnf)|((first|refine kR ?_|refine aM ?_|refine aL ?_|refine aN ?_|refine aT ?_|((try (refine Or.inl ?_;conv=>whnf));(try (refine ⟨false,?_⟩;conv=>whnf));refine ⟨_,by exact ct,?_⟩)|fail);conv=>whnf))
    all_goals
     refine ⟨k + 1,?_⟩
     conv=>whnf
     refine ⟨⟨⟨?_,?_⟩,?_,?_,rfl⟩,by kernel_rfl,by kernel_rfl⟩
     ·show w.things.length - (k + 1) < w.things.length - k; omega
     ·show k + 1<=w.things.length; omega
     ·rw [w64 _ (by omega) (by omega)]; rfl
     ·show _=[Row.cells 154 ((eW (trkW w (telA w.track (w.things.take (k + 1))))).set 25 (.own 52))]
      rw [<- f]<;>rfl
   ·rw [if_neg h2] at fin
    have ct:=cb h2
    have f:=fin _ rfl
    generalize telE u (w.things.getD k b8).id (w.things.getD k b8).verdict=e at ct h2
    conv=>whnf
    (repeat' first|(refine ansS (fun hh=>?_) (fun hh=>?_)<;>(try simp only [ansX] at hh)<;>first|(exfalso;first|omega|(simp [*] at hh;done)|(revert hh;decide))|exact absurd (by assumption) hh|conv=>whnf)|((first|refine kR ?_|refine aM ?_|refine aL ?_|refine aN ?_|refine aT ?_|((try (refine Or.inl ?_;conv=>whnf));(try (refine ⟨false,?_⟩;conv=>whnf));refine ⟨_,by exact ct,?_⟩)|fail);conv=>whnf))
    all_goals
     refine ⟨k + 1,?_⟩
     conv=>whnf
     refine ⟨⟨⟨?_,?_⟩,?_,?_,rfl⟩,by kernel_rfl,by kernel_rfl⟩
     ·show w.things.length - (k + 1) < w.things.length - k; omega
     ·show k + 1<=w.things.length; omega
     ·rw [w64 _ (by omega) (by omega)]; rfl
     ·show _=[Row.cells 154 ((eW (trkW w (telA w.track (w.things.take (k + 1))))).set 25 (.own 52))]
      rw [<- f]<;>rfl
 ·have h:=of_decide_eq_false h
  have h:¬(k:Int) < (w.things.length:Nat):=h
  have ek:w.things.take k=w.things:=List.take_of_length_le (by omega)
  rw [ek]
  conv=>whnf
  refine ⟨[],by kernel_rfl,?_⟩
  conv=>whnf
  exact ⟨rfl,rfl⟩

end Go.Proofs.Tryz.My
