/- A helper text: contracts of functions of the program, and plain lemmas. -/
import Derived.Test.YtdpnpdjnaimgaaaGreatEvSix
import Derived.Test.YtdpnpdjnaimgaaaGreatMzWaA
set_option maxRecDepth 100000
set_option maxHeartbeats 0
set_option linter.unusedVariables false
set_option linter.unusedSimpArgs false
namespace Go.Proofs.Tryz.My
open Go Go.Ev
theorem L4 (b:BeltT):PC Tryz.prog 59 [bel b] (i64 (if D2 b=true then 0 else 90)):=by
 by_cases h:D2 b=true
 ·rw [if_pos h]
  have h:=z7.1 h
  refine a7 hm Tryz.func59 (by kernel_rfl) ?_
  conv=>whnf
  (repeat' first|(refine ansS (fun hh=>?_) (fun hh=>?_)<;>(try simp only [ansX] at hh)<;>first|(exfalso;first|omega|(simp [*] at hh;done)|(revert hh;decide))|exact absurd (by assumption) hh|conv=>whnf)|((first|refine kR ?_|refine aB ?_|refine aL ?_|refine aN ?_|fail);conv=>whnf))
 ·rw [if_neg h]
  have h:=mt z7.2 h
  refine a7 hm Tryz.func59 (by kernel_rfl) ?_
  conv=>whnf
  (repeat' first|(refine ansS (fun hh=>?_) (fun hh=>?_)<;>(try simp only [ansX] at hh)<;>first|(exfalso;first|omega|(simp [*] at hh;done)|(revert hh;decide))|exact absurd (by assumption) hh|conv=>whnf)|((first|refine kR ?_|refine aB ?_|refine aL ?_|refine aN ?_|fail);conv=>whnf))
  all_goals (exfalso; omega)
theorem a1d (b:BeltT) (h:D2 b=true):PC Tryz.prog 95 [bel b] (.agg [i64 b.step,i64 b.slip,i64 b.gate,i64 b.len,i64 (b.step - b.slip),i64 (b.step + b.slip)]):=by
 have h:=z7.1 h
 have w1:IntKind.i64.wrap (b.step - b.slip)=b.step - b.slip:=w64 _ (by omega) (by omega)
 have w2:IntKind.i64.wrap (b.step + b.slip)=b.step + b.slip:=w64 _ (by omega) (by omega)
 refine a7 hm Tryz.func95 (by kernel_rfl) ?_
 conv=>whnf
 (repeat' first|(refine ansS (fun hh=>?_) (fun hh=>?_)<;>(try simp only [ansX] at hh)<;>first|(exfalso;first|omega|(simp [*] at hh;done)|(revert hh;decide))|exact absurd (by assumption) hh|conv=>whnf)|((first|refine kR ?_|refine aB ?_|refine aL ?_|refine aN ?_|fail);conv=>whnf))
 all_goals (rw [w1,w2])
theorem a0b (b:BeltT) (h:D2 b=true) (place:Int) (h1:1<=place) (h2:place<=1000000):PC Tryz.prog 96 [.agg [i64 b.step,i64 b.slip,i64 b.gate,i64 b.len,i64 (b.step - b.slip),i64 (b.step + b.slip)],i64 place] (.tup [i64 (winA b place),i64 (winB b place)]):=by
 have r:=I8 h h1 h2
 have h:=z7.1 h
 unfold winA winB at *
 have w1:IntKind.i64.wrap (place - 1)=place - 1:=w64 _ (by omega) (by omega)
 have w2:IntKind.i64.wrap (place + b.len)=place + b.len:=w64 _ (by omega) (by omega)
 have q1:(place - 1).tdiv (b.step + b.slip)=(place - 1).tdiv (b.step + b.slip) + 1 - 1:=by omega
 have w3:IntKind.i64.wrap ((place - 1).tdiv (b.step + b.slip))=(place - 1).tdiv (b.step + b.slip):=w64 _ (by omega) (by omega)
 have w4:IntKind.i64.wrap ((place + b.len).tdiv (b.step - b.slip))=(place + b.len).tdiv (b.step - b.slip):=w64 _ (by omega) (by omega)
 have w5:IntKind.i64.wrap ((place - 1).tdiv (b.step + b.slip) + 1)=(place - 1).tdiv (b.step + b.slip) + 1:=w64 _ (by omega) (by omega)
 have w6:IntKind.i64.wrap ((place + b.len).tdiv (b.step - b.slip) + 1)=(place + b.len).tdiv (b.step - b.slip) + 1:=w64 _ (by omega) (by omega)
 refine a7 hm Tryz.func96 (by kernel_rfl) ?_
 conv=>whnf
 (repeat' first|(refine ansS (fun hh=>?_) (fun hh=>?_)<;>(try simp only [ansX] at hh)<;>first|(exfalso;first|omega|(simp [*] at hh;done)|(revert hh;decide))|exact absurd (by assumption) hh|conv=>whnf)|((first|refine kR ?_|refine aB ?_|refine aL ?_|refine aN ?_|fail);conv=>whnf))
 all_goals (rw [w1,w2,w3,w4,w5,w6])
theorem a8U (lo hi x y:Int):PC Tryz.prog 108 [i64 lo,i64 hi,.slc 1 [[i64 x],[i64 y]]] (.bool (decide ((lo<=x/\x<=hi)/\(lo<=y/\y<=hi)))):=by
 refine a7 hm Tryz.func108 (by kernel_rfl) ?_
 conv=>whnf
 refine Or.inl ⟨3,?_⟩
 conv=>whnf
 (repeat' (first|((first|refine ansT ?_|refine ansF ?_|refine ansD (by first | decide | (simp only [List.length_cons,List.length_nil]; decide)) ?_ | refine ansN (by first | decide | (simp only [List.length_cons,List.length_nil]; decide)) ?_ | refine ansB (by first | decide | (simp only [List.length_cons,List.length_nil]; decide)) (by first | decide | (simp only [List.length_cons,List.length_nil]; decide)) ?_|fail);conv=>whnf) | (refine ansS (fun hh=>?_) (fun hh=>?_)<;>(try simp only [ansX] at hh)<;>first|(exfalso;first|omega|(simp [*] at hh;done)|(revert hh;decide))|exact absurd (by assumption) hh|conv=>whnf) | ((first|refine ⟨by kernel_rfl,?_⟩|refine ansB (by omega) (by omega) ?_|refine ansB (by decide) (by decide) ?_|refine aL (by omega) ?_|refine aN (by omega) ?_|fail);conv=>whnf)))
 all_goals (first | (refine congrArg AV.bool (Bool.eq_iff_iff.2 ?_); simp only [Bool.and_eq_true,Bool.or_eq_true,Bool.not_eq_true',decide_eq_true_eq,decide_eq_false_iff_not,Bool.false_eq_true,iff_false,iff_true,true_iff,false_iff,reduceCtorEq,not_true_eq_false,not_false_eq_true]; omega))
theorem a14 (lo hi x:Int):PC Tryz.prog 108 [i64 lo,i64 hi,.slc 1 [[i64 x]]] (.bool (decide (lo<=x/\x<=hi))):=by
 refine a7 hm Tryz.func108 (by kernel_rfl) ?_
 conv=>whnf
 refine Or.inl ⟨2,?_⟩
 conv=>whnf
 (repeat' (first|((first|refine ansT ?_|refine ansF ?_|refine ansD (by first | decide | (simp only [List.length_cons,List.length_nil]; decide)) ?_ | refine ansN (by first | decide | (simp only [List.length_cons,List.length_nil]; decide)) ?_ | refine ansB (by first | decide | (simp only [List.length_cons,List.length_nil]; decide)) (by first | decide | (simp only [List.length_cons,List.length_nil]; decide)) ?_|fail);conv=>whnf) | (refine ansS (fun hh=>?_) (fun hh=>?_)<;>(try simp only [ansX] at hh)<;>first|(exfalso;first|omega|(simp [*] at hh;done)|(revert hh;decide))|exact absurd (by assumption) hh|conv=>whnf) | ((first|refine ⟨by kernel_rfl,?_⟩|refine ansB (by omega) (by omega) ?_|refine ansB (by decide) (by decide) ?_|refine aL (by omega) ?_|refine aN (by omega) ?_|fail);conv=>whnf)))
 all_goals (first | (refine congrArg AV.bool (Bool.eq_iff_iff.2 ?_); simp only [Bool.and_eq_true,Bool.or_eq_true,Bool.not_eq_true',decide_eq_true_eq,decide_eq_false_iff_not,Bool.false_eq_true,iff_false,iff_true,true_iff,false_iff,reduceCtorEq,not_true_eq_false,not_false_eq_true]; omega))
theorem b2D (a:Int×Int):PC Tryz.prog 109 [fr a] (.bool (limB a)):=by
 have c:=b1N a
 obtain ⟨x,y⟩:=a
 unfold limB
 cases h:b9 (x,y)
 ·rw [h] at c
  rw [if_neg (by decide)] at c
  refine a7 hm Tryz.func109 (by kernel_rfl) ?_
  conv=>whnf
  (repeat' first|(refine ansS (fun hh=>?_) (fun hh=>?_)<;>(try simp only [ansX] at hh)<;>first|(exfalso;first|omega|(simp [*] at hh;done)|(revert hh;decide))|exact absurd (by assumption) hh|conv=>whnf)|((first|refine kR ?_|refine aB ?_|refine aL ?_|refine aN ?_|((try (refine Or.inl ?_;conv=>whnf));(try (refine ⟨false,?_⟩;conv=>whnf));refine ⟨_,by exact c,?_⟩)|fail);conv=>whnf))
  all_goals rfl
 ·rw [h] at c
  rw [if_pos rfl] at c
  refine a7 hm Tryz.func109 (by kernel_rfl) ?_
  conv=>whnf
  (repeat' first|(refine ansS (fun hh=>?_) (fun hh=>?_)<;>(try simp only [ansX] at hh)<;>first|(exfalso;first|omega|(simp [*] at hh;done)|(revert hh;decide))|exact absurd (by assumption) hh|conv=>whnf)|((first|refine kR ?_|refine aB ?_|refine aL ?_|refine aN ?_|((try (refine Or.inl ?_;conv=>whnf));(try (refine ⟨false,?_⟩;conv=>whnf));refine ⟨_,by exact c,?_⟩)|fail);conv=>whnf))
  all_goals (rw [Bool.true_and]; (refine congrArg AV.bool (Bool.eq_iff_iff.2 ?_); simp only [Bool.and_eq_true,Bool.or_eq_true,Bool.not_eq_true',decide_eq_true_eq,decide_eq_false_iff_not,Bool.false_eq_true,iff_false,iff_true,true_iff,false_iff,reduceCtorEq,not_true_eq_false,not_false_eq_true]; omega))
theorem a1e (l:LineT):PC Tryz.prog 61 [tst l] (i64 (if a11 l=true then 0 else 81)):=by
 have c:=b2D l.al
 have c2:=a8U 1 255 l.p l.q
 unfold a11
 cases h:limB l.al
 ·rw [h] at c
  rw [Bool.and_false,if_neg (by decide)]
  refine a7 hm Tryz.func61 (by kernel_rfl) ?_
  conv=>whnf
  (repeat' first|(refine ansS (fun hh=>?_) (fun hh=>?_)<;>(try simp only [ansX] at hh)<;>first|(exfalso;first|omega|(simp [*] at hh;done)|(revert hh;decide))|exact absurd (by assumption) hh|conv=>whnf)|((first|refine kR ?_|refine aB ?_|refine aL ?_|refine aN ?_|((try (refine Or.inl ?_;conv=>whnf));(try (refine ⟨false,?_⟩;conv=>whnf));refine ⟨_,by first | exact c2 | exact c,?_⟩)|fail);conv=>whnf))
 ·rw [h] at c
  rw [Bool.and_true]
  by_cases h2:1<=l.p/\l.p < l.q/\l.q<=255
  ·rw [decide_eq_true h2,if_pos rfl]
   refine a7 hm Tryz.func61 (by kernel_rfl) ?_
   conv=>whnf
   (repeat' first|(refine ansS (fun hh=>?_) (fun hh=>?_)<;>(try simp only [ansX] at hh)<;>first|(exfalso;first|omega|(simp [*] at hh;done)|(revert hh;decide))|exact absurd (by assumption) hh|conv=>whnf)|((first|refine kR ?_|refine aB ?_|refine aL ?_|refine aN ?_|((try (refine Or.inl ?_;conv=>whnf));(try (refine ⟨false,?_⟩;conv=>whnf));refine ⟨_,by first | exact c2 | exact c,?_⟩)|fail);conv=>whnf))
  ·rw [decide_eq_false h2,if_neg (by decide)]
   refine a7 hm Tryz.func61 (by kernel_rfl) ?_
   conv=>whnf
   (repeat' first|(refine ansS (fun hh=>?_) (fun hh=>?_)<;>(try simp only [ansX] at hh)<;>first|(exfalso;first|omega|(simp [*] at hh;done)|(revert hh;decide))|exact absurd (by assumption) hh|conv=>whnf)|((first|refine kR ?_|refine aB ?_|refine aL ?_|refine aN ?_|((try (refine Or.inl ?_;conv=>whnf));(try (refine ⟨false,?_⟩;conv=>whnf));refine ⟨_,by first | exact c2 | exact c,?_⟩)|fail);conv=>whnf))
   all_goals (exfalso; omega)
theorem a7E:PC Tryz.prog 56 [] (.agg [i64 0,i64 0,.ff]):=by
 refine a7 hm Tryz.func56 (by kernel_rfl) ?_
 conv=>whnf
 try rfl
theorem y9 (t:TrackT) (hl:t.parts.length < 2 ^ 40):PC Tryz.prog 68 [trk t] (i64 (trkE t)):=by
 unfold trkE
 by_cases hb:D2 t.belt=true
 ·rw [if_pos hb]
  have c1:=L4 t.belt
  rw [if_pos hb] at c1
  have bl:=z7.1 hb
  have c2:=a1d t.belt hb
  have c3:=a0b t.belt hb t.belt.gate bl.2.2.1.1 bl.2.2.1.2
  have wr:=I8 hb bl.2.2.1.1 bl.2.2.1.2
  by_cases hs:sizT t=true
  ·have sz:=a1b.1 hs
   refine a7 hm Tryz.func68 (by kernel_rfl) ?_
   conv=>whnf
   (repeat' first|(refine ansS (fun hh=>?_) (fun hh=>?_)<;>(try simp only [ansX] at hh)<;>first|(exfalso;first|omega|(simp [*] at hh;done)|(revert hh;decide))|exact absurd (by assumption) hh|conv=>whnf)|((first|refine kR ?_|refine aB ?_|refine aL ?_|refine aN ?_|((try (refine Or.inl ?_;conv=>whnf));(try (refine ⟨false,?_⟩;conv=>whnf));refine ⟨_,by first | exact c1 | exact c2 | exact c3,?_⟩)|fail);conv=>whnf))
   clear c1 c2 c3
   refine Or.inr ⟨Bool×Nat,[50],[6],[],fun i=>[i64 i.2],fun i=>[.cells 78 [i64 (B8 t.parts i.2).id,i64 (B8 t.parts i.2).cnt,u8 (B8 t.parts i.2).verdict,match i.1 with | true => .ff | false => .bool (B8 t.parts i.2).hit]],fun _=>[],fun i=>t.parts.length - i.2,fun i=>i.2<=t.parts.length/\∀ j,j < i.2->okPt t j=true,?_⟩
   conv=>whnf
   refine ⟨⟨(true,0),?_⟩,?_⟩
   ·(conv=>whnf)
    exact ⟨⟨⟨Nat.zero_le _,fun j hj=>absurd hj (Nat.not_lt_zero j)⟩,rfl,rfl,rfl⟩,by kernel_rfl,by kernel_rfl⟩
   rintro ⟨q,k⟩ ⟨hk,hok⟩
   have hk:k<=t.parts.length:=hk
   have hok:∀ j,j < k->okPt t j=true:=hok
   by_cases hkk:k < t.parts.length
   ·have hi:=a1a (t:=t) (k:=k)
    have hp:=a7w hok
    have hnx:B8 t.parts (k + 1)=t.parts.getD k a8:=U7 _ _
    have all:okPt t k=false->¬trkB t=true:=fun e h=>by
     unfold trkB at h
     rw [Bool.and_eq_true,a0H] at h
     rw [h.2 k hkk] at e
     cases e
    have next:okPt t k=true->∀ j,j < k + 1->okPt t j=true:=fun e j hj=>by
     by_cases z:j=k
     ·subst z; exact e
     ·exact hok j (by omega)
    have e0:t.parts.getD (Int.toNat (k:Int)) a8=t.parts.getD k a8:=rfl
    cases q <;>
    ·(conv=>whnf)
     refine ⟨fun h => ?_,fun h=>absurd (of_decide_eq_false h) (by omega)⟩
     conv=>whnf
     refine ⟨⟨by omega,by omega⟩,?_⟩
     conv=>whnf
     rw [e0]
     generalize hx:t.parts.getD k a8=x at hi hnx ⊢
     obtain ⟨xi,xc,xv,xh⟩:=x
     have w1:xc<=t.count/\0<=xc->IntKind.i64.wrap (xc + winB t.belt t.belt.gate)=xc + winB t.belt t.belt.gate:=fun h=>w64 _ (by omega) (by omega)
     have w2:xc<=t.count/\0<=xc->IntKind.i64.wrap (xc + winA t.belt t.belt.gate)=xc + winA t.belt t.belt.gate:=fun h=>w64 _ (by omega) (by omega)
     simp only at hi hp
     by_cases ho:okPt t k=true
     ·have f:=hi.1 ho
      have nx:=next ho
      clear hi all next hok ho hb hs hx h
      have w1:=w1 (by omega)
      have w2:=w2 (by omega)
      cases xh
      ·(repeat' first|(refine ansS (fun hh=>?_) (fun hh=>?_)<;>(try simp only [ansX] at hh)<;>first|(exfalso;first|omega|(simp [*] at hh;done)|(revert hh;decide))|exact absurd (by assumption) hh|conv=>whnf)|((first|refine kR ?_|refine aB ?_|refine aL ?_|refine aN ?_|fail);conv=>whnf))
       refine ⟨(false,k + 1),?_⟩
       conv=>whnf
       refine ⟨⟨⟨?_,?_,nx⟩,?_,?_,rfl⟩,by kernel_rfl,by kernel_rfl⟩
       ·show t.parts.length - (k + 1) < t.parts.length - k; omega
       ·omega
       ·rw [w64 _ (by omega) (by omega)]; rfl
       ·show _=[Row.cells 78 [i64 (B8 t.parts (k + 1)).id,i64 (B8 t.parts (k + 1)).cnt,u8 (B8 t.parts (k + 1)).verdict,.bool (B8 t.parts (k + 1)).hit]]
        rw [hnx]
      ·have f2:=f.2.2.2.2.2.2 rfl
       (repeat' first|(refine ansS (fun hh=>?_) (fun hh=>?_)<;>(try simp only [ansX] at hh)<;>first|(exfalso;first|omega|(simp [*] at hh;done)|(revert hh;decide))|exact absurd (by assumption) hh|conv=>whnf)|((first|refine kR ?_|refine aB ?_|refine aL ?_|refine aN ?_|fail);conv=>whnf))
       refine ⟨(false,k + 1),?_⟩
       conv=>whnf
       refine ⟨⟨⟨?_,?_,nx⟩,?_,?_,rfl⟩,by kernel_rfl,by kernel_rfl⟩
       ·show t.parts.length - (k + 1) < t.parts.length - k; omega
       ·omega
       ·rw [w64 _ (by omega) (by omega)]; rfl
       ·show _=[Row.cells 78 [i64 (B8 t.parts (k + 1)).id,i64 (B8 t.parts (k + 1)).cnt,u8 (B8 t.parts (k + 1)).verdict,.bool (B8 t.parts (k + 1)).hit]]
        rw [hnx]
     ·have ho2:okPt t k=false:=by simpa using ho
      rw [if_neg (all ho2)]
      have f:=mt hi.2 ho
      clear hi all next hok ho ho2 hb hs hx h hnx
      by_cases hr:xc<=t.count/\0<=xc
      ·have w1:=w1 hr
       have w2:=w2 hr
       cases xh
       ·(repeat' first|(refine ansS (fun hh=>?_) (fun hh=>?_)<;>(try simp only [ansX] at hh)<;>first|(exfalso;first|omega|(simp [*] at hh;done)|(revert hh;decide))|exact absurd (by assumption) hh|conv=>whnf)|((first|refine kR ?_|refine aB ?_|refine aL ?_|refine aN ?_|fail);conv=>whnf))
        all_goals first | (exfalso; apply f; refine ⟨?_,?_,?_,?_,?_,?_,fun h => ?_⟩<;>first | omega | cases h)
       ·(repeat' first|(refine ansS (fun hh=>?_) (fun hh=>?_)<;>(try simp only [ansX] at hh)<;>first|(exfalso;first|omega|(simp [*] at hh;done)|(revert hh;decide))|exact absurd (by assumption) hh|conv=>whnf)|((first|refine kR ?_|refine aB ?_|refine aL ?_|refine aN ?_|fail);conv=>whnf))
        all_goals first | (exfalso; apply f; refine ⟨?_,?_,?_,?_,?_,?_,fun h => ?_⟩<;>omega)
      ·(repeat' first|(refine ansS (fun hh=>?_) (fun hh=>?_)<;>(try simp only [ansX] at hh)<;>first|(exfalso;first|omega|(simp [*] at hh;done)|(revert hh;decide))|exact absurd (by assumption) hh|conv=>whnf)|((first|refine kR ?_|refine aB ?_|refine aL ?_|refine aN ?_|fail);conv=>whnf))
       all_goals set_option pp.maxSteps 300 in trace_state
   ·have ek:k=t.parts.length:=by omega
    have hg:trkB t=true:=by
     unfold trkB
     rw [hs,Bool.true_and,a0H]
     intro j hj
     exact hok j (by omega)
    rw [if_pos hg]
    cases q <;>
    ·(conv=>whnf)
     refine ⟨fun h=>absurd (of_decide_eq_true h) (by omega),fun h => ?_⟩
     conv=>whnf
     all_goals rfl
  ·have hn:¬trkB t=true:=fun h=>by
    unfold trkB at h
    rw [Bool.and_eq_true] at h
    exact hs h.1
   rw [if_neg hn]
   have sz:=mt a1b.2 hs
   refine a7 hm Tryz.func68 (by kernel_rfl) ?_
   conv=>whnf
   (repeat' first|(refine ansS (fun hh=>?_) (fun hh=>?_)<;>(try simp only [ansX] at hh)<;>first|(exfalso;first|omega|(simp [*] at hh;done)|(revert hh;decide))|exact absurd (by assumption) hh|conv=>whnf)|((first|refine kR ?_|refine aB ?_|refine aL ?_|refine aN ?_|((try (refine Or.inl ?_;conv=>whnf));(try (refine ⟨false,?_⟩;conv=>whnf));refine ⟨_,by first | exact c1 | exact c2 | exact c3,?_⟩)|fail);conv=>whnf))
   all_goals (exfalso; omega)
 ·rw [if_neg hb]
  have c1:=L4 t.belt
  rw [if_neg hb] at c1
  refine a7 hm Tryz.func68 (by kernel_rfl) ?_
  conv=>whnf
  (repeat' first|(refine ansS (fun hh=>?_) (fun hh=>?_)<;>(try simp only [ansX] at hh)<;>first|(exfalso;first|omega|(simp [*] at hh;done)|(revert hh;decide))|exact absurd (by assumption) hh|conv=>whnf)|((first|refine kR ?_|refine aB ?_|refine aL ?_|refine aN ?_|((try (refine Or.inl ?_;conv=>whnf));(try (refine ⟨false,?_⟩;conv=>whnf));refine ⟨_,by exact c1,?_⟩)|fail);conv=>whnf))

end Go.Proofs.Tryz.My
