/- Helper lemmas. -/
import Derived.Test.YtpmmjoccamogdaaGreatMyGdD
set_option linter.unusedVariables false
set_option linter.unusedSimpArgs false
set_option maxRecDepth 100000
set_option maxHeartbeats 0
namespace Go.Proofs.Tryz.My
open Go Go.Ev
theorem DG (thr j9 a1 a2 b1 b2 l1 l2 h1 h2:Int) (f1:PC Tryz.prog 46 [i64 1,i64 255,i64 thr] (.bool false)) :
  PC Tryz.prog 25 [.agg [i64 thr,i64 j9,i64 a1,i64 a2,i64 b1,i64 b2,i64 l1,i64 l2,i64 h1,i64 h2]] (i64 8):=by
 refine pF Tryz.func25 ?_
 conv=>whnf
 (repeat' (first|(refine ⟨_,by first|with_reducible exact f1,?_⟩;(conv=>whnf))|(refine Or.inl ?_;(conv=>whnf);refine ⟨_,by first|with_reducible exact f1,?_⟩;(conv=>whnf))|(refine Or.inl ?_;(conv=>whnf);refine ⟨false,?_⟩;(conv=>whnf);refine ⟨_,by first|with_reducible exact f1,?_⟩;(conv=>whnf))|(refine ⟨by kernel_rfl,?_⟩;(conv=>whnf))|(refine ⟨fun _=>?_,fun h=>absurd h (by first|decide|(simp;done)|fail)⟩;(conv=>whnf))|(refine ⟨fun h=>absurd h (by first|decide|(simp;done)|fail),fun _=>?_⟩;(conv=>whnf))|fail))
 refine Or.inl ⟨5,?_⟩
 conv=>whnf
 refine ⟨fun _=>?_,fun h=>absurd (of_decide_eq_false h) (by simp)⟩
 conv=>whnf
 refine ⟨⟨by decide,by simp⟩,?_⟩
 conv=>whnf
 rw [show IntKind.i64.wrap (0 + 1)=1 from by decide]
 refine ⟨fun _=>?_,fun h=>absurd (of_decide_eq_false h) (by simp)⟩
 conv=>whnf
 refine ⟨⟨by decide,by simp⟩,?_⟩
 conv=>whnf
 rw [show IntKind.i64.wrap (1 + 1)=2 from by decide]
 refine ⟨fun _=>?_,fun h=>absurd (of_decide_eq_false h) (by simp)⟩
 conv=>whnf
 refine ⟨⟨by decide,by simp⟩,?_⟩
 conv=>whnf
 rw [show IntKind.i64.wrap (2 + 1)=3 from by decide]
 refine ⟨fun _=>?_,fun h=>absurd (of_decide_eq_false h) (by simp)⟩
 conv=>whnf
 refine ⟨⟨by decide,by simp⟩,?_⟩
 conv=>whnf
 rw [show IntKind.i64.wrap (3 + 1)=4 from by decide]
 refine ⟨fun h=>absurd (of_decide_eq_true h) (by simp),fun _=>?_⟩
 conv=>whnf
theorem DH (thr j9 a1 a2 b1 b2 l1 l2 h1 h2:Int) (f1:PC Tryz.prog 46 [i64 1,i64 255,i64 thr] (.bool true)) (f2:PC Tryz.prog 46 [i64 0,i64 64,i64 j9] (.bool false)) :
  PC Tryz.prog 25 [.agg [i64 thr,i64 j9,i64 a1,i64 a2,i64 b1,i64 b2,i64 l1,i64 l2,i64 h1,i64 h2]] (i64 8):=by
 refine pF Tryz.func25 ?_
 conv=>whnf
 (repeat' (first|(refine ⟨_,by first|with_reducible exact f1|with_reducible exact f2,?_⟩;(conv=>whnf))|(refine Or.inl ?_;(conv=>whnf);refine ⟨_,by first|with_reducible exact f1|with_reducible exact f2,?_⟩;(conv=>whnf))|(refine Or.inl ?_;(conv=>whnf);refine ⟨false,?_⟩;(conv=>whnf);refine ⟨_,by first|with_reducible exact f1|with_reducible exact f2,?_⟩;(conv=>whnf))|(refine ⟨by kernel_rfl,?_⟩;(conv=>whnf))|(refine ⟨fun _=>?_,fun h=>absurd h (by first|decide|(simp;done)|fail)⟩;(conv=>whnf))|(refine ⟨fun h=>absurd h (by first|decide|(simp;done)|fail),fun _=>?_⟩;(conv=>whnf))|fail))
 refine Or.inl ⟨5,?_⟩
 conv=>whnf
 refine ⟨fun _=>?_,fun h=>absurd (of_decide_eq_false h) (by simp)⟩
 conv=>whnf
 refine ⟨⟨by decide,by simp⟩,?_⟩
 conv=>whnf
 rw [show IntKind.i64.wrap (0 + 1)=1 from by decide]
 refine ⟨fun _=>?_,fun h=>absurd (of_decide_eq_false h) (by simp)⟩
 conv=>whnf
 refine ⟨⟨by decide,by simp⟩,?_⟩
 conv=>whnf
 rw [show IntKind.i64.wrap (1 + 1)=2 from by decide]
 refine ⟨fun _=>?_,fun h=>absurd (of_decide_eq_false h) (by simp)⟩
 conv=>whnf
 refine ⟨⟨by decide,by simp⟩,?_⟩
 conv=>whnf
 rw [show IntKind.i64.wrap (2 + 1)=3 from by decide]
 refine ⟨fun _=>?_,fun h=>absurd (of_decide_eq_false h) (by simp)⟩
 conv=>whnf
 refine ⟨⟨by decide,by simp⟩,?_⟩
 conv=>whnf
 rw [show IntKind.i64.wrap (3 + 1)=4 from by decide]
 refine ⟨fun h=>absurd (of_decide_eq_true h) (by simp),fun _=>?_⟩
 conv=>whnf
theorem DI (thr j9 a1 a2 b1 b2 l1 l2 h1 h2:Int) (f1:PC Tryz.prog 46 [i64 1,i64 255,i64 thr] (.bool true)) (f2:PC Tryz.prog 46 [i64 0,i64 64,i64 j9] (.bool true)) (c1:PC Tryz.prog 47 [sp ((a1,a2),(b1,b2))] (i64 8)) :
  PC Tryz.prog 25 [.agg [i64 thr,i64 j9,i64 a1,i64 a2,i64 b1,i64 b2,i64 l1,i64 l2,i64 h1,i64 h2]] (i64 8):=by
 refine pF Tryz.func25 ?_
 conv=>whnf
 (repeat' (first|(refine ⟨_,by first|with_reducible exact f1|with_reducible exact f2|with_reducible exact c1,?_⟩;(conv=>whnf))|(refine Or.inl ?_;(conv=>whnf);refine ⟨_,by first|with_reducible exact f1|with_reducible exact f2|with_reducible exact c1,?_⟩;(conv=>whnf))|(refine Or.inl ?_;(conv=>whnf);refine ⟨false,?_⟩;(conv=>whnf);refine ⟨_,by first|with_reducible exact f1|with_reducible exact f2|with_reducible exact c1,?_⟩;(conv=>whnf))|(refine ⟨by kernel_rfl,?_⟩;(conv=>whnf))|(refine ⟨fun _=>?_,fun h=>absurd h (by first|decide|(simp;done)|fail)⟩;(conv=>whnf))|(refine ⟨fun h=>absurd h (by first|decide|(simp;done)|fail),fun _=>?_⟩;(conv=>whnf))|fail))
 refine Or.inl ⟨5,?_⟩
 conv=>whnf
 refine ⟨fun _=>?_,fun h=>absurd (of_decide_eq_false h) (by simp)⟩
 conv=>whnf
 refine ⟨⟨by decide,by simp⟩,?_⟩
 conv=>whnf
 rw [show IntKind.i64.wrap (0 + 1)=1 from by decide]
 refine ⟨fun _=>?_,fun h=>absurd (of_decide_eq_false h) (by simp)⟩
 conv=>whnf
 refine ⟨⟨by decide,by simp⟩,?_⟩
 conv=>whnf
 rw [show IntKind.i64.wrap (1 + 1)=2 from by decide]
 refine ⟨fun _=>?_,fun h=>absurd (of_decide_eq_false h) (by simp)⟩
 conv=>whnf
 refine ⟨⟨by decide,by simp⟩,?_⟩
 conv=>whnf
 rw [show IntKind.i64.wrap (2 + 1)=3 from by decide]
 refine ⟨fun _=>?_,fun h=>absurd (of_decide_eq_false h) (by simp)⟩
 conv=>whnf
 refine ⟨⟨by decide,by simp⟩,?_⟩
 conv=>whnf
 rw [show IntKind.i64.wrap (3 + 1)=4 from by decide]
 refine ⟨fun h=>absurd (of_decide_eq_true h) (by simp),fun _=>?_⟩
 conv=>whnf
theorem DJ (thr j9 a1 a2 b1 b2 l1 l2 h1 h2:Int) (f1:PC Tryz.prog 46 [i64 1,i64 255,i64 thr] (.bool true)) (f2:PC Tryz.prog 46 [i64 0,i64 64,i64 j9] (.bool true)) (c1:PC Tryz.prog 47 [sp ((a1,a2),(b1,b2))] (i64 0)) (c2:PC Tryz.prog 47 [sp ((l1,l2),(h1,h2))] (i64 8)) :
  PC Tryz.prog 25 [.agg [i64 thr,i64 j9,i64 a1,i64 a2,i64 b1,i64 b2,i64 l1,i64 l2,i64 h1,i64 h2]] (i64 8):=by
 refine pF Tryz.func25 ?_
 conv=>whnf
 (repeat' (first|(refine ⟨_,by first|with_reducible exact f1|with_reducible exact f2|with_reducible exact c1|with_reducible exact c2,?_⟩;(conv=>whnf))|(refine Or.inl ?_;(conv=>whnf);refine ⟨_,by first|with_reducible exact f1|with_reducible exact f2|with_reducible exact c1|with_reducible exact c2,?_⟩;(conv=>whnf))|(refine Or.inl ?_;(conv=>whnf);refine ⟨false,?_⟩;(conv=>whnf);refine ⟨_,by first|with_reducible exact f1|with_reducible exact f2|with_reducible exact c1|with_reducible exact c2,?_⟩;(conv=>whnf))|(refine ⟨by kernel_rfl,?_⟩;(conv=>whnf))|(refine ⟨fun _=>?_,fun h=>absurd h (by first|decide|(simp;done)|fail)⟩;(conv=>whnf))|(refine ⟨fun h=>absurd h (by first|decide|(simp;done)|fail),fun _=>?_⟩;(conv=>whnf))|fail))
 refine Or.inl ⟨5,?_⟩
 conv=>whnf
 refine ⟨fun _=>?_,fun h=>absurd (of_decide_eq_false h) (by simp)⟩
 conv=>whnf
 refine ⟨⟨by decide,by simp⟩,?_⟩
 conv=>whnf
 rw [show IntKind.i64.wrap (0 + 1)=1 from by decide]
 refine ⟨fun _=>?_,fun h=>absurd (of_decide_eq_false h) (by simp)⟩
 conv=>whnf
 refine ⟨⟨by decide,by simp⟩,?_⟩
 conv=>whnf
 rw [show IntKind.i64.wrap (1 + 1)=2 from by decide]
 refine ⟨fun _=>?_,fun h=>absurd (of_decide_eq_false h) (by simp)⟩
 conv=>whnf
 refine ⟨⟨by decide,by simp⟩,?_⟩
 conv=>whnf
 rw [show IntKind.i64.wrap (2 + 1)=3 from by decide]
 refine ⟨fun _=>?_,fun h=>absurd (of_decide_eq_false h) (by simp)⟩
 conv=>whnf
 refine ⟨⟨by decide,by simp⟩,?_⟩
 conv=>whnf
 rw [show IntKind.i64.wrap (3 + 1)=4 from by decide]
 refine ⟨fun h=>absurd (of_decide_eq_true h) (by simp),fun _=>?_⟩
 conv=>whnf
theorem DK (thr j9 a1 a2 b1 b2 l1 l2 h1 h2:Int) (w3 w4 w5 w6:Bool) (f1:PC Tryz.prog 46 [i64 1,i64 255,i64 thr] (.bool true)) (f2:PC Tryz.prog 46 [i64 0,i64 64,i64 j9] (.bool true)) (c1:PC Tryz.prog 47 [sp ((a1,a2),(b1,b2))] (i64 0)) (c2:PC Tryz.prog 47 [sp ((l1,l2),(h1,h2))] (i64 0)) (f3:PC Tryz.prog 46 [i64 (-1000000),i64 1000000,i64 a1] (.bool w3)) (f4:PC Tryz.prog 46 [i64 (-1000000),i64 1000000,i64 b1] (.bool w4)) (f5:PC Tryz.prog 46 [i64 (-1000000),i64 1000000,i64 l1] (.bool w5)) (f6:PC Tryz.prog 46 [i64 (-1000000),i64 1000000,i64 h1] (.bool w6)) :
  PC Tryz.prog 25 [.agg [i64 thr,i64 j9,i64 a1,i64 a2,i64 b1,i64 b2,i64 l1,i64 l2,i64 h1,i64 h2]] (i64 (if (decide (0 < a1) && (w3 && decide (a2<=1000000) && (w4 && decide (b2<=1000000)) && (w5 && decide (l2<=1000000)) && (w6 && decide (h2<=1000000))))=true then 0 else 8)):=by
 refine pF Tryz.func25 ?_
 conv=>whnf
 (repeat' (first|(refine ⟨_,by first|with_reducible exact f1|with_reducible exact f2|with_reducible exact c1|with_reducible exact c2,?_⟩;(conv=>whnf))|(refine Or.inl ?_;(conv=>whnf);refine ⟨_,by first|with_reducible exact f1|with_reducible exact f2|with_reducible exact c1|with_reducible exact c2,?_⟩;(conv=>whnf))|(refine Or.inl ?_;(conv=>whnf);refine ⟨false,?_⟩;(conv=>whnf);refine ⟨_,by first|with_reducible exact f1|with_reducible exact f2|with_reducible exact c1|with_reducible exact c2,?_⟩;(conv=>whnf))|(refine ⟨by kernel_rfl,?_⟩;(conv=>whnf))|(refine ⟨fun _=>?_,fun h=>absurd h (by first|decide|(simp;done)|fail)⟩;(conv=>whnf))|(refine ⟨fun h=>absurd h (by first|decide|(simp;done)|fail),fun _=>?_⟩;(conv=>whnf))|fail))
 refine Or.inl ⟨5,?_⟩
 conv=>whnf
 refine ⟨fun _=>?_,fun h=>absurd (of_decide_eq_false h) (by simp)⟩
 conv=>whnf
 refine ⟨⟨by decide,by simp⟩,?_⟩
 conv=>whnf
 refine ⟨fun hh=>?_,fun hh=>?_⟩
 ·(conv=>whnf)
  refine Or.inl ?_
  conv=>whnf
  refine ⟨_,f3,?_⟩
  conv=>whnf
  refine ⟨fun hh=>?_,fun hh=>?_⟩
  ·(conv=>whnf)
   rw [show IntKind.i64.wrap (0 + 1)=1 from by decide]
   refine ⟨fun _=>?_,fun h=>absurd (of_decide_eq_false h) (by simp)⟩
   conv=>whnf
   refine ⟨⟨by decide,by simp⟩,?_⟩
   conv=>whnf
   refine ⟨fun hh=>?_,fun hh=>?_⟩
   ·(conv=>whnf)
    refine Or.inl ?_
    conv=>whnf
    refine ⟨_,f4,?_⟩
    conv=>whnf
    refine ⟨fun hh=>?_,fun hh=>?_⟩
    ·(conv=>whnf)
     rw [show IntKind.i64.wrap (1 + 1)=2 from by decide]
     refine ⟨fun _=>?_,fun h=>absurd (of_decide_eq_false h) (by simp)⟩
     conv=>whnf
     refine ⟨⟨by decide,by simp⟩,?_⟩
     conv=>whnf
     refine ⟨fun hh=>?_,fun hh=>?_⟩
     ·(conv=>whnf)
      refine Or.inl ?_
      conv=>whnf
      refine ⟨_,f5,?_⟩
      conv=>whnf
      refine ⟨fun hh=>?_,fun hh=>?_⟩
      ·(conv=>whnf)
       rw [show IntKind.i64.wrap (2 + 1)=3 from by decide]
       refine ⟨fun _=>?_,fun h=>absurd (of_decide_eq_false h) (by simp)⟩
       conv=>whnf
       refine ⟨⟨by decide,by simp⟩,?_⟩
       conv=>whnf
       refine ⟨fun hh=>?_,fun hh=>?_⟩
       ·(conv=>whnf)
        refine Or.inl ?_
        conv=>whnf
        refine ⟨_,f6,?_⟩
        conv=>whnf
        refine ⟨fun hh=>?_,fun hh=>?_⟩
        ·(conv=>whnf)
         rw [show IntKind.i64.wrap (3 + 1)=4 from by decide]
         refine ⟨fun h=>absurd (of_decide_eq_true h) (by simp),fun _=>?_⟩
         conv=>whnf
         refine ⟨fun hh=>?_,fun hh=>?_⟩
         ·(conv=>whnf)
          (clear f1 f2 c1 c2 f3 f4 f5 f6;first|(simp_all;done)|(simp_all;intros;omega))
         ·(conv=>whnf)
          (clear f1 f2 c1 c2 f3 f4 f5 f6;first|(simp_all;done)|(simp_all;intros;omega))
        ·(conv=>whnf)
         rw [show IntKind.i64.wrap (3 + 1)=4 from by decide]
         refine ⟨fun h=>absurd (of_decide_eq_true h) (by simp),fun _=>?_⟩
         conv=>whnf
         (clear f1 f2 c1 c2 f3 f4 f5 f6;first|(simp_all;done)|(simp_all;intros;omega))
       ·(conv=>whnf)
        rw [show IntKind.i64.wrap (3 + 1)=4 from by decide]
        refine ⟨fun h=>absurd (of_decide_eq_true h) (by simp),fun _=>?_⟩
        conv=>whnf
        (clear f1 f2 c1 c2 f3 f4 f5 f6;first|(simp_all;done)|(simp_all;intros;omega))
      ·(conv=>whnf)
       rw [show IntKind.i64.wrap (2 + 1)=3 from by decide]
       refine ⟨fun _=>?_,fun h=>absurd (of_decide_eq_false h) (by simp)⟩
       conv=>whnf
       refine ⟨⟨by decide,by simp⟩,?_⟩
       conv=>whnf
       rw [show IntKind.i64.wrap (3 + 1)=4 from by decide]
       refine ⟨fun h=>absurd (of_decide_eq_true h) (by simp),fun _=>?_⟩
       conv=>whnf
       (clear f1 f2 c1 c2 f3 f4 f5 f6;first|(simp_all;done)|(simp_all;intros;omega))
     ·(conv=>whnf)
      rw [show IntKind.i64.wrap (2 + 1)=3 from by decide]
      refine ⟨fun _=>?_,fun h=>absurd (of_decide_eq_false h) (by simp)⟩
      conv=>whnf
      refine ⟨⟨by decide,by simp⟩,?_⟩
      conv=>whnf
      rw [show IntKind.i64.wrap (3 + 1)=4 from by decide]
      refine ⟨fun h=>absurd (of_decide_eq_true h) (by simp),fun _=>?_⟩
      conv=>whnf
      (clear f1 f2 c1 c2 f3 f4 f5 f6;first|(simp_all;done)|(simp_all;intros;omega))
    ·(conv=>whnf)
     rw [show IntKind.i64.wrap (1 + 1)=2 from by decide]
     refine ⟨fun _=>?_,fun h=>absurd (of_decide_eq_false h) (by simp)⟩
     conv=>whnf
     refine ⟨⟨by decide,by simp⟩,?_⟩
     conv=>whnf
     rw [show IntKind.i64.wrap (2 + 1)=3 from by decide]
     refine ⟨fun _=>?_,fun h=>absurd (of_decide_eq_false h) (by simp)⟩
     conv=>whnf
     refine ⟨⟨by decide,by simp⟩,?_⟩
     conv=>whnf
     rw [show IntKind.i64.wrap (3 + 1)=4 from by decide]
     refine ⟨fun h=>absurd (of_decide_eq_true h) (by simp),fun _=>?_⟩
     conv=>whnf
     (clear f1 f2 c1 c2 f3 f4 f5 f6;first|(simp_all;done)|(simp_all;intros;omega))
   ·(conv=>whnf)
    rw [show IntKind.i64.wrap (1 + 1)=2 from by decide]
    refine ⟨fun _=>?_,fun h=>absurd (of_decide_eq_false h) (by simp)⟩
    conv=>whnf
    refine ⟨⟨by decide,by simp⟩,?_⟩
    conv=>whnf
    rw [show IntKind.i64.wrap (2 + 1)=3 from by decide]
    refine ⟨fun _=>?_,fun h=>absurd (of_decide_eq_false h) (by simp)⟩
    conv=>whnf
    refine ⟨⟨by decide,by simp⟩,?_⟩
    conv=>whnf
    rw [show IntKind.i64.wrap (3 + 1)=4 from by decide]
    refine ⟨fun h=>absurd (of_decide_eq_true h) (by simp),fun _=>?_⟩
    conv=>whnf
    (clear f1 f2 c1 c2 f3 f4 f5 f6;first|(simp_all;done)|(simp_all;intros;omega))
  ·(conv=>whnf)
   rw [show IntKind.i64.wrap (0 + 1)=1 from by decide]
   refine ⟨fun _=>?_,fun h=>absurd (of_decide_eq_false h) (by simp)⟩
   conv=>whnf
   refine ⟨⟨by decide,by simp⟩,?_⟩
   conv=>whnf
   rw [show IntKind.i64.wrap (1 + 1)=2 from by decide]
   refine ⟨fun _=>?_,fun h=>absurd (of_decide_eq_false h) (by simp)⟩
   conv=>whnf
   refine ⟨⟨by decide,by simp⟩,?_⟩
   conv=>whnf
   rw [show IntKind.i64.wrap (2 + 1)=3 from by decide]
   refine ⟨fun _=>?_,fun h=>absurd (of_decide_eq_false h) (by simp)⟩
   conv=>whnf
   refine ⟨⟨by decide,by simp⟩,?_⟩
   conv=>whnf
   rw [show IntKind.i64.wrap (3 + 1)=4 from by decide]
   refine ⟨fun h=>absurd (of_decide_eq_true h) (by simp),fun _=>?_⟩
   conv=>whnf
   (clear f1 f2 c1 c2 f3 f4 f5 f6;first|(simp_all;done)|(simp_all;intros;omega))
 ·(conv=>whnf)
  rw [show IntKind.i64.wrap (0 + 1)=1 from by decide]
  refine ⟨fun _=>?_,fun h=>absurd (of_decide_eq_false h) (by simp)⟩
  conv=>whnf
  refine ⟨⟨by decide,by simp⟩,?_⟩
  conv=>whnf
  rw [show IntKind.i64.wrap (1 + 1)=2 from by decide]
  refine ⟨fun _=>?_,fun h=>absurd (of_decide_eq_false h) (by simp)⟩
  conv=>whnf
  refine ⟨⟨by decide,by simp⟩,?_⟩
  conv=>whnf
  rw [show IntKind.i64.wrap (2 + 1)=3 from by decide]
  refine ⟨fun _=>?_,fun h=>absurd (of_decide_eq_false h) (by simp)⟩
  conv=>whnf
  refine ⟨⟨by decide,by simp⟩,?_⟩
  conv=>whnf
  rw [show IntKind.i64.wrap (3 + 1)=4 from by decide]
  refine ⟨fun h=>absurd (of_decide_eq_true h) (by simp),fun _=>?_⟩
  conv=>whnf
  (clear f1 f2 c1 c2 f3 f4 f5 f6;first|(simp_all;done)|(simp_all;intros;omega))
theorem O0 (g:H4):PC Tryz.prog 25 [DF g] (i64 (if N3 g then 0 else 8)):=by
 have f1:=N9 1 255 (K4 g)
 have f2:=N9 0 64 (J2 g)
 have c1:=W6 (K7 g)
 have c2:=W6 (kj g)
 have bad:∀ {x:Bool},N3 g=x->x=false->(8:Int)=if N3 g=true then 0 else 8:=fun h h'=>by rw [h,h'];rfl
 cases w1:A0 (K4 g) 1 255
 ·rw [w1] at f1
  have e:N3 g=false:=by unfold N3;rw [w1];rfl
  rw [e]
  exact DG (K4 g) (J2 g) (K7 g).1.1 (K7 g).1.2 (K7 g).2.1 (K7 g).2.2 g.1.2.1 g.1.2.2 g.2.1 g.2.2 f1
 cases w2:A0 (J2 g) 0 64
 ·rw [w1] at f1
  rw [w2] at f2
  have e:N3 g=false:=by unfold N3;rw [w1,w2];rfl
  rw [e]
  exact DH (K4 g) (J2 g) (K7 g).1.1 (K7 g).1.2 (K7 g).2.1 (K7 g).2.2 g.1.2.1 g.1.2.2 g.2.1 g.2.2 f1 f2
 cases s1:x9 (K7 g)
 ·rw [w1] at f1
  rw [w2] at f2
  rw [s1] at c1
  have e:N3 g=false:=by unfold N3;rw [w1,w2,s1];rfl
  rw [e]
  exact DI (K4 g) (J2 g) (K7 g).1.1 (K7 g).1.2 (K7 g).2.1 (K7 g).2.2 g.1.2.1 g.1.2.2 g.2.1 g.2.2 f1 f2 c1
 cases s2:x9 (kj g)
 ·rw [w1] at f1
  rw [w2] at f2
  rw [s1] at c1
  rw [s2] at c2
  have e:N3 g=false:=by unfold N3;rw [w1,w2,s1,s2];rfl
  rw [e]
  exact DJ (K4 g) (J2 g) (K7 g).1.1 (K7 g).1.2 (K7 g).2.1 (K7 g).2.2 g.1.2.1 g.1.2.2 g.2.1 g.2.2 f1 f2 c1 c2
 rw [w1] at f1
 rw [w2] at f2
 rw [s1] at c1
 rw [s2] at c2
 have h:=DK (K4 g) (J2 g) (K7 g).1.1 (K7 g).1.2 (K7 g).2.1 (K7 g).2.2 g.1.2.1 g.1.2.2 g.2.1 g.2.2 _ _ _ _ f1 f2 c1 c2 (N9 _ _ _) (N9 _ _ _) (N9 _ _ _) (N9 _ _ _)
 have e:N3 g=(decide (0 < (K7 g).1.1) && (A0 (K7 g).1.1 (-1000000) 1000000 && decide ((K7 g).1.2<=1000000) && (A0 (K7 g).2.1 (-1000000) 1000000 && decide ((K7 g).2.2<=1000000)) && (A0 g.1.2.1 (-1000000) 1000000 && decide (g.1.2.2<=1000000)) && (A0 g.2.1 (-1000000) 1000000 && decide (g.2.2<=1000000)))):=by
  unfold N3
  rw [w1,w2,s1,s2]
  rfl
 rw [e]
 exact h

end Go.Proofs.Tryz.My
