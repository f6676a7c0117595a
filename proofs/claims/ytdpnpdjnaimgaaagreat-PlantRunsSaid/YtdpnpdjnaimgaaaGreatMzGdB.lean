/- Helper lemmas. -/
import Derived.Test.YtdpnpdjnaimgaaaGreatMzGdD
set_option linter.unusedVariables false
set_option linter.unusedSimpArgs false
set_option maxRecDepth 100000
set_option maxHeartbeats 0
namespace Go.Proofs.Tryz.My
open Go Go.Ev
theorem Rc(thr a8 a1 a2 b1 b2 l1 l2 h1 h2:Int)(f1:va6 87 [i64 1,i64 255,i64 thr] (.bool false)) :
  va6 89 [.agg [i64 thr,i64 a8,i64 a1,i64 a2,i64 b1,i64 b2,i64 l1,i64 l2,i64 h1,i64 h2]] (i64 8):=by
 refine pF Tryz.func89 ?_;conv=>whnf
 (repeat' (first|(refine⟨_,by first|with_reducible exact f1,?_⟩;(conv=>whnf))|(refine Or.inl ?_;(conv=>whnf);refine⟨_,by first|with_reducible exact f1,?_⟩;(conv=>whnf))|(refine Or.inl ?_;(conv=>whnf);refine⟨false,?_⟩;(conv=>whnf);refine⟨_,by first|with_reducible exact f1,?_⟩;(conv=>whnf))|(refine⟨va4,?_⟩;(conv=>whnf))|(refine⟨fun _=>?_,fun h=>absurd h (by first|decide|(simp;done)|fail)⟩;(conv=>whnf))|(refine⟨fun h=>absurd h (by first|decide|(simp;done)|fail),fun _=>?_⟩;(conv=>whnf))|fail));refine Or.inl ⟨5,?_⟩;conv=>whnf
 refine⟨fun _=>?_,fun h=>absurd (zA0 h) va9⟩;conv=>whnf
 refine⟨⟨va8,by simp⟩,?_⟩;conv=>whnf
 rw[show IntKind.i64.wrap (0+1)=1 from by decide];refine⟨fun _=>?_,fun h=>absurd (zA0 h) va9⟩;conv=>whnf
 refine⟨⟨va8,by simp⟩,?_⟩;conv=>whnf
 rw[show IntKind.i64.wrap (1+1)=2 from by decide];refine⟨fun _=>?_,fun h=>absurd (zA0 h) va9⟩;conv=>whnf
 refine⟨⟨va8,by simp⟩,?_⟩;conv=>whnf
 rw[show IntKind.i64.wrap (2+1)=3 from by decide];refine⟨fun _=>?_,fun h=>absurd (zA0 h) va9⟩;conv=>whnf
 refine⟨⟨va8,by simp⟩,?_⟩;conv=>whnf
 rw[show IntKind.i64.wrap (3+1)=4 from by decide];refine⟨fun h=>absurd (zA1 h) va9,fun _=>?_⟩;conv=>whnf
theorem Rd(thr a8 a1 a2 b1 b2 l1 l2 h1 h2:Int)(f1:va6 87 [i64 1,i64 255,i64 thr] (.bool true))(f2:va6 87 [i64 0,i64 64,i64 a8] (.bool false)) :
  va6 89 [.agg [i64 thr,i64 a8,i64 a1,i64 a2,i64 b1,i64 b2,i64 l1,i64 l2,i64 h1,i64 h2]] (i64 8):=by
 refine pF Tryz.func89 ?_;conv=>whnf
 (repeat' (first|(refine⟨_,by first|with_reducible exact f1|with_reducible exact f2,?_⟩;(conv=>whnf))|(refine Or.inl ?_;(conv=>whnf);refine⟨_,by first|with_reducible exact f1|with_reducible exact f2,?_⟩;(conv=>whnf))|(refine Or.inl ?_;(conv=>whnf);refine⟨false,?_⟩;(conv=>whnf);refine⟨_,by first|with_reducible exact f1|with_reducible exact f2,?_⟩;(conv=>whnf))|(refine⟨va4,?_⟩;(conv=>whnf))|(refine⟨fun _=>?_,fun h=>absurd h (by first|decide|(simp;done)|fail)⟩;(conv=>whnf))|(refine⟨fun h=>absurd h (by first|decide|(simp;done)|fail),fun _=>?_⟩;(conv=>whnf))|fail));refine Or.inl ⟨5,?_⟩;conv=>whnf
 refine⟨fun _=>?_,fun h=>absurd (zA0 h) va9⟩;conv=>whnf
 refine⟨⟨va8,by simp⟩,?_⟩;conv=>whnf
 rw[show IntKind.i64.wrap (0+1)=1 from by decide];refine⟨fun _=>?_,fun h=>absurd (zA0 h) va9⟩;conv=>whnf
 refine⟨⟨va8,by simp⟩,?_⟩;conv=>whnf
 rw[show IntKind.i64.wrap (1+1)=2 from by decide];refine⟨fun _=>?_,fun h=>absurd (zA0 h) va9⟩;conv=>whnf
 refine⟨⟨va8,by simp⟩,?_⟩;conv=>whnf
 rw[show IntKind.i64.wrap (2+1)=3 from by decide];refine⟨fun _=>?_,fun h=>absurd (zA0 h) va9⟩;conv=>whnf
 refine⟨⟨va8,by simp⟩,?_⟩;conv=>whnf
 rw[show IntKind.i64.wrap (3+1)=4 from by decide];refine⟨fun h=>absurd (zA1 h) va9,fun _=>?_⟩;conv=>whnf
theorem Re(thr a8 a1 a2 b1 b2 l1 l2 h1 h2:Int)(f1:va6 87 [i64 1,i64 255,i64 thr] (.bool true))(f2:va6 87 [i64 0,i64 64,i64 a8] (.bool true))(c1:va6 141 [sp ((a1,a2),(b1,b2))] (i64 8)) :
  va6 89 [.agg [i64 thr,i64 a8,i64 a1,i64 a2,i64 b1,i64 b2,i64 l1,i64 l2,i64 h1,i64 h2]] (i64 8):=by
 refine pF Tryz.func89 ?_;conv=>whnf
 (repeat' (first|(refine⟨_,by first|with_reducible exact f1|with_reducible exact f2|with_reducible exact c1,?_⟩;(conv=>whnf))|(refine Or.inl ?_;(conv=>whnf);refine⟨_,by first|with_reducible exact f1|with_reducible exact f2|with_reducible exact c1,?_⟩;(conv=>whnf))|(refine Or.inl ?_;(conv=>whnf);refine⟨false,?_⟩;(conv=>whnf);refine⟨_,by first|with_reducible exact f1|with_reducible exact f2|with_reducible exact c1,?_⟩;(conv=>whnf))|(refine⟨va4,?_⟩;(conv=>whnf))|(refine⟨fun _=>?_,fun h=>absurd h (by first|decide|(simp;done)|fail)⟩;(conv=>whnf))|(refine⟨fun h=>absurd h (by first|decide|(simp;done)|fail),fun _=>?_⟩;(conv=>whnf))|fail));refine Or.inl ⟨5,?_⟩;conv=>whnf
 refine⟨fun _=>?_,fun h=>absurd (zA0 h) va9⟩;conv=>whnf
 refine⟨⟨va8,by simp⟩,?_⟩;conv=>whnf
 rw[show IntKind.i64.wrap (0+1)=1 from by decide];refine⟨fun _=>?_,fun h=>absurd (zA0 h) va9⟩;conv=>whnf
 refine⟨⟨va8,by simp⟩,?_⟩;conv=>whnf
 rw[show IntKind.i64.wrap (1+1)=2 from by decide];refine⟨fun _=>?_,fun h=>absurd (zA0 h) va9⟩;conv=>whnf
 refine⟨⟨va8,by simp⟩,?_⟩;conv=>whnf
 rw[show IntKind.i64.wrap (2+1)=3 from by decide];refine⟨fun _=>?_,fun h=>absurd (zA0 h) va9⟩;conv=>whnf
 refine⟨⟨va8,by simp⟩,?_⟩;conv=>whnf
 rw[show IntKind.i64.wrap (3+1)=4 from by decide];refine⟨fun h=>absurd (zA1 h) va9,fun _=>?_⟩;conv=>whnf
theorem Rf(thr a8 a1 a2 b1 b2 l1 l2 h1 h2:Int)(f1:va6 87 [i64 1,i64 255,i64 thr] (.bool true))(f2:va6 87 [i64 0,i64 64,i64 a8] (.bool true))(c1:va6 141 [sp ((a1,a2),(b1,b2))] (i64 0))(c2:va6 141 [sp ((l1,l2),(h1,h2))] (i64 8)) :
  va6 89 [.agg [i64 thr,i64 a8,i64 a1,i64 a2,i64 b1,i64 b2,i64 l1,i64 l2,i64 h1,i64 h2]] (i64 8):=by
 refine pF Tryz.func89 ?_;conv=>whnf
 (repeat' (first|(refine⟨_,by first|with_reducible exact f1|with_reducible exact f2|with_reducible exact c1|with_reducible exact c2,?_⟩;(conv=>whnf))|(refine Or.inl ?_;(conv=>whnf);refine⟨_,by first|with_reducible exact f1|with_reducible exact f2|with_reducible exact c1|with_reducible exact c2,?_⟩;(conv=>whnf))|(refine Or.inl ?_;(conv=>whnf);refine⟨false,?_⟩;(conv=>whnf);refine⟨_,by first|with_reducible exact f1|with_reducible exact f2|with_reducible exact c1|with_reducible exact c2,?_⟩;(conv=>whnf))|(refine⟨va4,?_⟩;(conv=>whnf))|(refine⟨fun _=>?_,fun h=>absurd h (by first|decide|(simp;done)|fail)⟩;(conv=>whnf))|(refine⟨fun h=>absurd h (by first|decide|(simp;done)|fail),fun _=>?_⟩;(conv=>whnf))|fail));refine Or.inl ⟨5,?_⟩;conv=>whnf
 refine⟨fun _=>?_,fun h=>absurd (zA0 h) va9⟩;conv=>whnf
 refine⟨⟨va8,by simp⟩,?_⟩;conv=>whnf
 rw[show IntKind.i64.wrap (0+1)=1 from by decide];refine⟨fun _=>?_,fun h=>absurd (zA0 h) va9⟩;conv=>whnf
 refine⟨⟨va8,by simp⟩,?_⟩;conv=>whnf
 rw[show IntKind.i64.wrap (1+1)=2 from by decide];refine⟨fun _=>?_,fun h=>absurd (zA0 h) va9⟩;conv=>whnf
 refine⟨⟨va8,by simp⟩,?_⟩;conv=>whnf
 rw[show IntKind.i64.wrap (2+1)=3 from by decide];refine⟨fun _=>?_,fun h=>absurd (zA0 h) va9⟩;conv=>whnf
 refine⟨⟨va8,by simp⟩,?_⟩;conv=>whnf
 rw[show IntKind.i64.wrap (3+1)=4 from by decide];refine⟨fun h=>absurd (zA1 h) va9,fun _=>?_⟩;conv=>whnf
theorem Rg(thr a8 a1 a2 b1 b2 l1 l2 h1 h2:Int)(w3 w4 w5 w6:Bool)(f1:va6 87 [i64 1,i64 255,i64 thr] (.bool true))(f2:va6 87 [i64 0,i64 64,i64 a8] (.bool true))(c1:va6 141 [sp ((a1,a2),(b1,b2))] (i64 0))(c2:va6 141 [sp ((l1,l2),(h1,h2))] (i64 0))(f3:va6 87 [i64 (-1000000),i64 1000000,i64 a1] (.bool w3))(f4:va6 87 [i64 (-1000000),i64 1000000,i64 b1] (.bool w4))(f5:va6 87 [i64 (-1000000),i64 1000000,i64 l1] (.bool w5))(f6:va6 87 [i64 (-1000000),i64 1000000,i64 h1] (.bool w6)) :
  va6 89 [.agg [i64 thr,i64 a8,i64 a1,i64 a2,i64 b1,i64 b2,i64 l1,i64 l2,i64 h1,i64 h2]] (i64 (if (decide (0<a1) && (w3 && decide (a2<=1000000) && (w4 && decide (b2<=1000000)) && (w5 && decide (l2<=1000000)) && (w6 && decide (h2<=1000000))))=true then 0 else 8)):=by
 refine pF Tryz.func89 ?_;conv=>whnf
 (repeat' (first|(refine⟨_,by first|with_reducible exact f1|with_reducible exact f2|with_reducible exact c1|with_reducible exact c2,?_⟩;(conv=>whnf))|(refine Or.inl ?_;(conv=>whnf);refine⟨_,by first|with_reducible exact f1|with_reducible exact f2|with_reducible exact c1|with_reducible exact c2,?_⟩;(conv=>whnf))|(refine Or.inl ?_;(conv=>whnf);refine⟨false,?_⟩;(conv=>whnf);refine⟨_,by first|with_reducible exact f1|with_reducible exact f2|with_reducible exact c1|with_reducible exact c2,?_⟩;(conv=>whnf))|(refine⟨va4,?_⟩;(conv=>whnf))|(refine⟨fun _=>?_,fun h=>absurd h (by first|decide|(simp;done)|fail)⟩;(conv=>whnf))|(refine⟨fun h=>absurd h (by first|decide|(simp;done)|fail),fun _=>?_⟩;(conv=>whnf))|fail));refine Or.inl ⟨5,?_⟩;conv=>whnf
 refine⟨fun _=>?_,fun h=>absurd (zA0 h) va9⟩;conv=>whnf
 refine⟨⟨va8,by simp⟩,?_⟩;conv=>whnf
 refine⟨fun hh=>?_,fun hh=>?_⟩
 ·(conv=>whnf);refine Or.inl ?_;conv=>whnf
  refine⟨_,f3,?_⟩;conv=>whnf
  refine⟨fun hh=>?_,fun hh=>?_⟩
  ·(conv=>whnf);rw[show IntKind.i64.wrap (0+1)=1 from by decide];refine⟨fun _=>?_,fun h=>absurd (zA0 h) va9⟩;conv=>whnf
   refine⟨⟨va8,by simp⟩,?_⟩;conv=>whnf
   refine⟨fun hh=>?_,fun hh=>?_⟩
   ·(conv=>whnf);refine Or.inl ?_;conv=>whnf
    refine⟨_,f4,?_⟩;conv=>whnf
    refine⟨fun hh=>?_,fun hh=>?_⟩
    ·(conv=>whnf);rw[show IntKind.i64.wrap (1+1)=2 from by decide];refine⟨fun _=>?_,fun h=>absurd (zA0 h) va9⟩;conv=>whnf
     refine⟨⟨va8,by simp⟩,?_⟩;conv=>whnf
     refine⟨fun hh=>?_,fun hh=>?_⟩
     ·(conv=>whnf);refine Or.inl ?_;conv=>whnf
      refine⟨_,f5,?_⟩;conv=>whnf
      refine⟨fun hh=>?_,fun hh=>?_⟩
      ·(conv=>whnf);rw[show IntKind.i64.wrap (2+1)=3 from by decide];refine⟨fun _=>?_,fun h=>absurd (zA0 h) va9⟩;conv=>whnf
       refine⟨⟨va8,by simp⟩,?_⟩;conv=>whnf
       refine⟨fun hh=>?_,fun hh=>?_⟩
       ·(conv=>whnf);refine Or.inl ?_;conv=>whnf
        refine⟨_,f6,?_⟩;conv=>whnf
        refine⟨fun hh=>?_,fun hh=>?_⟩
        ·(conv=>whnf);rw[show IntKind.i64.wrap (3+1)=4 from by decide];refine⟨fun h=>absurd (zA1 h) va9,fun _=>?_⟩;conv=>whnf
         refine⟨fun hh=>?_,fun hh=>?_⟩
         ·(conv=>whnf)
          (clear f1 f2 c1 c2 f3 f4 f5 f6;first|(simp_all;done)|(simp_all;intros;omega))
         ·(conv=>whnf)
          (clear f1 f2 c1 c2 f3 f4 f5 f6;first|(simp_all;done)|(simp_all;intros;omega))
        ·(conv=>whnf);rw[show IntKind.i64.wrap (3+1)=4 from by decide];refine⟨fun h=>absurd (zA1 h) va9,fun _=>?_⟩;conv=>whnf
         (clear f1 f2 c1 c2 f3 f4 f5 f6;first|(simp_all;done)|(simp_all;intros;omega))
       ·(conv=>whnf);rw[show IntKind.i64.wrap (3+1)=4 from by decide];refine⟨fun h=>absurd (zA1 h) va9,fun _=>?_⟩;conv=>whnf
        (clear f1 f2 c1 c2 f3 f4 f5 f6;first|(simp_all;done)|(simp_all;intros;omega))
      ·(conv=>whnf);rw[show IntKind.i64.wrap (2+1)=3 from by decide];refine⟨fun _=>?_,fun h=>absurd (zA0 h) va9⟩;conv=>whnf
       refine⟨⟨va8,by simp⟩,?_⟩;conv=>whnf
       rw[show IntKind.i64.wrap (3+1)=4 from by decide];refine⟨fun h=>absurd (zA1 h) va9,fun _=>?_⟩;conv=>whnf
       (clear f1 f2 c1 c2 f3 f4 f5 f6;first|(simp_all;done)|(simp_all;intros;omega))
     ·(conv=>whnf);rw[show IntKind.i64.wrap (2+1)=3 from by decide];refine⟨fun _=>?_,fun h=>absurd (zA0 h) va9⟩;conv=>whnf
      refine⟨⟨va8,by simp⟩,?_⟩;conv=>whnf
      rw[show IntKind.i64.wrap (3+1)=4 from by decide];refine⟨fun h=>absurd (zA1 h) va9,fun _=>?_⟩;conv=>whnf
      (clear f1 f2 c1 c2 f3 f4 f5 f6;first|(simp_all;done)|(simp_all;intros;omega))
    ·(conv=>whnf);rw[show IntKind.i64.wrap (1+1)=2 from by decide];refine⟨fun _=>?_,fun h=>absurd (zA0 h) va9⟩;conv=>whnf
     refine⟨⟨va8,by simp⟩,?_⟩;conv=>whnf
     rw[show IntKind.i64.wrap (2+1)=3 from by decide];refine⟨fun _=>?_,fun h=>absurd (zA0 h) va9⟩;conv=>whnf
     refine⟨⟨va8,by simp⟩,?_⟩;conv=>whnf
     rw[show IntKind.i64.wrap (3+1)=4 from by decide];refine⟨fun h=>absurd (zA1 h) va9,fun _=>?_⟩;conv=>whnf
     (clear f1 f2 c1 c2 f3 f4 f5 f6;first|(simp_all;done)|(simp_all;intros;omega))
   ·(conv=>whnf);rw[show IntKind.i64.wrap (1+1)=2 from by decide];refine⟨fun _=>?_,fun h=>absurd (zA0 h) va9⟩;conv=>whnf
    refine⟨⟨va8,by simp⟩,?_⟩;conv=>whnf
    rw[show IntKind.i64.wrap (2+1)=3 from by decide];refine⟨fun _=>?_,fun h=>absurd (zA0 h) va9⟩;conv=>whnf
    refine⟨⟨va8,by simp⟩,?_⟩;conv=>whnf
    rw[show IntKind.i64.wrap (3+1)=4 from by decide];refine⟨fun h=>absurd (zA1 h) va9,fun _=>?_⟩;conv=>whnf
    (clear f1 f2 c1 c2 f3 f4 f5 f6;first|(simp_all;done)|(simp_all;intros;omega))
  ·(conv=>whnf);rw[show IntKind.i64.wrap (0+1)=1 from by decide];refine⟨fun _=>?_,fun h=>absurd (zA0 h) va9⟩;conv=>whnf
   refine⟨⟨va8,by simp⟩,?_⟩;conv=>whnf
   rw[show IntKind.i64.wrap (1+1)=2 from by decide];refine⟨fun _=>?_,fun h=>absurd (zA0 h) va9⟩;conv=>whnf
   refine⟨⟨va8,by simp⟩,?_⟩;conv=>whnf
   rw[show IntKind.i64.wrap (2+1)=3 from by decide];refine⟨fun _=>?_,fun h=>absurd (zA0 h) va9⟩;conv=>whnf
   refine⟨⟨va8,by simp⟩,?_⟩;conv=>whnf
   rw[show IntKind.i64.wrap (3+1)=4 from by decide];refine⟨fun h=>absurd (zA1 h) va9,fun _=>?_⟩;conv=>whnf
   (clear f1 f2 c1 c2 f3 f4 f5 f6;first|(simp_all;done)|(simp_all;intros;omega))
 ·(conv=>whnf);rw[show IntKind.i64.wrap (0+1)=1 from by decide];refine⟨fun _=>?_,fun h=>absurd (zA0 h) va9⟩;conv=>whnf
  refine⟨⟨va8,by simp⟩,?_⟩;conv=>whnf
  rw[show IntKind.i64.wrap (1+1)=2 from by decide];refine⟨fun _=>?_,fun h=>absurd (zA0 h) va9⟩;conv=>whnf
  refine⟨⟨va8,by simp⟩,?_⟩;conv=>whnf
  rw[show IntKind.i64.wrap (2+1)=3 from by decide];refine⟨fun _=>?_,fun h=>absurd (zA0 h) va9⟩;conv=>whnf
  refine⟨⟨va8,by simp⟩,?_⟩;conv=>whnf
  rw[show IntKind.i64.wrap (3+1)=4 from by decide];refine⟨fun h=>absurd (zA1 h) va9,fun _=>?_⟩;conv=>whnf
  (clear f1 f2 c1 c2 f3 f4 f5 f6;first|(simp_all;done)|(simp_all;intros;omega))
theorem X9(g:x8):va6 89 [Ta g] (i64 (if S6 g then 0 else 8)):=by
 have f1:=X8 1 255 (H8 g);have f2:=X8 0 64 (D9 g);have c1:=cL (J5 g);have c2:=cL (kV g);have bad:∀ {x:Bool},S6 g=x->x=false->(8:Int)=if S6 g=true then 0 else 8:=fun h h'=>by rw[h,h'];rfl
 cases w1:D1 (H8 g) 1 255
 ·rw[w1]at f1;have e:S6 g=false:=by unfold S6;rw[w1];rfl
  rw[e];exact Rc (H8 g) (D9 g) (J5 g).1.1 (J5 g).1.2 (J5 g).2.1 (J5 g).2.2 g.1.2.1 g.1.2.2 g.2.1 g.2.2 f1
 cases w2:D1 (D9 g) 0 64
 ·rw[w1]at f1;rw[w2]at f2;have e:S6 g=false:=by unfold S6;rw[w1,w2];rfl
  rw[e];exact Rd (H8 g) (D9 g) (J5 g).1.1 (J5 g).1.2 (J5 g).2.1 (J5 g).2.2 g.1.2.1 g.1.2.2 g.2.1 g.2.2 f1 f2
 cases s1:z7 (J5 g)
 ·rw[w1]at f1;rw[w2]at f2;rw[s1]at c1;have e:S6 g=false:=by unfold S6;rw[w1,w2,s1];rfl
  rw[e];exact Re (H8 g) (D9 g) (J5 g).1.1 (J5 g).1.2 (J5 g).2.1 (J5 g).2.2 g.1.2.1 g.1.2.2 g.2.1 g.2.2 f1 f2 c1
 cases s2:z7 (kV g)
 ·rw[w1]at f1;rw[w2]at f2;rw[s1]at c1;rw[s2]at c2;have e:S6 g=false:=by unfold S6;rw[w1,w2,s1,s2];rfl
  rw[e];exact Rf (H8 g) (D9 g) (J5 g).1.1 (J5 g).1.2 (J5 g).2.1 (J5 g).2.2 g.1.2.1 g.1.2.2 g.2.1 g.2.2 f1 f2 c1 c2
 rw[w1]at f1;rw[w2]at f2;rw[s1]at c1;rw[s2]at c2;have h:=Rg (H8 g) (D9 g) (J5 g).1.1 (J5 g).1.2 (J5 g).2.1 (J5 g).2.2 g.1.2.1 g.1.2.2 g.2.1 g.2.2 _ _ _ _ f1 f2 c1 c2 (X8 _ _ _) (X8 _ _ _) (X8 _ _ _) (X8 _ _ _);have e:S6 g=(decide (0<(J5 g).1.1) && (D1 (J5 g).1.1 (-1000000) 1000000 && decide ((J5 g).1.2<=1000000) && (D1 (J5 g).2.1 (-1000000) 1000000 && decide ((J5 g).2.2<=1000000)) && (D1 g.1.2.1 (-1000000) 1000000 && decide (g.1.2.2<=1000000)) && (D1 g.2.1 (-1000000) 1000000 && decide (g.2.2<=1000000)))):=by
  unfold S6;rw[w1,w2,s1,s2];rfl
 rw[e];exact h

end Go.Proofs.Tryz.My
