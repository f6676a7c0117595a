/- Helper lemmas. -/
import Derived.Test.YtacahppoighegaaGreatMzGeX
set_option linter.unusedVariables false
set_option linter.unusedSimpArgs false
set_option maxRecDepth 100000
set_option maxHeartbeats 0
namespace Go.Proofs.Tryz.My
open Go Go.Ev
theorem UO(thr a8 a1 a2 b1 b2 l1 l2 h1 h2:Int)(f1:va6 149 [i64 1,i64 255,i64 thr] (.bool false)) :
  va6 103 [.agg [i64 thr,i64 a8,i64 a1,i64 a2,i64 b1,i64 b2,i64 l1,i64 l2,i64 h1,i64 h2]] (i64 8):=by
 refine vb4 Tryz.func103 ?_;(repeat' (first|(refine⟨_,by first|with_reducible exact f1,?_⟩;(conv=>whnf))|(refine Or.inl ?_;(conv=>whnf);refine⟨_,by first|with_reducible exact f1,?_⟩;(conv=>whnf))|(refine Or.inl ?_;(conv=>whnf);refine⟨false,?_⟩;(conv=>whnf);refine⟨_,by first|with_reducible exact f1,?_⟩;(conv=>whnf))|(refine⟨va4,?_⟩;(conv=>whnf))|(refine⟨fun _=>?_,fun h=>absurd h (by first|decide|(simp;done)|fail)⟩;(conv=>whnf))|(refine⟨fun h=>absurd h (by first|decide|(simp;done)|fail),fun _=>?_⟩;(conv=>whnf))|fail));refine Or.inl ⟨5,vb3 ?_⟩;refine⟨fun _=>?_,fun h=>absurd (zA0 h) va9⟩;conv=>whnf
 refine⟨⟨va8,by simp⟩,vb3 ?_⟩;rw[show IntKind.i64.wrap (0+1)=1 from by decide];refine⟨fun _=>?_,fun h=>absurd (zA0 h) va9⟩;conv=>whnf
 refine⟨⟨va8,by simp⟩,vb3 ?_⟩;rw[show IntKind.i64.wrap (1+1)=2 from by decide];refine⟨fun _=>?_,fun h=>absurd (zA0 h) va9⟩;conv=>whnf
 refine⟨⟨va8,by simp⟩,vb3 ?_⟩;rw[show IntKind.i64.wrap (2+1)=3 from by decide];refine⟨fun _=>?_,fun h=>absurd (zA0 h) va9⟩;conv=>whnf
 refine⟨⟨va8,by simp⟩,vb3 ?_⟩;rw[show IntKind.i64.wrap (3+1)=4 from by decide];refine⟨fun h=>absurd (zA1 h) va9,fun _=>?_⟩;conv=>whnf
theorem UP(thr a8 a1 a2 b1 b2 l1 l2 h1 h2:Int)(f1:va6 149 [i64 1,i64 255,i64 thr] (.bool true))(f2:va6 149 [i64 0,i64 64,i64 a8] (.bool false)) :
  va6 103 [.agg [i64 thr,i64 a8,i64 a1,i64 a2,i64 b1,i64 b2,i64 l1,i64 l2,i64 h1,i64 h2]] (i64 8):=by
 refine vb4 Tryz.func103 ?_;(repeat' (first|(refine⟨_,by first|with_reducible exact f1|with_reducible exact f2,?_⟩;(conv=>whnf))|(refine Or.inl ?_;(conv=>whnf);refine⟨_,by first|with_reducible exact f1|with_reducible exact f2,?_⟩;(conv=>whnf))|(refine Or.inl ?_;(conv=>whnf);refine⟨false,?_⟩;(conv=>whnf);refine⟨_,by first|with_reducible exact f1|with_reducible exact f2,?_⟩;(conv=>whnf))|(refine⟨va4,?_⟩;(conv=>whnf))|(refine⟨fun _=>?_,fun h=>absurd h (by first|decide|(simp;done)|fail)⟩;(conv=>whnf))|(refine⟨fun h=>absurd h (by first|decide|(simp;done)|fail),fun _=>?_⟩;(conv=>whnf))|fail));refine Or.inl ⟨5,vb3 ?_⟩;refine⟨fun _=>?_,fun h=>absurd (zA0 h) va9⟩;conv=>whnf
 refine⟨⟨va8,by simp⟩,vb3 ?_⟩;rw[show IntKind.i64.wrap (0+1)=1 from by decide];refine⟨fun _=>?_,fun h=>absurd (zA0 h) va9⟩;conv=>whnf
 refine⟨⟨va8,by simp⟩,vb3 ?_⟩;rw[show IntKind.i64.wrap (1+1)=2 from by decide];refine⟨fun _=>?_,fun h=>absurd (zA0 h) va9⟩;conv=>whnf
 refine⟨⟨va8,by simp⟩,vb3 ?_⟩;rw[show IntKind.i64.wrap (2+1)=3 from by decide];refine⟨fun _=>?_,fun h=>absurd (zA0 h) va9⟩;conv=>whnf
 refine⟨⟨va8,by simp⟩,vb3 ?_⟩;rw[show IntKind.i64.wrap (3+1)=4 from by decide];refine⟨fun h=>absurd (zA1 h) va9,fun _=>?_⟩;conv=>whnf
theorem UQ(thr a8 a1 a2 b1 b2 l1 l2 h1 h2:Int)(f1:va6 149 [i64 1,i64 255,i64 thr] (.bool true))(f2:va6 149 [i64 0,i64 64,i64 a8] (.bool true))(c1:va6 150 [sp ((a1,a2),(b1,b2))] (i64 8)) :
  va6 103 [.agg [i64 thr,i64 a8,i64 a1,i64 a2,i64 b1,i64 b2,i64 l1,i64 l2,i64 h1,i64 h2]] (i64 8):=by
 refine vb4 Tryz.func103 ?_;(repeat' (first|(refine⟨_,by first|with_reducible exact f1|with_reducible exact f2|with_reducible exact c1,?_⟩;(conv=>whnf))|(refine Or.inl ?_;(conv=>whnf);refine⟨_,by first|with_reducible exact f1|with_reducible exact f2|with_reducible exact c1,?_⟩;(conv=>whnf))|(refine Or.inl ?_;(conv=>whnf);refine⟨false,?_⟩;(conv=>whnf);refine⟨_,by first|with_reducible exact f1|with_reducible exact f2|with_reducible exact c1,?_⟩;(conv=>whnf))|(refine⟨va4,?_⟩;(conv=>whnf))|(refine⟨fun _=>?_,fun h=>absurd h (by first|decide|(simp;done)|fail)⟩;(conv=>whnf))|(refine⟨fun h=>absurd h (by first|decide|(simp;done)|fail),fun _=>?_⟩;(conv=>whnf))|fail));refine Or.inl ⟨5,vb3 ?_⟩;refine⟨fun _=>?_,fun h=>absurd (zA0 h) va9⟩;conv=>whnf
 refine⟨⟨va8,by simp⟩,vb3 ?_⟩;rw[show IntKind.i64.wrap (0+1)=1 from by decide];refine⟨fun _=>?_,fun h=>absurd (zA0 h) va9⟩;conv=>whnf
 refine⟨⟨va8,by simp⟩,vb3 ?_⟩;rw[show IntKind.i64.wrap (1+1)=2 from by decide];refine⟨fun _=>?_,fun h=>absurd (zA0 h) va9⟩;conv=>whnf
 refine⟨⟨va8,by simp⟩,vb3 ?_⟩;rw[show IntKind.i64.wrap (2+1)=3 from by decide];refine⟨fun _=>?_,fun h=>absurd (zA0 h) va9⟩;conv=>whnf
 refine⟨⟨va8,by simp⟩,vb3 ?_⟩;rw[show IntKind.i64.wrap (3+1)=4 from by decide];refine⟨fun h=>absurd (zA1 h) va9,fun _=>?_⟩;conv=>whnf
theorem UR(thr a8 a1 a2 b1 b2 l1 l2 h1 h2:Int)(f1:va6 149 [i64 1,i64 255,i64 thr] (.bool true))(f2:va6 149 [i64 0,i64 64,i64 a8] (.bool true))(c1:va6 150 [sp ((a1,a2),(b1,b2))] (i64 0))(c2:va6 150 [sp ((l1,l2),(h1,h2))] (i64 8)) :
  va6 103 [.agg [i64 thr,i64 a8,i64 a1,i64 a2,i64 b1,i64 b2,i64 l1,i64 l2,i64 h1,i64 h2]] (i64 8):=by
 refine vb4 Tryz.func103 ?_;(repeat' (first|(refine⟨_,by first|with_reducible exact f1|with_reducible exact f2|with_reducible exact c1|with_reducible exact c2,?_⟩;(conv=>whnf))|(refine Or.inl ?_;(conv=>whnf);refine⟨_,by first|with_reducible exact f1|with_reducible exact f2|with_reducible exact c1|with_reducible exact c2,?_⟩;(conv=>whnf))|(refine Or.inl ?_;(conv=>whnf);refine⟨false,?_⟩;(conv=>whnf);refine⟨_,by first|with_reducible exact f1|with_reducible exact f2|with_reducible exact c1|with_reducible exact c2,?_⟩;(conv=>whnf))|(refine⟨va4,?_⟩;(conv=>whnf))|(refine⟨fun _=>?_,fun h=>absurd h (by first|decide|(simp;done)|fail)⟩;(conv=>whnf))|(refine⟨fun h=>absurd h (by first|decide|(simp;done)|fail),fun _=>?_⟩;(conv=>whnf))|fail));refine Or.inl ⟨5,vb3 ?_⟩;refine⟨fun _=>?_,fun h=>absurd (zA0 h) va9⟩;conv=>whnf
 refine⟨⟨va8,by simp⟩,vb3 ?_⟩;rw[show IntKind.i64.wrap (0+1)=1 from by decide];refine⟨fun _=>?_,fun h=>absurd (zA0 h) va9⟩;conv=>whnf
 refine⟨⟨va8,by simp⟩,vb3 ?_⟩;rw[show IntKind.i64.wrap (1+1)=2 from by decide];refine⟨fun _=>?_,fun h=>absurd (zA0 h) va9⟩;conv=>whnf
 refine⟨⟨va8,by simp⟩,vb3 ?_⟩;rw[show IntKind.i64.wrap (2+1)=3 from by decide];refine⟨fun _=>?_,fun h=>absurd (zA0 h) va9⟩;conv=>whnf
 refine⟨⟨va8,by simp⟩,vb3 ?_⟩;rw[show IntKind.i64.wrap (3+1)=4 from by decide];refine⟨fun h=>absurd (zA1 h) va9,fun _=>?_⟩;conv=>whnf
theorem US(thr a8 a1 a2 b1 b2 l1 l2 h1 h2:Int)(w3 w4 w5 w6:Bool)(f1:va6 149 [i64 1,i64 255,i64 thr] (.bool true))(f2:va6 149 [i64 0,i64 64,i64 a8] (.bool true))(c1:va6 150 [sp ((a1,a2),(b1,b2))] (i64 0))(c2:va6 150 [sp ((l1,l2),(h1,h2))] (i64 0))(f3:va6 149 [i64 (-1000000),i64 1000000,i64 a1] (.bool w3))(f4:va6 149 [i64 (-1000000),i64 1000000,i64 b1] (.bool w4))(f5:va6 149 [i64 (-1000000),i64 1000000,i64 l1] (.bool w5))(f6:va6 149 [i64 (-1000000),i64 1000000,i64 h1] (.bool w6)) :
  va6 103 [.agg [i64 thr,i64 a8,i64 a1,i64 a2,i64 b1,i64 b2,i64 l1,i64 l2,i64 h1,i64 h2]] (i64 (if (decide (0<a1) && (w3 && decide (a2<=1000000) && (w4 && decide (b2<=1000000)) && (w5 && decide (l2<=1000000)) && (w6 && decide (h2<=1000000))))=true then 0 else 8)):=by
 refine vb4 Tryz.func103 ?_;(repeat' (first|(refine⟨_,by first|with_reducible exact f1|with_reducible exact f2|with_reducible exact c1|with_reducible exact c2,?_⟩;(conv=>whnf))|(refine Or.inl ?_;(conv=>whnf);refine⟨_,by first|with_reducible exact f1|with_reducible exact f2|with_reducible exact c1|with_reducible exact c2,?_⟩;(conv=>whnf))|(refine Or.inl ?_;(conv=>whnf);refine⟨false,?_⟩;(conv=>whnf);refine⟨_,by first|with_reducible exact f1|with_reducible exact f2|with_reducible exact c1|with_reducible exact c2,?_⟩;(conv=>whnf))|(refine⟨va4,?_⟩;(conv=>whnf))|(refine⟨fun _=>?_,fun h=>absurd h (by first|decide|(simp;done)|fail)⟩;(conv=>whnf))|(refine⟨fun h=>absurd h (by first|decide|(simp;done)|fail),fun _=>?_⟩;(conv=>whnf))|fail));refine Or.inl ⟨5,vb3 ?_⟩;refine⟨fun _=>?_,fun h=>absurd (zA0 h) va9⟩;conv=>whnf
 refine⟨⟨va8,by simp⟩,vb3 ?_⟩;refine⟨fun hh=>?_,fun hh=>?_⟩
 ·(conv=>whnf);refine Or.inl (vb3 ?_);refine⟨_,f3,vb3 ?_⟩;refine⟨fun hh=>?_,fun hh=>?_⟩
  ·(conv=>whnf);rw[show IntKind.i64.wrap (0+1)=1 from by decide];refine⟨fun _=>?_,fun h=>absurd (zA0 h) va9⟩;conv=>whnf
   refine⟨⟨va8,by simp⟩,vb3 ?_⟩;refine⟨fun hh=>?_,fun hh=>?_⟩
   ·(conv=>whnf);refine Or.inl (vb3 ?_);refine⟨_,f4,vb3 ?_⟩;refine⟨fun hh=>?_,fun hh=>?_⟩
    ·(conv=>whnf);rw[show IntKind.i64.wrap (1+1)=2 from by decide];refine⟨fun _=>?_,fun h=>absurd (zA0 h) va9⟩;conv=>whnf
     refine⟨⟨va8,by simp⟩,vb3 ?_⟩;refine⟨fun hh=>?_,fun hh=>?_⟩
     ·(conv=>whnf);refine Or.inl (vb3 ?_);refine⟨_,f5,vb3 ?_⟩;refine⟨fun hh=>?_,fun hh=>?_⟩
      ·(conv=>whnf);rw[show IntKind.i64.wrap (2+1)=3 from by decide];refine⟨fun _=>?_,fun h=>absurd (zA0 h) va9⟩;conv=>whnf
       refine⟨⟨va8,by simp⟩,vb3 ?_⟩;refine⟨fun hh=>?_,fun hh=>?_⟩
       ·(conv=>whnf);refine Or.inl (vb3 ?_);refine⟨_,f6,vb3 ?_⟩;refine⟨fun hh=>?_,fun hh=>?_⟩
        ·(conv=>whnf);rw[show IntKind.i64.wrap (3+1)=4 from by decide];refine⟨fun h=>absurd (zA1 h) va9,fun _=>?_⟩;conv=>whnf
         refine⟨fun hh=>?_,fun hh=>?_⟩
         ·(conv=>whnf)
          (clear f1 f2 c1 c2 f3 f4 f5 f6;first|(simp_all;done)|(simp_all;intros;omega))
         ·(conv=>whnf)
          (clear f1 f2 c1 c2 f3 f4 f5 f6;first|(simp_all;done)|(simp_all;intros;omega))
        ·(conv=>whnf);rw[show IntKind.i64.wrap (3+1)=4 from by decide];refine⟨fun h=>absurd (zA1 h) va9,fun _=>?_⟩;conv=>whnf
         (clear f1 f2 c1 c2 f3 f4 f5 f6;first|(simp_all;done)|(simp_all;intros;omega))
       ·(conv=>whnf);rw[show IntKind.i64.wrap (3+1)=4 from by decide];refine⟨fun h=>absurd (zA1 h) va9,fun _=>?_⟩;conv=>whnf
        (clear f1 f2 c1 c2 f3 f4 f5 f6;first|(simp_all;done)|(simp_all;intros;omega))
      ·(conv=>whnf);rw[show IntKind.i64.wrap (2+1)=3 from by decide];refine⟨fun _=>?_,fun h=>absurd (zA0 h) va9⟩;conv=>whnf
       refine⟨⟨va8,by simp⟩,vb3 ?_⟩;rw[show IntKind.i64.wrap (3+1)=4 from by decide];refine⟨fun h=>absurd (zA1 h) va9,fun _=>?_⟩;conv=>whnf
       (clear f1 f2 c1 c2 f3 f4 f5 f6;first|(simp_all;done)|(simp_all;intros;omega))
     ·(conv=>whnf);rw[show IntKind.i64.wrap (2+1)=3 from by decide];refine⟨fun _=>?_,fun h=>absurd (zA0 h) va9⟩;conv=>whnf
      refine⟨⟨va8,by simp⟩,vb3 ?_⟩;rw[show IntKind.i64.wrap (3+1)=4 from by decide];refine⟨fun h=>absurd (zA1 h) va9,fun _=>?_⟩;conv=>whnf
      (clear f1 f2 c1 c2 f3 f4 f5 f6;first|(simp_all;done)|(simp_all;intros;omega))
    ·(conv=>whnf);rw[show IntKind.i64.wrap (1+1)=2 from by decide];refine⟨fun _=>?_,fun h=>absurd (zA0 h) va9⟩;conv=>whnf
     refine⟨⟨va8,by simp⟩,vb3 ?_⟩;rw[show IntKind.i64.wrap (2+1)=3 from by decide];refine⟨fun _=>?_,fun h=>absurd (zA0 h) va9⟩;conv=>whnf
     refine⟨⟨va8,by simp⟩,vb3 ?_⟩;rw[show IntKind.i64.wrap (3+1)=4 from by decide];refine⟨fun h=>absurd (zA1 h) va9,fun _=>?_⟩;conv=>whnf
     (clear f1 f2 c1 c2 f3 f4 f5 f6;first|(simp_all;done)|(simp_all;intros;omega))
   ·(conv=>whnf);rw[show IntKind.i64.wrap (1+1)=2 from by decide];refine⟨fun _=>?_,fun h=>absurd (zA0 h) va9⟩;conv=>whnf
    refine⟨⟨va8,by simp⟩,vb3 ?_⟩;rw[show IntKind.i64.wrap (2+1)=3 from by decide];refine⟨fun _=>?_,fun h=>absurd (zA0 h) va9⟩;conv=>whnf
    refine⟨⟨va8,by simp⟩,vb3 ?_⟩;rw[show IntKind.i64.wrap (3+1)=4 from by decide];refine⟨fun h=>absurd (zA1 h) va9,fun _=>?_⟩;conv=>whnf
    (clear f1 f2 c1 c2 f3 f4 f5 f6;first|(simp_all;done)|(simp_all;intros;omega))
  ·(conv=>whnf);rw[show IntKind.i64.wrap (0+1)=1 from by decide];refine⟨fun _=>?_,fun h=>absurd (zA0 h) va9⟩;conv=>whnf
   refine⟨⟨va8,by simp⟩,vb3 ?_⟩;rw[show IntKind.i64.wrap (1+1)=2 from by decide];refine⟨fun _=>?_,fun h=>absurd (zA0 h) va9⟩;conv=>whnf
   refine⟨⟨va8,by simp⟩,vb3 ?_⟩;rw[show IntKind.i64.wrap (2+1)=3 from by decide];refine⟨fun _=>?_,fun h=>absurd (zA0 h) va9⟩;conv=>whnf
   refine⟨⟨va8,by simp⟩,vb3 ?_⟩;rw[show IntKind.i64.wrap (3+1)=4 from by decide];refine⟨fun h=>absurd (zA1 h) va9,fun _=>?_⟩;conv=>whnf
   (clear f1 f2 c1 c2 f3 f4 f5 f6;first|(simp_all;done)|(simp_all;intros;omega))
 ·(conv=>whnf);rw[show IntKind.i64.wrap (0+1)=1 from by decide];refine⟨fun _=>?_,fun h=>absurd (zA0 h) va9⟩;conv=>whnf
  refine⟨⟨va8,by simp⟩,vb3 ?_⟩;rw[show IntKind.i64.wrap (1+1)=2 from by decide];refine⟨fun _=>?_,fun h=>absurd (zA0 h) va9⟩;conv=>whnf
  refine⟨⟨va8,by simp⟩,vb3 ?_⟩;rw[show IntKind.i64.wrap (2+1)=3 from by decide];refine⟨fun _=>?_,fun h=>absurd (zA0 h) va9⟩;conv=>whnf
  refine⟨⟨va8,by simp⟩,vb3 ?_⟩;rw[show IntKind.i64.wrap (3+1)=4 from by decide];refine⟨fun h=>absurd (zA1 h) va9,fun _=>?_⟩;conv=>whnf
  (clear f1 f2 c1 c2 f3 f4 f5 f6;first|(simp_all;done)|(simp_all;intros;omega))
theorem Z7(g:v7):va6 103 [PA g] (i64 (if N0 g then 0 else 8)):=by
 have f1:=Z6 1 255 (G2 g);have f2:=Z6 0 64 (E7 g);have c1:=dH (I6 g);have c2:=dH (pQ g);have bad:∀ {x:Bool},N0 g=x->x=false->(8:Int)=if N0 g=true then 0 else 8:=fun h h'=>by rw[h,h'];rfl
 cases w1:B6 (G2 g) 1 255
 ·rw[w1]at f1;have e:N0 g=false:=by unfold N0;rw[w1];rfl
  rw[e];exact UO (G2 g) (E7 g) (I6 g).1.1 (I6 g).1.2 (I6 g).2.1 (I6 g).2.2 g.1.2.1 g.1.2.2 g.2.1 g.2.2 f1
 cases w2:B6 (E7 g) 0 64
 ·rw[w1]at f1;rw[w2]at f2;have e:N0 g=false:=by unfold N0;rw[w1,w2];rfl
  rw[e];exact UP (G2 g) (E7 g) (I6 g).1.1 (I6 g).1.2 (I6 g).2.1 (I6 g).2.2 g.1.2.1 g.1.2.2 g.2.1 g.2.2 f1 f2
 cases s1:y9 (I6 g)
 ·rw[w1]at f1;rw[w2]at f2;rw[s1]at c1;have e:N0 g=false:=by unfold N0;rw[w1,w2,s1];rfl
  rw[e];exact UQ (G2 g) (E7 g) (I6 g).1.1 (I6 g).1.2 (I6 g).2.1 (I6 g).2.2 g.1.2.1 g.1.2.2 g.2.1 g.2.2 f1 f2 c1
 cases s2:y9 (pQ g)
 ·rw[w1]at f1;rw[w2]at f2;rw[s1]at c1;rw[s2]at c2;have e:N0 g=false:=by unfold N0;rw[w1,w2,s1,s2];rfl
  rw[e];exact UR (G2 g) (E7 g) (I6 g).1.1 (I6 g).1.2 (I6 g).2.1 (I6 g).2.2 g.1.2.1 g.1.2.2 g.2.1 g.2.2 f1 f2 c1 c2
 rw[w1]at f1;rw[w2]at f2;rw[s1]at c1;rw[s2]at c2;have h:=US (G2 g) (E7 g) (I6 g).1.1 (I6 g).1.2 (I6 g).2.1 (I6 g).2.2 g.1.2.1 g.1.2.2 g.2.1 g.2.2 _ _ _ _ f1 f2 c1 c2 (Z6 _ _ _) (Z6 _ _ _) (Z6 _ _ _) (Z6 _ _ _);have e:N0 g=(decide (0<(I6 g).1.1) && (B6 (I6 g).1.1 (-1000000) 1000000 && decide ((I6 g).1.2<=1000000) && (B6 (I6 g).2.1 (-1000000) 1000000 && decide ((I6 g).2.2<=1000000)) && (B6 g.1.2.1 (-1000000) 1000000 && decide (g.1.2.2<=1000000)) && (B6 g.2.1 (-1000000) 1000000 && decide (g.2.2<=1000000)))):=by
  unfold N0;rw[w1,w2,s1,s2];rfl
 rw[e];exact h
def uk(p:List Int):Nat->Int
 | 0=>p.getD 0 0
 | k+1=>if p.getD (k+1) 0 > uk p k then p.getD (k+1) 0 else uk p k
theorem Nw(p:List Int):∀ k j,j<=k->p.getD j 0<=uk p k
 | 0,j,h=>by
  obtain rfl:j=0:=va5;exact Int.le_refl _
 | k+1,j,h=>by
  by_cases e:j=k+1
  ·subst e;simp only[uk];split<;>omega
  ·have:=Nw p k j va5;simp only[uk];split<;>omega
theorem Aa(p:List Int):∀ k,∃ j,j<=k/\uk p k=p.getD j 0
 | 0=>⟨0,va5,rfl⟩
 | k+1=>by
  obtain⟨j,h1,h2⟩:=Aa p k;simp only[uk];split
  ·exact⟨k+1,va5,rfl⟩
  ·exact⟨j,va5,h2⟩
theorem UT(p:List Int)(h0:0<p.length)(hl:p.length<2^40):va6 153 [A9 p] (i64 (uk p (p.length-1))):=by
 refine vb4 Tryz.func153 ?_;refine⟨fun h=>absurd h (by simp;omega),fun _=>?_⟩;conv=>whnf
 refine⟨⟨va5,va5⟩,vb3 ?_⟩;refine Or.inr ⟨Nat,[3,4],[],[],fun k=>[i64 (uk p k),i64 ((k+1:Nat):Int)],fun _=>[],fun _=>[],fun k=>p.length-k,fun k=>k+1<=p.length,vb3 ?_⟩;refine⟨⟨0,?_⟩,?_⟩
 ·(conv=>whnf);exact kK ⟨va5,rfl,rfl,rfl⟩
 ·intro k hk;conv=>whnf
  refine⟨fun h=>?_,fun h=>?_⟩
  ·have h:=zA1 h;conv=>whnf
   refine⟨⟨va5,va5⟩,vb3 ?_⟩;refine⟨k+1,vb3 ?_⟩;refine kK ⟨⟨Nat.sub_lt_sub_left va5 (Nat.lt_succ_self k),va5⟩,?_,rfl,rfl⟩;rw[z5 _ va5 va5];rfl
  ·have h:=zA0 h;obtain rfl:k=p.length-1:=by omega
   conv=>whnf
theorem Nx{p:List Int}{thr a8:Int}(hp:H8 p=true)(t1:1<=thr)(t2:thr<=255):(cP (D8 p a8) thr).2=decide (thr<=uk p (p.length-1)+a8):=by
 have hlen:=M3 hp;have hv:∀ j,j<p.length->(M7 (D8 p a8) 0 1 j<thr↔p.getD j 0+a8<thr):=by
  intro j hj;unfold M7;rw[show((0:Int)+1*(j:Int)).toNat=j by omega,kJ,if_pos hj];unfold T2;split
  ·omega
  ·split<;>omega
 have e:(cP (D8 p a8) thr).2=(vX (D8 p a8) thr 0 1).2:=by
  unfold cP;cases h:(vX (D8 p a8) thr 0 1).2<;>simp
 rw[e];obtain⟨j,wS,DX⟩:=Aa p (p.length-1);cases hb:ub (D8 p a8) thr 0 1 with
 | none =>
  rw[cQ hb];have:=eJ.1 hb;have h1:=(hv j va5).1 (this j (by simp[H4,x9];omega));rw[<- DX]at h1;simp;omega
 | some k =>
  rw[M1 hb];obtain⟨h1,h2,_⟩:=G4.1 hb;simp[H4,x9]at h1;have h3:=mt (hv k va5).2 va5;have:=Nw p (p.length-1) k va5;simp;omega
abbrev WK:V3:=((0,1),(0,1))
def um(g:v7)(w m:V3×Int)(v:Int):V3×Int×Int :=
 if w.2=6 then(WK,v,0)else if w.2=0 then(if m.2=0 then(m.1,mA m.1 (pQ g),0)else(zS,0,m.2))else(zS,0,w.2)
def E8(g:v7)(p:List Int):V3×Int×Int :=
 if N0 g then um g (J9 p (G2 g) (E7 g)) (W7 (J9 p (G2 g) (E7 g)).1 (I6 g)) (if G2 g<=uk p (p.length-1)+E7 g then 3 else 2)else(zS,0,8)
theorem X8{g:v7}(h:N0 g=true):(1<=G2 g/\G2 g<=255)/\(0<=E7 g/\E7 g<=64)/\y9 (I6 g)=true/\y9 (pQ g)=true/\0<(I6 g).1.1/\(Be (I6 g).1=true/\Be (I6 g).2=true/\Be g.1.2=true/\Be g.2=true):=by
 simp only[N0,B6,zA2,zA3]at h;simp only[and_assoc]at h ⊢;exact h
theorem nZ{p:List Int}{thr a8:Int}(t1:1<=thr)(t2:thr<=255)(n1:0<=a8)(n2:a8<=64) :
  (H8 p=false/\J9 p thr a8=(zS,50))∨(H8 p=true/\((J9 p thr a8)=(zS,6)∨(J9 p thr a8).2=0)):=by
 unfold J9;cases hp:H8 p
 ·left;simp
 ·right
  have hlen:=M3 hp;have hq:eN p thr 0 a8=true:=by
   simp only[eN,zA2,zA3];omega
  rw[hq];simp only[if_true,true_and];rcases zO (p:=p) va5 hlen.2 t1 t2 n1 with ⟨h1,h2⟩|⟨h1,h2,_,_,h3,h4,_⟩
  ·exact .inl h2
  ·exact .inr h4
theorem Jv(thr a8 a1 a2 b1 b2 l1 l2 h1 h2:Int)(p:List Int)
  (c1:va6 103 [.agg [i64 thr,i64 a8,i64 a1,i64 a2,i64 b1,i64 b2,i64 l1,i64 l2,i64 h1,i64 h2]] (i64 8)) :
  va6 105 [.agg [i64 thr,i64 a8,i64 a1,i64 a2,i64 b1,i64 b2,i64 l1,i64 l2,i64 h1,i64 h2],A9 p] (.tup [sp zS,u8 0,i64 8]):=by
 refine vb4 Tryz.func105 ?_;(repeat' (first|(refine⟨_,by first|with_reducible exact c1,?_⟩;(conv=>whnf))|(refine Or.inl ?_;(conv=>whnf);refine⟨_,by first|with_reducible exact c1,?_⟩;(conv=>whnf))|(refine Or.inl ?_;(conv=>whnf);refine⟨false,?_⟩;(conv=>whnf);refine⟨_,by first|with_reducible exact c1,?_⟩;(conv=>whnf))|(refine⟨va4,?_⟩;(conv=>whnf))|(refine⟨fun _=>?_,fun h=>absurd h (by first|decide|(simp;done)|fail)⟩;(conv=>whnf))|(refine⟨fun h=>absurd h (by first|decide|(simp;done)|fail),fun _=>?_⟩;(conv=>whnf))|fail))
theorem UU(thr a8 a1 a2 b1 b2 l1 l2 h1 h2 M v ve:Int)(p:List Int)(gb:Bool)(w m:V3×Int)
  (c1:va6 103 [.agg [i64 thr,i64 a8,i64 a1,i64 a2,i64 b1,i64 b2,i64 l1,i64 l2,i64 h1,i64 h2]] (i64 (if gb then 0 else 8)))
  (c2:va6 152 [A9 p,i64 thr,i64 a8] (.tup [sp w.1,i64 w.2])) (cm:w.2=6->va6 153 [A9 p] (i64 M))
  (c3:va6 155 [sp w.1,sp ((a1,a2),(b1,b2))] (.tup [sp m.1,i64 m.2])) (c4:va6 156 [sp m.1,fr (l1,l2),fr (h1,h2)] (.tup [u8 v,i64 ve]))
  (wz:va6 154 [i64 0] (fr (0,1))) (wm:w.2=6->IntKind.i64.wrap (M+a8)=M+a8) :
  va6 105 [.agg [i64 thr,i64 a8,i64 a1,i64 a2,i64 b1,i64 b2,i64 l1,i64 l2,i64 h1,i64 h2],A9 p]
   (.tup [sp (if gb then(if w.2=6 then(WK,(if thr<=M+a8 then(3:Int)else 2),(0:Int))else if w.2=0 then(if m.2=0 then(m.1,v,ve)else(zS,0,m.2))else(zS,0,w.2))else(zS,0,8)).1,
    u8 (if gb then(if w.2=6 then(WK,(if thr<=M+a8 then(3:Int)else 2),(0:Int))else if w.2=0 then(if m.2=0 then(m.1,v,ve)else(zS,0,m.2))else(zS,0,w.2))else(zS,0,8)).2.1,
    i64 (if gb then(if w.2=6 then(WK,(if thr<=M+a8 then(3:Int)else 2),(0:Int))else if w.2=0 then(if m.2=0 then(m.1,v,ve)else(zS,0,m.2))else(zS,0,w.2))else(zS,0,8)).2.2]):=by
 refine vb4 Tryz.func105 ?_;(repeat' (first|(refine⟨_,by first|with_reducible exact c1,?_⟩;(conv=>whnf))|(refine Or.inl ?_;(conv=>whnf);refine⟨_,by first|with_reducible exact c1,?_⟩;(conv=>whnf))|(refine Or.inl ?_;(conv=>whnf);refine⟨false,?_⟩;(conv=>whnf);refine⟨_,by first|with_reducible exact c1,?_⟩;(conv=>whnf))|(refine⟨va4,?_⟩;(conv=>whnf))|fail));refine⟨fun hh=>?_,fun hh=>?_⟩
 ·(conv=>whnf);clear c1 c2 c3 c4 cm wz wm;cases gb<;>simp_all
 conv=>whnf
 (repeat' (first|(refine⟨_,by first|with_reducible exact c2,?_⟩;(conv=>whnf))|(refine Or.inl ?_;(conv=>whnf);refine⟨_,by first|with_reducible exact c2,?_⟩;(conv=>whnf))|(refine Or.inl ?_;(conv=>whnf);refine⟨false,?_⟩;(conv=>whnf);refine⟨_,by first|with_reducible exact c2,?_⟩;(conv=>whnf))|(refine⟨va4,?_⟩;(conv=>whnf))|fail));refine⟨fun h6=>?_,fun h6=>?_⟩
 ·have h6:=zA1 h6;have cm:=cm h6;have wm:=wm h6;conv=>whnf
  (repeat' (first|(refine⟨_,by first|with_reducible exact cm,?_⟩;(conv=>whnf))|(refine Or.inl ?_;(conv=>whnf);refine⟨_,by first|with_reducible exact cm,?_⟩;(conv=>whnf))|(refine Or.inl ?_;(conv=>whnf);refine⟨false,?_⟩;(conv=>whnf);refine⟨_,by first|with_reducible exact cm,?_⟩;(conv=>whnf))|(refine⟨va4,?_⟩;(conv=>whnf))|fail));rw[wm];refine⟨fun hM=>?_,fun hM=>?_⟩
  ·(conv=>whnf);(repeat' (first|(refine⟨_,by first|with_reducible exact wz,?_⟩;(conv=>whnf))|(refine Or.inl ?_;(conv=>whnf);refine⟨_,by first|with_reducible exact wz,?_⟩;(conv=>whnf))|(refine Or.inl ?_;(conv=>whnf);refine⟨false,?_⟩;(conv=>whnf);refine⟨_,by first|with_reducible exact wz,?_⟩;(conv=>whnf))|(refine⟨va4,?_⟩;(conv=>whnf))|fail));clear c1 c2 c3 c4 cm wz wm;cases gb<;>simp_all
  ·(conv=>whnf);(repeat' (first|(refine⟨_,by first|with_reducible exact wz,?_⟩;(conv=>whnf))|(refine Or.inl ?_;(conv=>whnf);refine⟨_,by first|with_reducible exact wz,?_⟩;(conv=>whnf))|(refine Or.inl ?_;(conv=>whnf);refine⟨false,?_⟩;(conv=>whnf);refine⟨_,by first|with_reducible exact wz,?_⟩;(conv=>whnf))|(refine⟨va4,?_⟩;(conv=>whnf))|fail));clear c1 c2 c3 c4 cm wz wm;cases gb<;>simp_all
 conv=>whnf
 refine⟨fun h7=>?_,fun h7=>?_⟩
 ·(conv=>whnf);clear c1 c2 c3 c4 cm wz wm;cases gb<;>simp_all
 conv=>whnf
 (repeat' (first|(refine⟨_,by first|with_reducible exact c3,?_⟩;(conv=>whnf))|(refine Or.inl ?_;(conv=>whnf);refine⟨_,by first|with_reducible exact c3,?_⟩;(conv=>whnf))|(refine Or.inl ?_;(conv=>whnf);refine⟨false,?_⟩;(conv=>whnf);refine⟨_,by first|with_reducible exact c3,?_⟩;(conv=>whnf))|(refine⟨va4,?_⟩;(conv=>whnf))|fail));refine⟨fun h8=>?_,fun h8=>?_⟩
 ·(conv=>whnf);clear c1 c2 c3 c4 cm wz wm;cases gb<;>simp_all
 conv=>whnf
 (repeat' (first|(refine⟨_,by first|with_reducible exact c4,?_⟩;(conv=>whnf))|(refine Or.inl ?_;(conv=>whnf);refine⟨_,by first|with_reducible exact c4,?_⟩;(conv=>whnf))|(refine Or.inl ?_;(conv=>whnf);refine⟨false,?_⟩;(conv=>whnf);refine⟨_,by first|with_reducible exact c4,?_⟩;(conv=>whnf))|(refine⟨va4,?_⟩;(conv=>whnf))|fail));clear c1 c2 c3 c4 cm wz wm;cases gb<;>simp_all
theorem mB(g:v7)(p:List Int)(hl:p.length<2^40):va6 105 [PA g,A9 p] (.tup [sp (E8 g p).1,u8 (E8 g p).2.1,i64 (E8 g p).2.2]):=by
 have six:(J9 p (G2 g) (E7 g)).2=6->H8 p=true:=fun h=>by
  unfold J9 at h;cases hp:H8 p
  ·rw[hp]at h;simp at h
  ·rfl
 have hM:(J9 p (G2 g) (E7 g)).2=6->N0 g=true->IntKind.i64.wrap (uk p (p.length-1)+E7 g)=uk p (p.length-1)+E7 g:=fun h hg=>by
  have hlen:=M3 (six h);obtain⟨j,wS,DX⟩:=Aa p (p.length-1);have hv:=dV (six h) j va5;rw[<- DX]at hv;have:=(X8 hg).2.1;exact z5 _ va5 va5
 cases hg:N0 g
 ·have e:E8 g p=(zS,0,8):=by unfold E8;rw[hg];rfl
  rw[e];have c1:=Z7 g;rw[hg]at c1;exact Jv (G2 g) (E7 g) (I6 g).1.1 (I6 g).1.2 (I6 g).2.1 (I6 g).2.2 g.1.2.1 g.1.2.2 g.2.1 g.2.2 p c1
 ·have h:=UU (G2 g) (E7 g) (I6 g).1.1 (I6 g).1.2 (I6 g).2.1 (I6 g).2.2 g.1.2.1 g.1.2.2 g.2.1 g.2.2 (uk p (p.length-1)) (zY (W7 (J9 p (G2 g) (E7 g)).1 (I6 g)).1 (pQ g)).1 (zY (W7 (J9 p (G2 g) (E7 g)).1 (I6 g)).1 (pQ g)).2 p (N0 g) (J9 p (G2 g) (E7 g)) (W7 (J9 p (G2 g) (E7 g)).1 (I6 g))
   (Z7 g) (Jq p (G2 g) (E7 g) hl) (fun h6=>UT p (by have:=M3 (six h6);omega) hl) (Cx _ _) (Ju _ _ _) (gX 0) (fun h6=>hM h6 hg)
  have e:E8 g p=(if N0 g=true then(if (J9 p (G2 g) (E7 g)).2=6 then(WK,(if G2 g<=uk p (p.length-1)+E7 g then(3:Int)else 2),(0:Int))else if (J9 p (G2 g) (E7 g)).2=0 then(if (W7 (J9 p (G2 g) (E7 g)).1 (I6 g)).2=0 then((W7 (J9 p (G2 g) (E7 g)).1 (I6 g)).1,(zY (W7 (J9 p (G2 g) (E7 g)).1 (I6 g)).1 (pQ g)).1,(zY (W7 (J9 p (G2 g) (E7 g)).1 (I6 g)).1 (pQ g)).2)else(zS,0,(W7 (J9 p (G2 g) (E7 g)).1 (I6 g)).2))else(zS,0,(J9 p (G2 g) (E7 g)).2))else(zS,0,8)):=by
   unfold E8 um;rw[hg];simp only[if_true];split
   ·rfl
   ·split
    ·split
     ·rename_i h3;have hd:zY (W7 (J9 p (G2 g) (E7 g)).1 (I6 g)).1 (pQ g)=(mA (W7 (J9 p (G2 g) (E7 g)).1 (I6 g)).1 (pQ g),0):=by
       unfold zY;rw[(zP h3).2.2,(X8 hg).2.2.2.1];rfl
      rw[hd]
     ·rfl
    ·rfl
  rw[<- e]at h;exact h
abbrev PB(thr a8 a1 a2 b1 b2 l1 l2 h1 h2:Int):AV := .agg [i64 thr,i64 a8,i64 a1,i64 a2,i64 b1,i64 b2,i64 l1,i64 l2,i64 h1,i64 h2]
theorem Ye(thr a8 a1 a2 b1 b2 l1 l2 h1 h2:Int)(p:List Int)(c1:va6 128 [PB thr a8 a1 a2 b1 b2 l1 l2 h1 h2] (.bool false)) :
  va6 132 [PB thr a8 a1 a2 b1 b2 l1 l2 h1 h2,A9 p] (.tup [sp zS,u8 0,i64 8]):=by
 refine vb4 Tryz.func132 ?_;(repeat' (first|(refine⟨_,by first|with_reducible exact c1,?_⟩;(conv=>whnf))|(refine Or.inl ?_;(conv=>whnf);refine⟨_,by first|with_reducible exact c1,?_⟩;(conv=>whnf))|(refine Or.inl ?_;(conv=>whnf);refine⟨false,?_⟩;(conv=>whnf);refine⟨_,by first|with_reducible exact c1,?_⟩;(conv=>whnf))|(refine⟨va4,?_⟩;(conv=>whnf))|(refine⟨fun _=>?_,fun h=>absurd h (by first|decide|(simp;done)|fail)⟩;(conv=>whnf))|(refine⟨fun h=>absurd h (by first|decide|(simp;done)|fail),fun _=>?_⟩;(conv=>whnf))|fail))
theorem Yf(thr a8 a1 a2 b1 b2 l1 l2 h1 h2:Int)(p:List Int)(c1:va6 128 [PB thr a8 a1 a2 b1 b2 l1 l2 h1 h2] (.bool true))
  (c2:va6 80 [A9 p] (.bool false)) :
  va6 132 [PB thr a8 a1 a2 b1 b2 l1 l2 h1 h2,A9 p] (.tup [sp zS,u8 0,i64 50]):=by
 refine vb4 Tryz.func132 ?_;(repeat' (first|(refine⟨_,by first|with_reducible exact c1|with_reducible exact c2,?_⟩;(conv=>whnf))|(refine Or.inl ?_;(conv=>whnf);refine⟨_,by first|with_reducible exact c1|with_reducible exact c2,?_⟩;(conv=>whnf))|(refine Or.inl ?_;(conv=>whnf);refine⟨false,?_⟩;(conv=>whnf);refine⟨_,by first|with_reducible exact c1|with_reducible exact c2,?_⟩;(conv=>whnf))|(refine⟨va4,?_⟩;(conv=>whnf))|(refine⟨fun _=>?_,fun h=>absurd h (by first|decide|(simp;done)|fail)⟩;(conv=>whnf))|(refine⟨fun h=>absurd h (by first|decide|(simp;done)|fail),fun _=>?_⟩;(conv=>whnf))|fail))
theorem Yg(thr a8 a1 a2 b1 b2 l1 l2 h1 h2:Int)(p q:List Int)(x1 x2:Int)(b:Bool)(c1:va6 128 [PB thr a8 a1 a2 b1 b2 l1 l2 h1 h2] (.bool true))
  (c2:va6 80 [A9 p] (.bool true)) (c3:va6 180 [A9 p,i64 thr,i64 a8] (.tup [.agg [i64 0,i64 0,i64 0,i64 0],i64 6])) (c4:va6 182 [A9 p,i64 a8] (A9 q))
  (c5:va6 181 [A9 q,i64 thr] (.tup [.agg [i64 x1,i64 x2],.bool b])) :
  va6 132 [PB thr a8 a1 a2 b1 b2 l1 l2 h1 h2,A9 p] (.tup [.agg [i64 0,i64 1,i64 0,i64 1],u8 (if b then 3 else 2),i64 0]):=by
 refine vb4 Tryz.func132 ?_;(repeat' (first|(refine⟨_,by first|with_reducible exact c1|with_reducible exact c2|with_reducible exact c3|with_reducible exact c4|with_reducible exact c5,?_⟩;(conv=>whnf))|(refine Or.inl ?_;(conv=>whnf);refine⟨_,by first|with_reducible exact c1|with_reducible exact c2|with_reducible exact c3|with_reducible exact c4|with_reducible exact c5,?_⟩;(conv=>whnf))|(refine Or.inl ?_;(conv=>whnf);refine⟨false,?_⟩;(conv=>whnf);refine⟨_,by first|with_reducible exact c1|with_reducible exact c2|with_reducible exact c3|with_reducible exact c4|with_reducible exact c5,?_⟩;(conv=>whnf))|(refine⟨va4,?_⟩;(conv=>whnf))|(refine⟨fun _=>?_,fun h=>absurd h (by first|decide|(simp;done)|fail)⟩;(conv=>whnf))|(refine⟨fun h=>absurd h (by first|decide|(simp;done)|fail),fun _=>?_⟩;(conv=>whnf))|fail));refine⟨fun h=>?_,fun h=>?_⟩
 ·subst h;conv=>whnf
  try rfl
 ·subst h;conv=>whnf
  try rfl
theorem Yh(thr a8 a1 a2 b1 b2 l1 l2 h1 h2:Int)(p:List Int)(w m:V3)(me:Int)(Ab:me≠0)(c1:va6 128 [PB thr a8 a1 a2 b1 b2 l1 l2 h1 h2] (.bool true))
  (c2:va6 80 [A9 p] (.bool true)) (c3:va6 180 [A9 p,i64 thr,i64 a8] (.tup [sp w,i64 0])) (c4:va6 183 [sp w,sp ((a1,a2),(b1,b2))] (.tup [sp m,i64 me])) :
  va6 132 [PB thr a8 a1 a2 b1 b2 l1 l2 h1 h2,A9 p] (.tup [sp zS,u8 0,i64 me]):=by
 refine vb4 Tryz.func132 ?_;(repeat' (first|(refine⟨_,by first|with_reducible exact c1|with_reducible exact c2|with_reducible exact c3|with_reducible exact c4,?_⟩;(conv=>whnf))|(refine Or.inl ?_;(conv=>whnf);refine⟨_,by first|with_reducible exact c1|with_reducible exact c2|with_reducible exact c3|with_reducible exact c4,?_⟩;(conv=>whnf))|(refine Or.inl ?_;(conv=>whnf);refine⟨false,?_⟩;(conv=>whnf);refine⟨_,by first|with_reducible exact c1|with_reducible exact c2|with_reducible exact c3|with_reducible exact c4,?_⟩;(conv=>whnf))|(refine⟨va4,?_⟩;(conv=>whnf))|(refine⟨fun _=>?_,fun h=>absurd h (by first|decide|(simp;done)|fail)⟩;(conv=>whnf))|(refine⟨fun h=>absurd h (by first|decide|(simp;done)|fail),fun _=>?_⟩;(conv=>whnf))|fail));refine⟨fun _=>?_,fun h=>absurd (show me=0 by simpa using h) Ab⟩;conv=>whnf
theorem Yi(thr a8 a1 a2 b1 b2 l1 l2 h1 h2:Int)(p:List Int)(w m:V3)(v:Int)(c1:va6 128 [PB thr a8 a1 a2 b1 b2 l1 l2 h1 h2] (.bool true))
  (c2:va6 80 [A9 p] (.bool true)) (c3:va6 180 [A9 p,i64 thr,i64 a8] (.tup [sp w,i64 0])) (c4:va6 183 [sp w,sp ((a1,a2),(b1,b2))] (.tup [sp m,i64 0]))
  (c5:va6 184 [sp m,fr (l1,l2),fr (h1,h2)] (u8 v)) :
  va6 132 [PB thr a8 a1 a2 b1 b2 l1 l2 h1 h2,A9 p] (.tup [sp m,u8 v,i64 0]):=by
 refine vb4 Tryz.func132 ?_;(repeat' (first|(refine⟨_,by first|with_reducible exact c1|with_reducible exact c2|with_reducible exact c3|with_reducible exact c4|with_reducible exact c5,?_⟩;(conv=>whnf))|(refine Or.inl ?_;(conv=>whnf);refine⟨_,by first|with_reducible exact c1|with_reducible exact c2|with_reducible exact c3|with_reducible exact c4|with_reducible exact c5,?_⟩;(conv=>whnf))|(refine Or.inl ?_;(conv=>whnf);refine⟨false,?_⟩;(conv=>whnf);refine⟨_,by first|with_reducible exact c1|with_reducible exact c2|with_reducible exact c3|with_reducible exact c4|with_reducible exact c5,?_⟩;(conv=>whnf))|(refine⟨va4,?_⟩;(conv=>whnf))|(refine⟨fun _=>?_,fun h=>absurd h (by first|decide|(simp;done)|fail)⟩;(conv=>whnf))|(refine⟨fun h=>absurd h (by first|decide|(simp;done)|fail),fun _=>?_⟩;(conv=>whnf))|fail))
theorem iZ(g:v7)(p:List Int)(hI:IG g)(hl:p.length<2^40):va6 132 [PA g,A9 p] (.tup [sp (E8 g p).1,u8 (E8 g p).2.1,i64 (E8 g p).2.2]):=by
 have c1:=gd g hI;have c2:=N9 p hl;have c3:=Fl p (G2 g) (E7 g) hl;cases hg:N0 g
 ·have e:E8 g p=(zS,0,8):=by unfold E8;rw[hg];rfl
  rw[e];rw[hg]at c1;exact Ye (G2 g) (E7 g) (I6 g).1.1 (I6 g).1.2 (I6 g).2.1 (I6 g).2.2 g.1.2.1 g.1.2.2 g.2.1 g.2.2 p c1
 rw[hg]at c1;obtain⟨⟨t1,t2⟩,⟨n1,n2⟩,hsc,a1h,_⟩:=X8 hg;have e:E8 g p=um g (J9 p (G2 g) (E7 g)) (W7 (J9 p (G2 g) (E7 g)).1 (I6 g)) (if G2 g<=uk p (p.length-1)+E7 g then 3 else 2):=by unfold E8;rw[hg];rfl
 rw[e];rcases nZ (p:=p) t1 t2 n1 n2 with ⟨hp,he⟩|⟨hp,he|he⟩
 ·rw[hp]at c2;rw[he];exact Yf (G2 g) (E7 g) (I6 g).1.1 (I6 g).1.2 (I6 g).2.1 (I6 g).2.2 g.1.2.1 g.1.2.2 g.2.1 g.2.2 p c1 c2
 ·rw[hp]at c2;rw[he]at c3 ⊢;have hlen:=M3 hp;have c4:=uj p (E7 g) va5 (dV hp) va5 va5;have c5:=zZ (D8 p (E7 g)) (G2 g) (N8 _ _) (by rw[x9];omega) (by rw[x9];omega) t1 t2;rw[Nx hp t1 t2]at c5;have:=Yg (G2 g) (E7 g) (I6 g).1.1 (I6 g).1.2 (I6 g).2.1 (I6 g).2.2 g.1.2.1 g.1.2.2 g.2.1 g.2.2 p _ _ _ _ c1 c2 c3 c4 c5;by_cases hM:G2 g<=uk p (p.length-1)+E7 g
  ·rw[zA4 hM]at this;rw[if_pos hM];exact this
  ·rw[zA5 hM]at this;rw[if_neg hM];exact this
 ·rw[hp]at c2;rw[he]at c3;have hw:=pP he;have c4:=Nq (J9 p (G2 g) (E7 g)).1 (I6 g) (QR hw.2.2.2.2.1) hI.2.2.1;unfold um;rw[if_neg (by rw[he];decide),if_pos he];by_cases Ab:(W7 (J9 p (G2 g) (E7 g)).1 (I6 g)).2=0
  ·rw[if_pos Ab];rw[Ab]at c4;have c5:=Fm (W7 (J9 p (G2 g) (E7 g)).1 (I6 g)).1 g.1.2 g.2 (zP Ab).2.2 a1h;exact Yi (G2 g) (E7 g) (I6 g).1.1 (I6 g).1.2 (I6 g).2.1 (I6 g).2.2 g.1.2.1 g.1.2.2 g.2.1 g.2.2 p _ _ _ c1 c2 c3 c4 c5
  ·rw[if_neg Ab];exact Yh (G2 g) (E7 g) (I6 g).1.1 (I6 g).1.2 (I6 g).2.1 (I6 g).2.2 g.1.2.1 g.1.2.2 g.2.1 g.2.2 p _ _ _ Ab c1 c2 c3 c4

end Go.Proofs.Tryz.My
