/- PlantSteps of layer 11: whether an order is valid, the world after it, and the answer, or the error, are as the document says; the world and the order stay. -/
import Derived.Test.YtacahppoighegaaGreatMzVyD
import Derived.Test.YtacahppoighegaaGreatMzWxF
import Derived.Test.YtacahppoighegaaGreatMzVs1
import Derived.Test.YtacahppoighegaaGreatMzWdB
set_option linter.unusedVariables false
set_option linter.unusedSimpArgs false
set_option maxRecDepth 100000
set_option maxHeartbeats 0
namespace Go.Proofs.Tryz.My
open Go Go.Ev
theorem Pm{t:r9}(h:t.k9.length=0):(W9 t).k9=[]:=by
 have e:=List.length_eq_zero_iff.1 h;unfold W9 hits;rw[e];split<;>rfl
theorem Pn(w:n8)(g:C9 w)(o:B5)(ho:K9 o=true)(ht:o.o8.length<2^40)(hn:o.a8.length<2^40)(hr:0<=o.n4/\o.n4<=255) :
  va7 7 [ai w,ord o] [] (.tup [Pk (R9 w o) 0 1 2,bw (Q6 w o),i64 0]) (YX (R9 w o)) ∨
  ((R9 w o).o6.k9=[]/\va7 7 [ai w,ord o] [] (.tup [YW (R9 w o) 0 1,bw (Q6 w o),i64 0]) [AS (R9 w o).k8,rM (R9 w o).n6.log]):=by
 have hk:1<=o.kind/\o.kind<=10:=by
  unfold K9 at ho;simp only[zA2,zA3]at ho;exact ho.1.1
 have hb:=Bf g.bk;obtain⟨kind,k7,a7,n,n4,j9,o8,a8⟩:=o;simp only[]at hk ht hn;have cs:kind=1∨kind=2∨kind=3∨kind=4∨kind=5∨kind=6∨kind=7∨kind=8∨kind=9∨kind=10:=by omega
 rcases cs with rfl|rfl|rfl|rfl|rfl|rfl|rfl|rfl|rfl|rfl
 ·by_cases h:I7 w ⟨1,k7,a7,n,n4,j9,o8,a8⟩=0
  ·by_cases hp:(s7 w).k9.length=0
   ·refine Or.inr ⟨?_,Wp w _ g _ ho ht hn hr _ (SO w g k7 a7 n n4 j9 o8 a8 h hp)⟩;rw[(Y6 h).2];exact Pm hp
   ·exact Or.inl (Pl w _ g _ ho ht hn hr _ (Wn w g k7 a7 n n4 j9 o8 a8 h hp))
  ·have c:=SM w g k7 a7 n n4 j9 o8 a8 h;have e:=(J2 h).2;rw[e];exact Or.inl (fo w w g _ ho ht hn hr _ c)
 ·by_cases h:I7 w ⟨2,k7,a7,n,n4,j9,o8,a8⟩=0
  ·by_cases hp:wG w ⟨2,k7,a7,n,n4,j9,o8,a8⟩
   ·exact Or.inl (Wo w _ g _ ho ht hn hr _ (SP w g hb k7 a7 n n4 j9 o8 a8 h hp))
   ·exact Or.inl (Pl w _ g _ ho ht hn hr _ (SR w g hb k7 a7 n n4 j9 o8 a8 h hp))
  ·have c:=SN w g k7 a7 n n4 j9 o8 a8 ht hn h;have e:=(J2 h).2;rw[e];exact Or.inl (fo w w g _ ho ht hn hr _ c)
 ·by_cases h:I7 w ⟨3,k7,a7,n,n4,j9,o8,a8⟩=0
  ·exact Or.inl (mR w _ g _ ho ht hn hr _ (Wg w hb k7 a7 n n4 j9 o8 a8 h))
  ·have c:=SE w hb k7 a7 n n4 j9 o8 a8 h;have e:=(J2 h).2;rw[e];exact Or.inl (fo w w g _ ho ht hn hr _ c)
 ·by_cases h:I7 w ⟨4,k7,a7,n,n4,j9,o8,a8⟩=0
  ·exact Or.inl (mR w _ g _ ho ht hn hr _ (Wh w hb k7 a7 n n4 j9 o8 a8 h))
  ·have c:=SF w hb k7 a7 n n4 j9 o8 a8 h;have e:=(J2 h).2;rw[e];exact Or.inl (fo w w g _ ho ht hn hr _ c)
 ·by_cases h:I7 w ⟨5,k7,a7,n,n4,j9,o8,a8⟩=0
  ·exact Or.inl (mR w _ g _ ho ht hn hr _ (Wi w hb k7 a7 n n4 j9 o8 a8 h))
  ·have c:=SG w hb k7 a7 n n4 j9 o8 a8 h;have e:=(J2 h).2;rw[e];exact Or.inl (fo w w g _ ho ht hn hr _ c)
 ·by_cases h:I7 w ⟨6,k7,a7,n,n4,j9,o8,a8⟩=0
  ·exact Or.inl (mR w _ g _ ho ht hn hr _ (Wj w hb k7 a7 n n4 j9 o8 a8 h))
  ·have c:=SH w hb k7 a7 n n4 j9 o8 a8 h;have e:=(J2 h).2;rw[e];exact Or.inl (fo w w g _ ho ht hn hr _ c)
 ·by_cases h:I7 w ⟨7,k7,a7,n,n4,j9,o8,a8⟩=0
  ·exact Or.inl (mR w _ g _ ho ht hn hr _ (Wk w hb k7 a7 n n4 j9 o8 a8 h))
  ·have c:=SI w hb k7 a7 n n4 j9 o8 a8 h;have e:=(J2 h).2;rw[e];exact Or.inl (fo w w g _ ho ht hn hr _ c)
 ·by_cases h:I7 w ⟨8,k7,a7,n,n4,j9,o8,a8⟩=0
  ·exact Or.inl (mR w _ g _ ho ht hn hr _ (Wl w hb k7 a7 n n4 j9 o8 a8 h))
  ·have c:=SJ w hb k7 a7 n n4 j9 o8 a8 h;have e:=(J2 h).2;rw[e];exact Or.inl (fo w w g _ ho ht hn hr _ c)
 ·by_cases h:I7 w ⟨9,k7,a7,n,n4,j9,o8,a8⟩=0
  ·exact Or.inl (mR w _ g _ ho ht hn hr _ (Wm w hb k7 a7 n n4 j9 o8 a8 h))
  ·have c:=SK w hb k7 a7 n n4 j9 o8 a8 h;have e:=(J2 h).2;rw[e];exact Or.inl (fo w w g _ ho ht hn hr _ c)
 ·by_cases h:I7 w ⟨10,k7,a7,n,n4,j9,o8,a8⟩=0
  ·exact Or.inl (fo w _ g _ ho ht hn hr _ (SL w hb k7 a7 n n4 j9 o8 a8 h))
  ·have c:=Pj w hb k7 a7 n n4 j9 o8 a8 h;have e:=(J2 h).2;rw[e];exact Or.inl (fo w w g _ ho ht hn hr _ c)
theorem HQ{w:n8}(g:C9 w):A4 w.o6.m0.step/\(A4 w.line.al.1/\A4 w.line.al.2):=by
 have bl:=D3.1 g.tk.bl;have lm:=(AF.1 (uO.1 (aA g.ln).2.2).2).2;refine⟨?_,?_,?_⟩<;>(unfold A4;omega)
theorem KZ(w:n8)(g:C9 w)(hL:RB w.line)(hG:∀ i,IG (w.n6.j8.getD i p9).j9)(o:B5)(hO:IG o.j9)(ho:K9 o=true)(ht:o.o8.length<2^40)(hn:o.a8.length<2^40):va6 8 [ai w,ord o] (.tup [ai (R9 w o),bw (Q6 w o),i64 0]):=by
 obtain⟨i1,i2⟩:=HQ g;have c1:=mO w (mQ g) hL i1 hG;rw[bo.2 g]at c1;have c2:=gB o ht hn;rw[ho]at c2;have c3:=KD w (mQ g);by_cases hs:uY w o=true
 ·have c4:=Pf w g i1 o hO ho ht hn hs;refine vb4 Tryz.func8 ?_;refine vc6 ?_;intros;refine Or.inr ⟨_,_,⟨c3,va4,va4,va4⟩,vb3 ?_⟩;refine ve4 ?_;intros;refine Or.inr ⟨false,[24],_,_,_,_,⟨c4,rfl,rfl,va4⟩,?_⟩;conv=>whnf
  try exact va1
 ·have c4:=Pg w g i1 i2 o ho (by simpa using hs);refine vb4 Tryz.func8 ?_;refine vc6 ?_;intros;refine Or.inr ⟨_,_,⟨c3,va4,va4,va4⟩,vb3 ?_⟩;refine ve4 ?_;intros;refine Or.inr ⟨true,[24],_,_,_,_,⟨c4,rfl,rfl,va4⟩,?_⟩;conv=>whnf
  try exact va1
theorem wP(w:n8)(k:jq w)(hL:RB w.line)(hT:A4 w.o6.m0.step)(hG:∀ i,IG (w.n6.j8.getD i p9).j9)(h:¬jz w=0)(o:B5):va6 8 [ai w,ord o] (.tup [WL,.agg [i64 0,i64 0,.nils],i64 (jz w)]):=by
 have c1:=mO w k hL hT hG;generalize jz w=e at *
 refine pF Tryz.func8 ?_;conv=>whnf
 try exact va1
 all_goals rfl
theorem rN(w:n8)(g:C9 w)(hL:RB w.line)(hG:∀ i,IG (w.n6.j8.getD i p9).j9)(o:B5)(ho:¬K9 o=true)(ht:o.o8.length<2^40)(hn:o.a8.length<2^40):va6 8 [ai w,ord o] (.tup [WL,.agg [i64 0,i64 0,.nils],i64 2]):=by
 have c1:=mO w (mQ g) hL (HQ g).1 hG;rw[bo.2 g]at c1;have c2:=gB o ht hn;have L0:K9 o=false:=by simpa using ho
 rw[L0]at c2;refine pF Tryz.func8 ?_;conv=>whnf
 try exact va1
 all_goals rfl
theorem Po(o:B5)(ht:o.o8.length<2^40)(hn:o.a8.length<2^40):va6 13 [ord o,ord o] (.bool true):=by
 have c1:=iw o.o8 o.o8 ht ht;have c2:=iw o.a8 o.a8 hn hn;rw[zA4 rfl]at c1 c2;obtain⟨kind,k7,a7,n,n4,j9,o8,a8⟩:=o;refine pF Tryz.func13 ?_;conv=>whnf
 try exact va1
 all_goals rfl
def IB(b:n9):Prop:=∀ i,IG (b.j8.getD i p9).j9
theorem SS{b:n9}(h:gi b=true):C8 b:=by
 obtain⟨h1,h2,h3,h4,h5⟩:=qQ h;exact⟨va5,va5,va5,fun i=>by have:=h4 i;omega,fun i=>by have:=h5 i;omega⟩
theorem DO(l:K1):tq (Hz l) (ai (Oe l)):=by
 refine(cS (xs:=[i64 l.m0.step,i64 l.m0.v8,i64 l.m0.w9,i64 l.m0.len,i64 l.lag,i64 l.keep,i64 l.p,i64 l.q,i64 l.al.1,i64 l.al.2,i64 l.m0.step,i64 l.m0.v8,i64 l.m0.w9,i64 l.m0.len,i64 0,i64 0,.nils,i64 l.keep,.nils,.nils,i64 0,.nils,i64 0,i64 0,.ff,.nils]) (ys:=eW (Oe l)) rfl fun i hi=>?_).1
 match i with
 | 0|1|2|3|4|5|6|7|8|9|10|11|12|13|14|15=>exact .refl _
 | 16=>exact .nils _ _ _
 | 17=>exact .refl _
 | 18=>exact .nils _ _ _
 | 19=>exact .nils _ _ _
 | 20=>exact .refl _
 | 21=>exact .nils _ _ _
 | 22|23=>exact .refl _
 | 24=>exact FC
 | 25=>exact .nils _ _ _
 | (n+26)=>exact .refl _
theorem Pp{w:n8}(h:qs w=true):jq w:=by
 unfold qs at h;simp only[zA2,zA3]at h;exact⟨SS h.1,va5,va5⟩
theorem yA(l:K1):jq (Oe l):=by
 have z:0<2^20:=by decide
 exact⟨⟨z,z,z,fun i=>z,fun i=>z⟩,z,z⟩
theorem Gs(l:K1):va6 9 [Hz l,Hz l] (.bool true):=by
 have c:=qq (Oe l) (Oe l) (yA l) (yA l);rw[mL]at c;refine c.sub rfl (fun i hi=>?_) (.refl _)
 match i with
 | 0=>exact DO l
 | 1=>exact DO l
 | (n+2)=>exact .refl _
abbrev Gt:AV := .agg [i64 0,i64 0,.nils]
theorem wQ(w:n8)(g:C9 w)(o:B5)(ho:¬K9 o=true)(ht:o.o8.length<2^40)(hn:o.a8.length<2^40)(hr:0<=o.n4/\o.n4<=255):va6 7 [ai w,ord o] (.tup [WL,Gt,i64 2]):=by
 have c1:va6 17 [ai w] (i64 0):=by have c:=cw w (mQ g);rwa[bo.2 g]at c
 have c2:va6 11 [ord o] (i64 2):=by have c:=Q8 o ht hn hr;rwa[if_neg ho]at c
 refine pF Tryz.func7 ?_;conv=>whnf
 try exact vc1
 all_goals rfl
theorem DP(w:n8)(k:jq w)(h:¬jz w=0)(o:B5):va6 7 [ai w,ord o] (.tup [WL,Gt,i64 (jz w)]):=by
 have c1:=cw w k;generalize jz w=e at *
 refine pF Tryz.func7 ?_;conv=>whnf
 try exact va1
 all_goals rfl
theorem rj(a:oE):je a a=true:=by
 unfold je;rw[zA2,zA3,List.all_eq_true];exact⟨⟨rfl,rfl,rfl⟩,fun i _=>zA4 ⟨rfl,rfl,rfl,rfl,rfl⟩⟩
theorem DQ:va6 10 [Gt,Gt] (.bool true):=by
 have c:=lW Vh Vh va8 va8;rw[rj]at c;have q:tq Gt (bw Vh):=by
  refine(cS (xs:=[i64 0,i64 0,.nils]) (ys:=[i64 0,i64 0,o9 []]) rfl fun i hi=>?_).1
  match i with
  | 0=>exact .refl _
  | 1=>exact .refl _
  | 2=>exact .nils _ _ _
  | (n+3)=>exact .refl _
 refine c.sub rfl (fun i hi=>?_) (.refl _)
 match i with
 | 0=>exact q
 | 1=>exact q
 | (n+2)=>exact .refl _
theorem DR(w:n8)(o:B5):(Q6 w o).o9.length<2^20:=by
 unfold Q6;split
 ·show(FK w o).length<_
  unfold FK;split
  ·unfold cj;split
   ·show 1<_;decide
   ·show 0<_;decide
  ·show 0<_;decide
 ·show 0<_;decide
theorem yB(w:n8)(o:B5)(e c:Int)(ht:o.o8.length<2^20)
  (c0:va6 4 [ai w] (.bool false)) (cg:va6 5 [ord o] (.bool false)) (ct:va6 6 [ai w] (ai w))
  (c1:va6 7 [ai w,ord o] (.tup [WL,Gt,i64 e])) (c2:va6 8 [ai w,ord o] (.tup [WL,Gt,i64 e]))
  (c5:va6 11 [ord o] (i64 c)) (c6:va6 12 [ord o] (i64 c)) (c7:va6 13 [ord o,ord o] (.bool true))
  (c8:va6 9 [ai w,ai w] (.bool true)):va6 3 [ai w,ord o] (.bool true):=by
 have c3:=Gs Tx;have c4:=DQ;refine vb4 Tryz.func3 ?_;refine vc0 ?_;intros;refine⟨⟨Int,1,0,eI,[]⟩,o.o8,rfl,⟨rfl,rfl⟩,rfl,?_,?_,fun y _=>⟨rfl,rfl,rfl⟩,?_⟩
 ·show(0+o.o8.length)*8<=_;omega
 ·show 0+o.o8.length<=_;omega
 conv=>whnf
 refine vc0 ?_;intros;refine vc0 ?_;intros;refine vc6 ?_;intros;refine Or.inl ⟨1,vb3 ?_⟩;refine vc4 ?_;intros;refine Or.inl ⟨1,vb3 ?_⟩;refine vc4 ?_;intros;refine Or.inl ⟨1,vb3 ?_⟩;refine vc4 ?_;intros;try exact va1
 all_goals rfl
theorem wR(w:n8)(o:B5)(f0:(∀ i,IG (w.n6.j8.getD i p9).j9)/\RB w.line/\A4 w.o6.m0.step)(f1:IG o.j9/\0<=o.kind/\(0<=o.n4/\o.n4<=255)):va6 3 [ai w,ord o] (.bool true):=by
 have c0:=FR w;have cg:=JZ o;by_cases hs:qs w=true/\qo o=false
 ·obtain⟨s1,s2⟩:=hs;rw[s1]at c0;rw[s2]at cg;have k:=Pp s1;have hgl:o.o8.length<=100/\o.a8.length<=100:=by
   unfold qo at s2;have:=zA0 s2;omega
  have ht:o.o8.length<2^40:=by omega
  have hn:o.a8.length<2^40:=by omega
  have ZG:o.o8.length<2^20:=by omega
  have ct:=Kn w k;have c5:=Q8 o ht hn f1.2.2;have c6:=rK o ht hn;have c7:=Po o ht hn;have c8:=qq w w k k;rw[mL]at c8;by_cases hw:jz w=0
  ·have g:=bo.1 hw;by_cases ho:K9 o=true
   ·rw[if_pos ho]at c5 c6;have gu:=mQ (Ov g o);have c2:=KZ w g f0.2.1 f0.1 o f1.1 ho ht hn;have c3:=qq (R9 w o) (R9 w o) gu gu;rw[mL]at c3;have c4:=lW (Q6 w o) (Q6 w o) (DR w o) (DR w o);rw[rj]at c4;rcases Pn w g o ho ht hn f1.2.2 with c1|⟨hp,c1⟩
    ·exact Kl w (R9 w o) o (Q6 w o) gu.h gu.t gu.b.l gu.b.p ZG c0 cg ct c1 c2 c3 c4 c5 c6 c7 c8
    ·exact Km w (R9 w o) o (Q6 w o) gu.h hp gu.b.l gu.b.p ZG c0 cg ct c1 c2 c3 c4 c5 c6 c7 c8
   ·exact yB w o 2 _ ZG c0 cg ct (wQ w g o ho ht hn f1.2.2) (rN w g f0.2.1 f0.1 o ho ht hn) c5 c6 c7 c8
  ·exact yB w o (jz w) _ ZG c0 cg ct (DP w k hw o) (wP w k f0.2.1 f0.2.2 f0.1 hw o) c5 c6 c7 c8
 ·cases s1:qs w with
  | false =>
   rw[s1]at c0;refine pF Tryz.func3 ?_;conv=>whnf
   try exact va1
   all_goals rfl
  | true =>
   have s2:qo o=true:=by
    cases h:qo o with
    | true=>rfl
    | false=>exact absurd ⟨s1,h⟩ hs
   rw[s1]at c0;rw[s2]at cg;refine pF Tryz.func3 ?_;conv=>whnf
   try exact va1
   all_goals rfl
end Go.Proofs.Tryz.My
namespace Go.Proofs.YtacahppoighegaaGreat.PlantStepsDone
open Go Go.Ev Go.Proofs.Tryz.My Go.Proofs.YtacahppoighegaaGreat.BooksIn Go.Proofs.YtacahppoighegaaGreat.PlantIn
open Go.ChangeShapes Go.WideShapes Go.ChangeAt Go.RowKit
theorem own:ownKnob Tryz.prog.godebug=none:=by kernel_rfl
theorem HR:laidOutB Tryz.prog=true:=by kernel_rfl
theorem a1O(w:World)(x0:n8)(f0:PlantIn.IW x0)(v0:Value)(h0:y6 (fun b=>b<w.heap.size) w (ai x0) v0)(x1:B5)(f1:PlantIn.InOrd x1)(v1:Value)(h1:y6 (fun b=>b<w.heap.size) w (ord x1) v1) :
  Calls Tryz.prog 3 #[v0,v1] w fun e w'=>e = .returned (.bool true)/\Below w.heap.size w w':=by
 refine PC.callsTrue (wR x0 x1 f0 f1) Tryz.func3 va4 rfl rfl fun i hi=>?_
 match i,hi with
 | 0,_=>exact h0
 | 1,_=>exact h1
theorem lifted(os:Os)(started:os.Started)(H:Type)(enc:TypeId×Value->H) :
  ReturnsInHanded {} Tryz.checked os 3 .any (Rows.plantStepsSpec.pre6 enc Tryz.prog Tryz.f3 Rows.plantStepsRow.domain false) (Rows.plantStepsSpec.post enc Tryz.prog Tryz.f3 false true false false):=by
 refine returnsInHanded_of_change (C:=Tryz.checked) own started va4 Tryz.func3
  (ChangeSpec.witness6 (enc:=enc) (C:=Tryz.checked) false ⟨#[],#[.agg #[.int .i64 0,.int .i64 0,.int .i64 0,.int .i64 0,.int .i64 0,.int .i64 0,.int .i64 0,.int .i64 0,.int .i64 0,.int .i64 0,.int .i64 0,.int .i64 0,.int .i64 0,.int .i64 0,.int .i64 0,.int .i64 0,.slice none 0 0,.int .i64 0,.slice none 0 0,.slice none 0 0,.int .i64 0,.slice none 0 0,.int .i64 0,.int .i64 0,.bool false,.slice none 0 0],.agg #[.int .u8 0,.int .i64 0,.int .i64 0,.int .i64 0,.int .u8 0,.int .i64 0,.int .i64 0,.int .i64 0,.int .i64 0,.int .i64 0,.int .i64 0,.int .i64 0,.int .i64 0,.int .i64 0,.int .i64 0,.slice none 0 0,.slice none 0 0]],[]⟩ 8 va4 va4 va4 va4) ?_
 intro W base args ds gs before TA hW a4K _;have Wq:∀ (j:Nat) t v,Tryz.f3.params[j]? = some t->args[j]? = some v->Value.okWide Tryz.prog W .any base t v:=TA;have hW':=hW;obtain⟨p,q,hA0,hV,rfl,WD,gH⟩:=hW;have hA:DataW.TrodAll enc Tryz.prog W 0 (fun _=>true) true Tryz.f3.params.toList args.toList ds p:=hA0;rw[Tryz.params3]at hA Wq;obtain⟨v0,vs0,d0,ds0,p0,q0,T1,rfl,rfl,h0,r0⟩:=trodAll_cons hA;obtain⟨v1,vs1,d1,ds1,p1,q1,rfl,rfl,rfl,h1,r1⟩:=trodAll_cons r0;obtain⟨rfl,rfl,rfl⟩:=trodAll_nil r1;obtain rfl:args=#[v0,v1]:=by cases args;simp_all
 obtain⟨rfl,rfl⟩:=trodVars_none hV;have k0:=h0;have lt0:∀ x ∈ p0,x.block<W.heap.size:=by obtain⟨m,hm⟩:=k0;exact DataW.trod_lt m _ _ _ hm
 obtain⟨x0,f0,i0⟩:=nM Tryz.underlying42 Wc (fun _=>by kernel_rfl) (Wq 0 42 v0 rfl rfl) h0;have k1:=h1;have lt1:∀ x ∈ p1,x.block<W.heap.size:=by obtain⟨m,hm⟩:=k1;exact DataW.trod_lt m _ _ _ hm
 obtain⟨x1,f1,i1⟩:=nM Tryz.underlying49 Wd (fun _=>by kernel_rfl) (Wq 1 49 v1 rfl rfl) h1;clear hA0 TA;refine(a1O W x0 f0 v0 i0 x1 f1 v1 i1).mono fun e W' ⟨he,zF⟩=>?_
 subst he;exact⟨_,rfl,_,_,_,[],_,[],hW',trodAll_mk1 (shut_bool Tryz.underlying4 _),(trodAll_cons_mk (Below.trod HR va4 (zA1 va4) k0 zF lt0) (trodAll_cons_mk (Below.trod HR va4 (zA1 va4) k1 zF lt1) trodAll_mk0)),rfl,zF.frame _,fun h=>by cases h⟩
theorem closed:joinedFacts Tryz.pinned.checked.prog 3 Tryz.f3 Rows.plantStepsSpec Rows.plantStepsRow=true :=
 (UF Tryz.pinned.checked.prog 3 Tryz.f3 Rows.plantStepsSpec Rows.plantStepsRow RY DA wL).2 va4
theorem over:Rows.plantStepsRow.holds Tryz.pinned (OpenSpec.ofChange Rows.plantStepsSpec) :=
 OpenClaim.holds_of_wide 3 Tryz.f3 rfl rfl rfl rfl rfl rfl rfl ⟨rfl,rfl,rfl,rfl,rfl⟩ rfl rfl rfl rfl rfl va4 Tryz.func3 closed
  (zA1 va4) (by unfold Func.isWrapper;first|(rw[if_pos (by decide +kernel)];kernel_rfl)|(rw[if_neg (by decide +kernel)];exact⟨rfl,rfl⟩))
  (fun os started H enc _=>lifted os started H enc)
theorem proved:Rows.PlantStepsSaid:=over
#print axioms proved

end Go.Proofs.YtacahppoighegaaGreat.PlantStepsDone
