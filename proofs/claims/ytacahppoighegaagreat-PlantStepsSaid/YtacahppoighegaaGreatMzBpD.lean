/- Helper lemmas. -/
import Derived.Test.YtacahppoighegaaGreatMzBpA
import Derived.Test.YtacahppoighegaaGreatEvDel
set_option linter.unusedVariables false
set_option linter.unusedSimpArgs false
set_option maxRecDepth 100000
set_option maxHeartbeats 0
namespace Go.Proofs.Tryz.My
open Go Go.Ev
def a1m:Go.Shelf.Ren:=⟨fun n=>match n with|21=>174|27=>217|28=>218|35=>243|39=>266|n=>n,fun t=>match t with|22=>47|t=>t,fun n=>n⟩
theorem Yo:Go.Proofs.Lays2.n21 Tryz.prog a1m where
 mixed:=hm
 f21:=by kernel_rfl
 f27:=by kernel_rfl
 f28:=by kernel_rfl
 f35:=by kernel_rfl
 f39:=by kernel_rfl
 t0:=by kernel_rfl
 a0:=fun w=>by kernel_rfl
 z0:=fun w=>by kernel_rfl
 v0:=fun w=>by kernel_rfl
 t3:=by kernel_rfl
 a3:=fun w=>by kernel_rfl
 z3:=fun w=>by kernel_rfl
 v3:=fun w=>by kernel_rfl
 t4:=by kernel_rfl
 a4:=fun w=>by kernel_rfl
 z4:=fun w=>by kernel_rfl
 v4:=fun w=>by kernel_rfl
 t22:=by kernel_rfl
 a22:=fun w=>by kernel_rfl
 z22:=fun w=>by kernel_rfl
 v22:=fun w=>by kernel_rfl
 i3:=by kernel_rfl
theorem Va(zs:List Int)(u:Int)(k:Nat)(hk:k<=zs.length)(hl:zs.length<1073741824):va7 174 [.own 0,i64 k,.own 1] [.vec 3 1 0 eI zs,.lit 3 1 [[i64 u]]] (.own 2) [.none,.none,.vec 3 1 0 eI (zs.take k++u :: zs.drop k)] :=
 II Yo Tryz.func174 va4 rfl zs u k hk hl 3
def bm(l:List Int)(u:Int):List Int:=l.take (ja l u)++u :: l.drop (ja l u)
theorem uG(l:List Int)(u:Int):(bm l u).length=l.length+1:=by
 have:=Ap l u;unfold bm;simp;omega
def uH(b:n9)(k7:Int)(x:D1):Bool:=x.y7.contains k7 || (decide (k7=x.author) || !D6 [2,3] b.n5 k7)
def Au(us:List Int)(x:D1)(k7:Int):D1:=⟨x.author,x.j9,bm x.y7 k7,if H9 us (bm x.y7 k7)=true then 2 else x.state⟩
def Rj(b:n9)(i:Nat)(y:D1):n9:=⟨b.keep,b.n5,b.j8.set i y,b.next,b.log⟩
def ou(b:n9)(k7 a7:Int):n9:=Rj b a7.toNat (Au b.n5 (b.j8.getD a7.toNat p9) k7)
def ft(b:n9)(k7 a7:Int):Int :=
 if B8 b=true/\aK b k7 a7 then(if uH b k7 (b.j8.getD a7.toNat p9)=true then 100 else if (b.j8.getD a7.toNat p9).state > 2 then 101 else 0)else(if B8 b then 6 else 8)
theorem qb{b:n9}{k7 a7:Int}(h:ft b k7 a7=0):B8 b=true/\aK b k7 a7/\uH b k7 (b.j8.getD a7.toNat p9)=false/\¬(b.j8.getD a7.toNat p9).state > 2:=by
 unfold ft at h;by_cases h1:B8 b=true/\aK b k7 a7
 ·rw[if_pos h1]at h;by_cases h2:uH b k7 (b.j8.getD a7.toNat p9)=true
  ·rw[if_pos h2]at h;cases h
  ·rw[if_neg h2]at h;by_cases h3:(b.j8.getD a7.toNat p9).state > 2
   ·rw[if_pos h3]at h;cases h
   ·exact⟨h1.1,h1.2,by simpa using h2,h3⟩
 ·rw[if_neg h1]at h;split at h<;>cases h
theorem ov{b:n9}{k7:Int}{x:D1}(h:uH b k7 x=false):x.y7.contains k7=false/\¬k7=x.author/\D6 [2,3] b.n5 k7=true:=by
 unfold uH at h;simp only[Bool.or_eq_false_iff,decide_eq_false_iff_not,Bool.not_eq_false']at h;exact⟨h.1,h.2.1,h.2.2⟩
theorem oy{b:n9}(h:B8 b=true){i:Nat}(hi:i<b.j8.length):aG b.n5 (b.j8.getD i p9)=true/\eP b.n5 (b.j8.getD i p9)=true:=by
 simp only[B8,O0,zA2]at h;have h:=(gZ (p:=jx b.n5) (d:=p9)).1 h.1.2.1 i hi;unfold jx at h;rw[zA2]at h;exact h
theorem Av(b:n9)(a c:Int):va7 102 [.ptr 0 0 0 0,.own 4] (jy b++[.lit 5 1 [[u8 a],[u8 c]]]) (.fn (.func 147) [] [.ptr 5 0 0 0,.ptr 6 0 0 0]) (jy b++[.lit 5 1 [[u8 a],[u8 c]],.cells 125 [.ptr 0 0 0 0],.cells 33 [.own 4]]):=by
 refine u4 hm Tryz.func102 va4 ⟨va4,vb3 ?_⟩;refine⟨[2,3],va4,vb3 ?_⟩;exact⟨rfl,rfl⟩
theorem Aw(b:n9)(o:C8 b)(k7 a7:Int)(h:ft b k7 a7=0):va7 122 [R5 b,i64 k7,i64 a7] [] (.tup [mF (ou b k7 a7),i64 0]) (mG (ou b k7 a7)):=by
 obtain⟨hc,hn,hb,h2⟩:=qb h;clear h;obtain⟨wZ,cJ,Vb⟩:=ov hb;have s:=B0 hc;have z8:a7.toNat<b.j8.length:=by have:=hn.2;omega
 have hi:0<=a7/\a7<(b.j8.length:Int):=by have:=hn.2;omega
 have hx:=o.a a7.toNat;have c1:=fun u=>uu b.keep b.next u b.n5 b.j8 b.log 2 3 (P1 o.u)
 have c2:=Hr (b.j8.getD a7.toNat p9).y7 (NK (oy hc z8).1) va5 k7;rw[wZ]at c2;have vO:=ur (oy hc z8).1;obtain⟨R,hR⟩:∃ R:D1,R=⟨(b.j8.getD a7.toNat p9).author,(b.j8.getD a7.toNat p9).j9,bm (b.j8.getD a7.toNat p9).y7 k7,(b.j8.getD a7.toNat p9).state⟩:=⟨_,rfl⟩
 have hlR:a7.toNat<(b.j8.set a7.toNat R).length:=by rw[List.length_set];exact z8
 have hgR:(b.j8.set a7.toNat R).getD a7.toNat p9=R:=aM z8;have hRa:R.y7=bm (b.j8.getD a7.toNat p9).y7 k7:=by rw[hR]
 have c4:=xM b.keep b.next b.n5 (b.j8.set a7.toNat R) b.log (P1 o.u) ((b.j8.set a7.toNat R).getD a7.toNat p9).y7 (by rw[hgR,hRa,uG];omega);have hE:H9 b.n5 ((b.j8.set a7.toNat R).getD a7.toNat p9).y7=H9 b.n5 (bm (b.j8.getD a7.toNat p9).y7 k7):=by rw[hgR,hRa]
 rw[hE]at c4;refine vb5 Tryz.func122 ?_;refine va2 [] [21,18,19,20] (vb3 ?_);refine va3 [] (T9 b o hc k7 a7 hn) (vb3 ?_);refine vc4 ?_;intros;refine vd4 c1 ?_;intros;refine⟨z8,vb3 ?_⟩;refine Or.inl (vb3 ?_);refine vd4 c1 ?_;intros;refine⟨z8,vb3 ?_⟩;refine vd4 c1 ?_;intros;refine va2 [] [50,48] (vb3 ?_);refine va3 [21,18,19,20,46] (Av b 2 3) (vb3 ?_);refine vd4 c1 ?_;intros;refine⟨z8,vb3 ?_⟩;refine ve4 ?_;intros;refine⟨z8,vb3 ?_⟩;refine Or.inr ⟨19,a7.toNat,63,[64],va4,vb3 ?_⟩;refine⟨⟨z8,rfl⟩,vb3 ?_⟩;refine⟨[],[62],va4,vb3 ?_⟩;refine⟨[63,67],_,_,_,_,⟨Va (b.j8.getD a7.toNat p9).y7 k7 (ja (b.j8.getD a7.toNat p9).y7 k7) (Ap _ _) va5,rfl,rfl,va4⟩,vb3 ?_⟩;refine⟨bm (b.j8.getD a7.toNat p9).y7 k7,R,⟨rfl,hRa,by rw[hR];rfl,z8,rfl⟩,vb3 ?_⟩;refine⟨hlR,vb3 ?_⟩;refine Or.inl (vb3 ?_);by_cases he:H9 b.n5 (bm (b.j8.getD a7.toNat p9).y7 k7)=true
 ·have hB:ou b k7 a7=⟨b.keep,b.n5,(b.j8.set a7.toNat R).set a7.toNat (bj ((b.j8.set a7.toNat R).getD a7.toNat p9) 2),b.next,b.log⟩:=by
   unfold ou Rj Au;rw[if_pos he,List.set_set,hgR,hR];rfl
  rw[hB];rw[he]at c4;refine vc0 ?_;intros;refine ve4 ?_;intros;refine⟨bj ((b.j8.set a7.toNat R).getD a7.toNat p9) 2,⟨rfl,rfl,hlR⟩,vb3 ?_⟩;refine⟨[18,19,20],va4,vb3 ?_⟩;exact⟨rfl,rfl⟩
 ·have hB:ou b k7 a7=⟨b.keep,b.n5,b.j8.set a7.toNat R,b.next,b.log⟩:=by
   unfold ou Rj Au;rw[if_neg he,hR]
  rw[hB];have WJ:H9 b.n5 (bm (b.j8.getD a7.toNat p9).y7 k7)=false:=by simpa using he
  rw[WJ]at c4;refine vc0 ?_;intros;refine ve4 ?_;intros;refine⟨[18,19,20],va4,vb3 ?_⟩;exact⟨rfl,rfl⟩
theorem wC(b:n9)(o:C8 b)(k7 a7:Int)(h:¬ft b k7 a7=0):va6 122 [R5 b,i64 k7,i64 a7] (.tup [dL 0,i64 (ft b k7 a7)]):=by
 by_cases h1:B8 b=true/\aK b k7 a7
 ·unfold ft at h ⊢;rw[if_pos h1]at h ⊢;obtain⟨hc,hn⟩:=h1;have s:=B0 hc;have z8:a7.toNat<b.j8.length:=by have:=hn.2;omega
  have hi:0<=a7/\a7<(b.j8.length:Int):=by have:=hn.2;omega
  have hx:=o.a a7.toNat;have c1:=fun u=>uu b.keep b.next u b.n5 b.j8 b.log 2 3 (P1 o.u)
  have c2:=Hr (b.j8.getD a7.toNat p9).y7 (NK (oy hc z8).1) va5 k7;by_cases hb:uH b k7 (b.j8.getD a7.toNat p9)=true
  ·rw[if_pos hb];unfold uH at hb;by_cases q1:(b.j8.getD a7.toNat p9).y7.contains k7=true
   ·rw[q1]at c2;clear hb q1;refine vb4 Tryz.func122 ?_;refine va2 [] [21,18,19,20] (vb3 ?_);refine va3 [] (T9 b o hc k7 a7 hn) (vb3 ?_);refine vc4 ?_;intros;refine ve4 ?_;intros;refine⟨z8,vb3 ?_⟩;refine Or.inl ?_;conv=>whnf
    try exact va1
    all_goals rfl
   ·have q1:(b.j8.getD a7.toNat p9).y7.contains k7=false:=by simpa using q1
    rw[q1]at c2 hb;rw[Bool.false_or]at hb;by_cases q2:k7=(b.j8.getD a7.toNat p9).author
    ·clear hb q1;refine vb4 Tryz.func122 ?_;refine va2 [] [21,18,19,20] (vb3 ?_);refine va3 [] (T9 b o hc k7 a7 hn) (vb3 ?_);refine vc4 ?_;intros;refine ve4 ?_;intros;refine⟨z8,vb3 ?_⟩;refine Or.inl (vb3 ?_);refine vc6 ?_;intros;refine⟨z8,?_⟩;conv=>whnf
     try exact va1
     all_goals rfl
    ·have q3:D6 [2,3] b.n5 k7=false:=by
      rw[zA5 q2,Bool.false_or,Bool.not_eq_true']at hb;exact hb
     clear hb q1;refine vb4 Tryz.func122 ?_;refine va2 [] [21,18,19,20] (vb3 ?_);refine va3 [] (T9 b o hc k7 a7 hn) (vb3 ?_);refine vc4 ?_;intros;refine ve4 ?_;intros;refine⟨z8,vb3 ?_⟩;refine Or.inl (vb3 ?_);refine vc6 ?_;intros;refine⟨z8,vb3 ?_⟩;refine ve4 ?_;intros;refine va2 [] [50,48] (vb3 ?_);refine va3 [21,18,19,20,46] (Av b 2 3) ?_;conv=>whnf
     try exact vd5 c1
     all_goals rfl
  ·have cJ:uH b k7 (b.j8.getD a7.toNat p9)=false:=by simpa using hb
   rw[if_neg hb]at h ⊢;obtain⟨wZ,cJ,Vb⟩:=ov cJ;rw[wZ]at c2;have h2:(b.j8.getD a7.toNat p9).state > 2:=Decidable.byContradiction fun q=>h (if_neg q)
   rw[if_pos h2];clear h hb wZ;refine vb4 Tryz.func122 ?_;refine va2 [] [21,18,19,20] (vb3 ?_);refine va3 [] (T9 b o hc k7 a7 hn) (vb3 ?_);refine vc4 ?_;intros;refine ve4 ?_;intros;refine⟨z8,vb3 ?_⟩;refine Or.inl (vb3 ?_);refine vc6 ?_;intros;refine⟨z8,vb3 ?_⟩;refine ve4 ?_;intros;refine va2 [] [50,48] (vb3 ?_);refine va3 [21,18,19,20,46] (Av b 2 3) (vb3 ?_);refine vd4 c1 ?_;intros;refine⟨z8,?_⟩;conv=>whnf
   try exact va1
   all_goals rfl
 ·have c:=qT b o k7 a7 h1;unfold ft;rw[if_neg h1];by_cases hc:B8 b=true
  ·rw[if_pos hc]at c ⊢;refine pF Tryz.func122 ?_;conv=>whnf
   try exact vc1
   all_goals rfl
  ·rw[if_neg hc]at c ⊢;refine pF Tryz.func122 ?_;conv=>whnf
   try exact vc1
   all_goals rfl
def a1p:Go.Shelf.Ren:=⟨fun n=>match n with|45=>170|n=>n,fun t=>match t with|22=>35|23=>71|t=>t,fun n=>n⟩
theorem Tv:Go.Proofs.SlLaysE0.n45 Tryz.prog a1p where
 mixed:=hm
 f45:=⟨Tryz.f170.name,by kernel_rfl,by kernel_rfl⟩
 t0:=by kernel_rfl
 a0:=fun w=>by kernel_rfl
 z0:=fun w=>by kernel_rfl
 v0:=fun w=>by kernel_rfl
 t3:=by kernel_rfl
 a3:=fun w=>by kernel_rfl
 z3:=fun w=>by kernel_rfl
 v3:=fun w=>by kernel_rfl
 t4:=by kernel_rfl
 a4:=fun w=>by kernel_rfl
 z4:=fun w=>by kernel_rfl
 v4:=fun w=>by kernel_rfl
 t22:=by kernel_rfl
 a22:=fun w=>by kernel_rfl
 z22:=fun w=>by kernel_rfl
 v22:=fun w=>by kernel_rfl
def eX(l:List A2)(i:Nat):List A2:=l.take i++l.drop (i+1)
theorem Vc(l:List A2)(i:Nat)(hi:i<l.length):va7 170 [.own 0,i64 i,i64 ((i:Int)+1)] [.nest 71 6 3 3 s9 K6 A2.n7 none l] (.own 1) [.none,.nest 71 6 3 3 s9 K6 A2.n7 none (eX l i)] :=
 IP Tv Tryz.func170 va4 rfl (fun w=>by kernel_rfl) ((Tryz.prog.info? 71).get va4) va4 va4 (.agg #[.int .i64 0,.int .i64 0,.int .i64 0,.slice none 0 0,.int .u8 0,.bool false]) (fun w=>by kernel_rfl) va4 (fun v hv=>by
  have h:v ∈ [Value.int .i64 0,.int .i64 0,.int .i64 0,.slice none 0 0,.int .u8 0,.bool false]:=hv;simp only[List.mem_cons,List.not_mem_nil,or_false]at h;rcases h with h|h|h|h|h|h<;>rw[h]<;>rfl) 71 3 3 va8 s9 K6 A2.n7 (fun y j hj V8=>by
  match j,hj,V8 with
  | 0,_,_=>rfl
  | 1,_,_=>rfl
  | 2,_,_=>rfl
  | 4,_,_=>rfl
  | 5,_,_=>rfl) l i hi
theorem Rk(l:List A2)(i:Nat)(hi:i<l.length):va7 170 [.own 0,i64 i,i64 ((i:Int)+1)] [.vec 71 6 s9 K6 l] (.own 1) [.none,.vec 71 6 s9 K6 (eX l i)] :=
 ES Tv Tryz.func170 va4 rfl (fun w=>by kernel_rfl) ((Tryz.prog.info? 71).get va4) va4 va4 (.agg #[.int .i64 0,.int .i64 0,.int .i64 0,.slice none 0 0,.int .u8 0,.bool false]) (fun w=>by kernel_rfl) va4 (fun v hv=>by
  have h:v ∈ [Value.int .i64 0,.int .i64 0,.int .i64 0,.slice none 0 0,.int .u8 0,.bool false]:=hv;simp only[List.mem_cons,List.not_mem_nil,or_false]at h;rcases h with h|h|h|h|h|h<;>rw[h]<;>rfl) 71 s9 K6 (fun y j hj=>by
  match j,hj with
  | 0,_=>rfl
  | 1,_=>rfl
  | 2,_=>rfl
  | 3,_=>rfl
  | 4,_=>rfl
  | 5,_=>rfl) l i hi
theorem NM(x:A2)(hx:x.n7.length<2^20):va6 209 [UW x] (UW x):=(CL x hx).toPC 6 va4
theorem JE(l:List A2)(hl:l.length<2^16)(ha:∀ i,(l.getD i s9).n7.length<2^20):va7 208 [od l,.fn (.func 209) [] []] [] (.own 0) [.vec 71 6 s9 K6 l]:=by
 have w1:IntKind.i64.wrap ((l.length:Int)+1)=(l.length:Int)+1:=z5 _ va5 va5;refine vb5 Tryz.func208 ?_;refine⟨.vec 71 6 s9 K6 [],⟨⟨rfl,rfl,rfl⟩,va5,va5,zA1 va4⟩,vb3 ?_⟩;refine Or.inr ⟨Nat,[14],[],[(5,⟨A2,71,6,s9,K6⟩)],fun i=>[i64 i],fun _=>[],fun i=>[.vec 71 6 s9 K6 (l.take i)],fun i=>l.length-i,fun i=>i<=l.length,vb3 ?_⟩;refine⟨⟨0,?_⟩,?_⟩
 ·(conv=>whnf);exact kK ⟨zB4 _,rfl,rfl,rfl⟩
 ·intro j hj;conv=>whnf
  refine⟨fun h=>?_,fun h=>?_⟩
  ·have h:=zA1 h;have kO:j<l.length:=by omega
   have hk:(l.take j).length=j:=by rw[zB1];omega
   conv=>whnf
   refine⟨⟨va5,va5⟩,vb3 ?_⟩;(repeat' ((first|refine TF ?_|refine TG ?_|((try refine .inl ?_;conv=>whnf);(try refine⟨false,?_⟩;conv=>whnf);refine⟨_,by exact NM _ (ha _),?_⟩)|refine lD ?_|refine lN ?_|refine kL ?_|fail);conv=>whnf));refine⟨⟨A2,6,s9,K6,l.take j⟩,[l.getD j s9],rfl,rfl,⟨rfl,rfl⟩,?_,?_,fun y _=>⟨rfl,rfl,rfl⟩,?_⟩
   ·show((l.take j).length+1)*56<=_;rw[hk];omega
   ·show(l.take j).length+1<=_;rw[hk];omega
   conv=>whnf
   refine⟨j+1,vb3 ?_⟩;refine kK ⟨⟨?_,?_⟩,?_,rfl,?_⟩
   ·show l.length-(j+1)<l.length-j;omega
   ·show j+1<=l.length;omega
   ·rw[z5 _ va5 va5];rfl
   ·show [Row.vec 71 6 s9 K6 (l.take j++[l.getD j s9])]=[Row.vec 71 6 s9 K6 (l.take (j+1))]
    rw[List.take_add_one,zA6 kO];simp[List.getD,kO]
  ·have h:=zA0 h;have ej:l.take j=l:=List.take_of_length_le va5;rw[ej];conv=>whnf
   refine⟨[5],va4,vb3 ?_⟩;exact⟨rfl,rfl⟩
def a1q(b:n9):List Row:=[.cells 127 [i64 b.keep,.own 1,.own 2,i64 b.next,.own 3],.vec 5 1 0 e8 b.n5,.nest 92 13 11 3 p9 bX D1.y7 none b.j8,.vec 71 6 s9 K6 b.log]
theorem hX(b:n9)(o:C8 b)(h:B8 b=true):va7 166 [R5 b] [] (.tup [.ptr 0 0 0 0,i64 0]) (a1q b):=by
 have c:va6 29 [R5 b] (i64 0):=by have c:=hC b o;rwa[if_pos h]at c
 have s:=B0 h;refine vb5 Tryz.func166 ?_;refine vc0 ?_;intros;refine va2 [] [12] (vb3 ?_);refine va3 [] (pY b.n5 o.u) (vb3 ?_);refine va2 [] [16] (vb3 ?_);refine va3 [] (CM b.j8 va5 o.a) (vb3 ?_);refine va2 [] [20] (vb3 ?_);refine va3 [] (JE b.log va5 o.p) (vb3 ?_);refine⟨[24,12,16,20],va4,vb3 ?_⟩;exact⟨rfl,rfl⟩
def R6(x:A2):Bool := !x.disputed
theorem qc(x:A2):va6 169 [UW x] (.bool (R6 x)):=by
 refine pF Tryz.func169 ?_;conv=>whnf
 try rfl
theorem xU(l:List A2)(hl:l.length<2^40):va6 168 [od l,.fn (.func 169) [] []] (i64 (Eb R6 l)):=by
 refine vb4 Tryz.func168 ?_;refine Or.inr ⟨Nat,[8],[],[],fun k=>[i64 k],fun _=>[],fun _=>[],fun k=>l.length-k,fun k=>k<=l.length/\∀ m,m<k->R6 (l.getD m s9)=false,vb3 ?_⟩;refine⟨⟨0,?_⟩,?_⟩
 ·(conv=>whnf);exact kK ⟨⟨zB4 _,fun i hi=>absurd hi (zB3 i)⟩,rfl,rfl,rfl⟩
 intro k hk;conv=>whnf
 refine⟨fun h=>?_,fun h=>?_⟩
 ·have h:=zA1 h;have L4:k<l.length:=by omega
  conv=>whnf
  refine⟨⟨va5,va5⟩,vb3 ?_⟩;rw[show Int.toNat (k:Int)=k from rfl];(repeat' (first|(refine⟨_,by exact qc _,?_⟩;(conv=>whnf))|(refine Or.inl ?_;(conv=>whnf);refine⟨_,by exact qc _,?_⟩;(conv=>whnf))|(refine Or.inl ?_;(conv=>whnf);refine⟨false,?_⟩;(conv=>whnf);refine⟨_,by exact qc _,?_⟩;(conv=>whnf))|(refine⟨va4,?_⟩;(conv=>whnf))|fail));refine⟨fun q1=>?_,fun q1=>?_⟩
  ·(conv=>whnf);exact congrArg i64 (si L4 q1 hk.2).symm
  ·refine⟨k+1,vb3 ?_⟩;refine kK ⟨⟨?_,?_,?_⟩,?_,rfl,rfl⟩
   ·show l.length-(k+1)<l.length-k;omega
   ·omega
   ·intro m h2;by_cases e:m=k
    ·subst e;exact q1
    ·exact hk.2 m va5
   ·rw[z5 _ va5 va5];rfl
 ·have h:=zA0 h;conv=>whnf
  exact congrArg i64 (ot fun m h2=>hk.2 m va5).symm
def gj(b:n9):v7:=(b.j8.getD (C6 b.j8) p9).j9
def uI(b:n9)(part:Int)(n7:List Int):A2:=⟨b.next,C6 b.j8,part,n7,(E8 (gj b) n7).2.1,false⟩
def ig(b:n9):List A2:=if (b.log.length:Int)=b.keep then eX b.log (b.log.findIdx R6)else b.log
def lE(b:n9)(part:Int)(n7:List Int):n9:=⟨b.keep,b.n5,b.j8,b.next+1,ig b++[uI b part n7]⟩
def ij(b:n9)(part:Int)(n7:List Int):Int :=
 if B8 b then(if ¬(0<=part/\part<=1099511627776)then 2 else if ¬b.j8.any K7=true then 102 else if ¬(E8 (gj b) n7).2.2=0 then(E8 (gj b) n7).2.2 else
  if ((b.log.length:Int)=b.keep/\¬b.log.any R6=true)∨b.next=1099511627776 then 9 else 0)else 8
theorem kU{b:n9}{part:Int}{n7:List Int}(h:ij b part n7=0):B8 b=true/\(0<=part/\part<=1099511627776)/\b.j8.any K7=true/\(E8 (gj b) n7).2.2=0/\((b.log.length:Int)=b.keep->b.log.any R6=true)/\¬b.next=1099511627776:=by
 unfold ij at h;by_cases h1:B8 b=true
 ·rw[if_pos h1]at h;by_cases h2:0<=part/\part<=1099511627776
  ·rw[if_neg (fun q=>q h2)]at h;by_cases h3:b.j8.any K7=true
   ·rw[if_neg (fun q=>q h3)]at h;by_cases h4:(E8 (gj b) n7).2.2=0
    ·rw[if_neg (fun q=>q h4)]at h;by_cases h5:((b.log.length:Int)=b.keep/\¬b.log.any R6=true)∨b.next=1099511627776
     ·rw[if_pos h5]at h;cases h
     ·exact⟨h1,h2,h3,h4,fun e=>Decidable.byContradiction fun q=>h5 (.inl ⟨e,q⟩),fun e=>h5 (.inr e)⟩
    ·rw[if_pos h4]at h;exact absurd h h4
   ·rw[if_pos h3]at h;cases h
  ·rw[if_pos h2]at h;cases h
 ·rw[if_neg h1]at h;cases h
theorem qd{l:List A2}{i:Nat}(hi:i<l.length):(eX l i).length=l.length-1:=by
 unfold eX;simp;omega
theorem oz{b:n9}(h:B8 b=true):0<=b.next/\b.next<=1099511627776:=by
 simp only[B8,gh,B6,zA2,zA3]at h;omega
theorem FC:tq .ff (.bool false):=fun F w v h=>by cases h;exact .bool _
theorem cS{xs ys:List AV}(hl:xs.length=ys.length)(h:∀ i,i<xs.length->tq (xs.getD i .any) (ys.getD i .any)):tq (.agg xs) (.agg ys)/\tq (.tup xs) (.tup ys):=by
 constructor
 ·intro F w v hv;cases hv with
  | agg h1 h2=>exact .agg (by rw[<- hl];exact h1) fun i hi=>h i va5 _ _ _ (h2 i va5)
 ·intro F w v hv;cases hv with
  | tup h1 h2=>exact .tup (by rw[<- hl];exact h1) fun i hi=>h i va5 _ _ _ (h2 i va5)
abbrev Yp:AV := .agg [i64 0,i64 0,i64 0,.nils,u8 0,.ff]
theorem Ax(b:n9)(o:C8 b)(part:Int)(n7:List Int)(hp:n7.length<2^20)(h:¬ij b part n7=0) :
  va6 116 [R5 b,i64 part,A9 n7] (.tup [dL 0,Yp,i64 (ij b part n7)]):=by
 by_cases hc:B8 b=true
 ·unfold ij at h ⊢;rw[if_pos hc]at h ⊢;have s:=B0 hc;have nx:=oz hc;have c1:va6 99 [i64 0,i64 1099511627776,i64 part] (.bool (decide (0<=part) && decide (part<=1099511627776))):=O4 0 _ part;by_cases Vd:0<=part/\part<=1099511627776
  ·rw[if_neg (fun q=>q Vd)]at h ⊢;have c2:=xS b o;by_cases ha:b.j8.any K7=true
   ·rw[if_neg (fun q=>q ha)]at h ⊢;have hN:JD b=C6 b.j8:=by unfold JD;rw[if_pos hc,if_pos ha]
    have hE:CQ b=0:=by unfold CQ;rw[if_pos hc,if_pos ha]
    rw[hN,hE]at c2;have hA:=O1 ha;have c3:=mB (b.j8.getD (C6 b.j8) p9).j9 n7 (P1 hp);unfold gj at h ⊢;generalize C6 b.j8=n at *
    by_cases Ab:(E8 (b.j8.getD n p9).j9 n7).2.2=0
    ·rw[if_neg (fun q=>q Ab)]at h ⊢;have h9:((b.log.length:Int)=b.keep/\¬b.log.any R6=true)∨b.next=1099511627776:=Decidable.byContradiction fun q=>h (if_neg q)
     rw[if_pos h9];rw[Ab]at c3;clear h;have c4:=xU b.log (P1 o.l);unfold Eb at c4;by_cases hf:(b.log.length:Int)=b.keep
     ·by_cases vN:b.log.any R6=true
      ·have rC:b.next=1099511627776:=by
        rcases h9 with q|q
        ·exact absurd vN q.2
        ·exact q
       clear h9;rw[if_pos vN]at c4;have hi:=hH vN;generalize b.log.findIdx R6=i at *
       have w2:IntKind.i64.wrap ((i:Int)+1)=(i:Int)+1:=z5 _ va5 va5;refine vb4 Tryz.func116 ?_;refine va2 [] [22,19,20,21] (vb3 ?_);refine va3 [] (hX b o hc) (vb3 ?_);refine vc4 ?_;intros;refine vc6 ?_;intros;refine⟨hA,vb3 ?_⟩;refine vc6 ?_;intros;rw[w2];refine va2 [] [94] (vb3 ?_);refine va3 [21] (Rk b.log i hi) ?_;conv=>whnf
       try exact va1
       all_goals rfl
      ·rw[if_neg vN]at c4;clear h9;refine vb4 Tryz.func116 ?_;refine va2 [] [22,19,20,21] (vb3 ?_);refine va3 [] (hX b o hc) (vb3 ?_);refine vc4 ?_;intros;refine vc6 ?_;intros;refine⟨hA,?_⟩;conv=>whnf
       try exact va1
       all_goals rfl
     ·have rC:b.next=1099511627776:=by
       rcases h9 with q|q
       ·exact absurd q.1 hf
       ·exact q
      clear h9;refine vb4 Tryz.func116 ?_;refine va2 [] [22,19,20,21] (vb3 ?_);refine va3 [] (hX b o hc) (vb3 ?_);refine vc4 ?_;intros;refine vc6 ?_;intros;refine⟨hA,?_⟩;conv=>whnf
      try exact va1
      try exact va1
      all_goals rfl
    ·rw[if_pos Ab];clear h;refine vb4 Tryz.func116 ?_;refine va2 [] [22,19,20,21] (vb3 ?_);refine va3 [] (hX b o hc) (vb3 ?_);refine vc4 ?_;intros;refine vc6 ?_;intros;refine⟨hA,?_⟩;conv=>whnf
     try exact va1
     all_goals rfl
   ·rw[if_pos ha];have hE:CQ b=102:=by unfold CQ;rw[if_pos hc,if_neg ha]
    rw[hE]at c2;clear h;refine vb4 Tryz.func116 ?_;refine va2 [] [22,19,20,21] (vb3 ?_);refine va3 [] (hX b o hc) (vb3 ?_);refine vc4 ?_;intros;try exact va1
    all_goals rfl
  ·rw[if_pos Vd];clear h;refine vb4 Tryz.func116 ?_;refine va2 [] [22,19,20,21] (vb3 ?_);refine va3 [] (hX b o hc) (vb3 ?_);refine vc4 ?_;intros;try exact va1
   all_goals rfl
 ·have sY:B8 b=false:=by simpa using hc
  have c:=az b o sY;unfold ij;rw[if_neg hc];refine pF Tryz.func116 ?_;conv=>whnf
  try exact vc1
  all_goals rfl
structure Ay where
 kind:Int
 k7:Int
 a7:Int
 n4:Int
 j9:v7
 n7:List Int
def a1r(a:Ay):List AV:=[u8 a.kind,i64 a.k7,i64 a.a7,u8 a.n4,i64 (G2 a.j9),i64 (E7 a.j9),i64 (I6 a.j9).1.1,i64 (I6 a.j9).1.2,i64 (I6 a.j9).2.1,i64 (I6 a.j9).2.2,i64 a.j9.1.2.1,i64 a.j9.1.2.2,i64 a.j9.2.1,i64 a.j9.2.2,A9 a.n7]
abbrev act(a:Ay):AV := .agg (a1r a)
def oY(a:Ay):Int:=a.kind.tmod 8
def Yq(b:n9)(a:Ay):Int :=
 if oY a=0 then bZ b a.n4 else if oY a=1 then dq b a.k7 a.j9 else if oY a=2 then ft b a.k7 a.a7 else if oY a=3 then Z8 b a.k7 a.a7 else if oY a=4 then du b a.k7 else if oY a=5 then ij b a.a7 a.n7 else if oY a=6 then mJ b a.k7 a.a7 else mK b a.k7 a.a7
def Ve(b:n9)(a:Ay):n9 :=
 if oY a=0 then wh b a.n4 else if oY a=1 then wo b a.k7 a.j9 else if oY a=2 then ou b a.k7 a.a7 else if oY a=3 then fK b a.a7 else if oY a=4 then mH b (C6 b.j8)else if oY a=5 then lE b a.a7 a.n7 else if oY a=6 then S8 b a.a7 true else S8 b a.a7 false

end Go.Proofs.Tryz.My
