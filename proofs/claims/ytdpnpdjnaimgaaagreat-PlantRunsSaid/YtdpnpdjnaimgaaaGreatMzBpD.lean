/- Helper lemmas. -/
import Derived.Test.YtdpnpdjnaimgaaaGreatMzBpA
import Derived.Test.YtdpnpdjnaimgaaaGreatEvDel
set_option linter.unusedVariables false
set_option linter.unusedSimpArgs false
set_option maxRecDepth 100000
set_option maxHeartbeats 0
namespace Go.Proofs.Tryz.My
open Go Go.Ev
def Xv:Go.Shelf.Ren:=⟨fun n=>match n with|21=>276|27=>311|28=>312|35=>325|39=>330|n=>n,fun t=>match t with|22=>60|t=>t,fun n=>n⟩
theorem UB:Go.Proofs.Lays2.n21 Tryz.prog Xv where
 mixed:=hm
 f21:=by kernel_rfl
 f27:=by kernel_rfl
 f28:=by kernel_rfl
 f35:=by kernel_rfl
 f39:=by kernel_rfl
 t0:=by kernel_rfl
 a0:=fun w=>by kernel_rfl
 z0:=fun w=>by kernel_rfl
 v0:=fun w=>by kernel_rfl
 t3:=by kernel_rfl
 a3:=fun w=>by kernel_rfl
 z3:=fun w=>by kernel_rfl
 v3:=fun w=>by kernel_rfl
 t4:=by kernel_rfl
 a4:=fun w=>by kernel_rfl
 z4:=fun w=>by kernel_rfl
 v4:=fun w=>by kernel_rfl
 t22:=by kernel_rfl
 a22:=fun w=>by kernel_rfl
 z22:=fun w=>by kernel_rfl
 v22:=fun w=>by kernel_rfl
 i3:=by kernel_rfl
theorem Rm(zs:List Int)(u:Int)(k:Nat)(hk:k<=zs.length)(hl:zs.length<1073741824):va7 276 [.own 0,i64 k,.own 1] [.vec 3 1 0 eI zs,.lit 3 1 [[i64 u]]] (.own 2) [.none,.none,.vec 3 1 0 eI (zs.take k++u :: zs.drop k)] :=
 Gq UB Tryz.func276 va4 rfl zs u k hk hl 3
def gJ(l:List Int)(u:Int):List Int:=l.take (iW l u)++u :: l.drop (iW l u)
theorem sC(l:List Int)(u:Int):(gJ l u).length=l.length+1:=by
 have:=xC l u;unfold gJ;simp;omega
def Am(b:o7)(j8:Int)(x:A9):Bool:=x.B0.contains j8 || (decide (j8=x.author) || !I7 [2,3] b.p9 j8)
def tW(us:List Int)(x:A9)(j8:Int):A9:=⟨x.author,x.gauge,gJ x.B0 j8,if K8 us (gJ x.B0 j8)=true then 2 else x.state⟩
def Hh(b:o7)(i:Nat)(y:A9):o7:=⟨b.keep,b.p9,b.recipes.set i y,b.next,b.log⟩
def nQ(b:o7)(j8 a7:Int):o7:=Hh b a7.toNat (tW b.p9 (b.recipes.getD a7.toNat r9) j8)
def iY(b:o7)(j8 a7:Int):Int :=
 if E1 b=true/\dp b j8 a7 then(if Am b j8 (b.recipes.getD a7.toNat r9)=true then 100 else if (b.recipes.getD a7.toNat r9).state > 2 then 101 else 0)else(if E1 b then 6 else 8)
theorem jx{b:o7}{j8 a7:Int}(h:iY b j8 a7=0):E1 b=true/\dp b j8 a7/\Am b j8 (b.recipes.getD a7.toNat r9)=false/\¬(b.recipes.getD a7.toNat r9).state > 2:=by
 unfold iY at h;by_cases h1:E1 b=true/\dp b j8 a7
 ·rw[if_pos h1]at h;by_cases h2:Am b j8 (b.recipes.getD a7.toNat r9)=true
  ·rw[if_pos h2]at h;cases h
  ·rw[if_neg h2]at h;by_cases h3:(b.recipes.getD a7.toNat r9).state > 2
   ·rw[if_pos h3]at h;cases h
   ·exact⟨h1.1,h1.2,by simpa using h2,h3⟩
 ·rw[if_neg h1]at h;split at h<;>cases h
theorem xH{b:o7}{j8:Int}{x:A9}(h:Am b j8 x=false):x.B0.contains j8=false/\¬j8=x.author/\I7 [2,3] b.p9 j8=true:=by
 unfold Am at h;simp only[Bool.or_eq_false_iff,decide_eq_false_iff_not,Bool.not_eq_false']at h;exact⟨h.1,h.2.1,h.2.2⟩
theorem xI{b:o7}(h:E1 b=true){i:Nat}(hi:i<b.recipes.length):pg b.p9 (b.recipes.getD i r9)=true/\nH b.p9 (b.recipes.getD i r9)=true:=by
 simp only[E1,T8,zA2]at h;have h:=(mA (p:=mz b.p9) (d:=r9)).1 h.1.2.1 i hi;unfold mz at h;rw[zA2]at h;exact h
theorem xJ(b:o7)(a c:Int):va7 160 [.ptr 0 0 0 0,.own 4] (im b++[.lit 5 1 [[u8 a],[u8 c]]]) (.fn (.func 207) [] [.ptr 5 0 0 0,.ptr 6 0 0 0]) (im b++[.lit 5 1 [[u8 a],[u8 c]],.cells 176 [.ptr 0 0 0 0],.cells 33 [.own 4]]):=by
 refine A7 hm Tryz.func160 va4 ⟨va4,?_⟩;conv=>whnf
 refine⟨[2,3],va4,?_⟩;conv=>whnf
 exact⟨rfl,rfl⟩
theorem xK(b:o7)(o:G8 b)(j8 a7:Int)(h:iY b j8 a7=0):va7 229 [au b,i64 j8,i64 a7] [] (.tup [a09 (nQ b j8 a7),i64 0]) (si (nQ b j8 a7)):=by
 obtain⟨hc,hn,hb,h2⟩:=jx h;clear h;obtain⟨BS,dA,Xw⟩:=xH hb;have s:=G6 hc;have A2:a7.toNat<b.recipes.length:=by have:=hn.2;omega
 have hi:0<=a7/\a7<(b.recipes.length:Int):=by have:=hn.2;omega
 have hx:=o.a a7.toNat;have c1:=fun u=>rT b.keep b.next u b.p9 b.recipes b.log 2 3 (S7 o.u)
 have c2:=Fa (b.recipes.getD a7.toNat r9).B0 (KN (xI hc A2).1) va5 j8;rw[BS]at c2;have Xt:=zY (xI hc A2).1;obtain⟨R,hR⟩:∃ R:A9,R=⟨(b.recipes.getD a7.toNat r9).author,(b.recipes.getD a7.toNat r9).gauge,gJ (b.recipes.getD a7.toNat r9).B0 j8,(b.recipes.getD a7.toNat r9).state⟩:=⟨_,rfl⟩
 have YM:a7.toNat<(b.recipes.set a7.toNat R).length:=by rw[List.length_set];exact A2
 have Xx:(b.recipes.set a7.toNat R).getD a7.toNat r9=R:=V3 A2;have Xy:R.B0=gJ (b.recipes.getD a7.toNat r9).B0 j8:=by rw[hR]
 have c4:=vg b.keep b.next b.p9 (b.recipes.set a7.toNat R) b.log (S7 o.u) ((b.recipes.set a7.toNat R).getD a7.toNat r9).B0 (by rw[Xx,Xy,sC];omega);have hE:K8 b.p9 ((b.recipes.set a7.toNat R).getD a7.toNat r9).B0=K8 b.p9 (gJ (b.recipes.getD a7.toNat r9).B0 j8):=by rw[Xx,Xy]
 rw[hE]at c4;refine pW Tryz.func229 ⟨va4,?_⟩;conv=>whnf
 (refine va2 [] [21,18,19,20] ?_;(conv=>whnf);refine va3 [] (S8 b o hc j8 a7 hn) ?_);conv=>whnf
 refine vb6 ?_;(repeat intro hh);(repeat' ((first|refine va0 (fun hh=>?_) fun hh=>?_|refine kR ?_|((try refine .inl ?_;conv=>whnf);(try refine⟨false,?_⟩;conv=>whnf);refine⟨_,by first|assumption|exact c1 _,?_⟩)|fail)<;>first|exact hh.elim|conv=>whnf));refine⟨A2,?_⟩;conv=>whnf
 refine Or.inl ?_;conv=>whnf
 (repeat' ((first|refine va0 (fun hh=>?_) fun hh=>?_|refine kR ?_|((try refine .inl ?_;conv=>whnf);(try refine⟨false,?_⟩;conv=>whnf);refine⟨_,by first|assumption|exact c1 _,?_⟩)|fail)<;>first|exact hh.elim|conv=>whnf));refine⟨A2,?_⟩;conv=>whnf
 (repeat' ((first|refine va0 (fun hh=>?_) fun hh=>?_|refine kR ?_|((try refine .inl ?_;conv=>whnf);(try refine⟨false,?_⟩;conv=>whnf);refine⟨_,by first|assumption|exact c1 _,?_⟩)|fail)<;>first|exact hh.elim|conv=>whnf));(refine va2 [] [50,48] ?_;(conv=>whnf);refine va3 [21,18,19,20,46] (xJ b 2 3) ?_);conv=>whnf
 (repeat' ((first|refine va0 (fun hh=>?_) fun hh=>?_|refine kR ?_|((try refine .inl ?_;conv=>whnf);(try refine⟨false,?_⟩;conv=>whnf);refine⟨_,by exact c1 _,?_⟩)|fail)<;>first|exact hh.elim|conv=>whnf));refine⟨A2,?_⟩;conv=>whnf
 refine vb8 ?_;(repeat intro hh);refine⟨A2,?_⟩;conv=>whnf
 refine Or.inr ⟨19,a7.toNat,63,[64],va4,?_⟩;conv=>whnf
 refine⟨⟨A2,rfl⟩,?_⟩;conv=>whnf
 refine⟨[],[62],va4,?_⟩;conv=>whnf
 refine⟨[63,67],_,_,_,_,⟨Rm (b.recipes.getD a7.toNat r9).B0 j8 (iW (b.recipes.getD a7.toNat r9).B0 j8) (xC _ _) va5,rfl,rfl,va4⟩,?_⟩;conv=>whnf
 refine⟨gJ (b.recipes.getD a7.toNat r9).B0 j8,R,⟨rfl,Xy,by rw[hR];rfl,A2,rfl⟩,?_⟩;conv=>whnf
 refine⟨YM,?_⟩;conv=>whnf
 refine Or.inl ?_;conv=>whnf
 by_cases he:K8 b.p9 (gJ (b.recipes.getD a7.toNat r9).B0 j8)=true
 ·have hB:nQ b j8 a7=⟨b.keep,b.p9,(b.recipes.set a7.toNat R).set a7.toNat (ai ((b.recipes.set a7.toNat R).getD a7.toNat r9) 2),b.next,b.log⟩:=by
   unfold nQ Hh tW;rw[if_pos he,List.set_set,Xx,hR];rfl
  rw[hB];rw[he]at c4;refine vb5 ?_;(repeat intro hh);refine vb8 ?_;(repeat intro hh);refine⟨ai ((b.recipes.set a7.toNat R).getD a7.toNat r9) 2,⟨rfl,rfl,YM⟩,?_⟩;conv=>whnf
  refine⟨[18,19,20],va4,?_⟩;conv=>whnf
  exact⟨rfl,rfl⟩
 ·have hB:nQ b j8 a7=⟨b.keep,b.p9,b.recipes.set a7.toNat R,b.next,b.log⟩:=by
   unfold nQ Hh tW;rw[if_neg he,hR]
  rw[hB];have Vz:K8 b.p9 (gJ (b.recipes.getD a7.toNat r9).B0 j8)=false:=by simpa using he
  rw[Vz]at c4;refine vb5 ?_;(repeat intro hh);refine vb8 ?_;(repeat intro hh);refine⟨[18,19,20],va4,?_⟩;conv=>whnf
  exact⟨rfl,rfl⟩
theorem tX(b:o7)(o:G8 b)(j8 a7:Int)(h:¬iY b j8 a7=0):va6 229 [au b,i64 j8,i64 a7] (.tup [mB 0,i64 (iY b j8 a7)]):=by
 by_cases h1:E1 b=true/\dp b j8 a7
 ·unfold iY at h ⊢;rw[if_pos h1]at h ⊢;obtain⟨hc,hn⟩:=h1;have s:=G6 hc;have A2:a7.toNat<b.recipes.length:=by have:=hn.2;omega
  have hi:0<=a7/\a7<(b.recipes.length:Int):=by have:=hn.2;omega
  have hx:=o.a a7.toNat;have c1:=fun u=>rT b.keep b.next u b.p9 b.recipes b.log 2 3 (S7 o.u)
  have c2:=Fa (b.recipes.getD a7.toNat r9).B0 (KN (xI hc A2).1) va5 j8;by_cases hb:Am b j8 (b.recipes.getD a7.toNat r9)=true
  ·rw[if_pos hb];unfold Am at hb;by_cases q1:(b.recipes.getD a7.toNat r9).B0.contains j8=true
   ·rw[q1]at c2;clear hb q1;refine pF Tryz.func229 ?_;conv=>whnf
    (refine va2 [] [21,18,19,20] ?_;(conv=>whnf);refine va3 [] (S8 b o hc j8 a7 hn) ?_);conv=>whnf
    refine vb6 ?_;(repeat intro hh);refine vb8 ?_;(repeat intro hh);refine⟨A2,?_⟩;conv=>whnf
    refine Or.inl ?_;conv=>whnf
    try exact va1
    all_goals rfl
   ·have q1:(b.recipes.getD a7.toNat r9).B0.contains j8=false:=by simpa using q1
    rw[q1]at c2 hb;rw[Bool.false_or]at hb;by_cases q2:j8=(b.recipes.getD a7.toNat r9).author
    ·clear hb q1;refine pF Tryz.func229 ?_;conv=>whnf
     (refine va2 [] [21,18,19,20] ?_;(conv=>whnf);refine va3 [] (S8 b o hc j8 a7 hn) ?_);conv=>whnf
     refine vb6 ?_;(repeat intro hh);refine vb8 ?_;(repeat intro hh);refine⟨A2,?_⟩;conv=>whnf
     refine Or.inl ?_;conv=>whnf
     refine vb7 ?_;(repeat intro hh);refine⟨A2,?_⟩;conv=>whnf
     try exact va1
     all_goals rfl
    ·have q3:I7 [2,3] b.p9 j8=false:=by
      rw[zA5 q2,Bool.false_or,Bool.not_eq_true']at hb;exact hb
     clear hb q1;refine pF Tryz.func229 ?_;conv=>whnf
     (refine va2 [] [21,18,19,20] ?_;(conv=>whnf);refine va3 [] (S8 b o hc j8 a7 hn) ?_);conv=>whnf
     refine vb6 ?_;(repeat intro hh);refine vb8 ?_;(repeat intro hh);refine⟨A2,?_⟩;conv=>whnf
     refine Or.inl ?_;conv=>whnf
     refine vb7 ?_;(repeat intro hh);refine⟨A2,?_⟩;conv=>whnf
     refine vb8 ?_;(repeat intro hh);(refine va2 [] [50,48] ?_;(conv=>whnf);refine va3 [21,18,19,20,46] (xJ b 2 3) ?_);conv=>whnf
     (repeat' ((first|refine va0 (fun hh=>?_) fun hh=>?_|refine kR ?_|((try refine .inl ?_;conv=>whnf);(try refine⟨false,?_⟩;conv=>whnf);refine⟨_,by exact c1 _,?_⟩)|fail)<;>first|exact hh.elim|conv=>whnf));all_goals rfl
  ·have dA:Am b j8 (b.recipes.getD a7.toNat r9)=false:=by simpa using hb
   rw[if_neg hb]at h ⊢;obtain⟨BS,dA,Xw⟩:=xH dA;rw[BS]at c2;have h2:(b.recipes.getD a7.toNat r9).state > 2:=Decidable.byContradiction fun q=>h (if_neg q)
   rw[if_pos h2];clear h hb BS;refine pF Tryz.func229 ?_;conv=>whnf
   (refine va2 [] [21,18,19,20] ?_;(conv=>whnf);refine va3 [] (S8 b o hc j8 a7 hn) ?_);conv=>whnf
   refine vb6 ?_;(repeat intro hh);refine vb8 ?_;(repeat intro hh);refine⟨A2,?_⟩;conv=>whnf
   refine Or.inl ?_;conv=>whnf
   refine vb7 ?_;(repeat intro hh);refine⟨A2,?_⟩;conv=>whnf
   refine vb8 ?_;(repeat intro hh);(refine va2 [] [50,48] ?_;(conv=>whnf);refine va3 [21,18,19,20,46] (xJ b 2 3) ?_);conv=>whnf
   (repeat' ((first|refine va0 (fun hh=>?_) fun hh=>?_|refine kR ?_|((try refine .inl ?_;conv=>whnf);(try refine⟨false,?_⟩;conv=>whnf);refine⟨_,by exact c1 _,?_⟩)|fail)<;>first|exact hh.elim|conv=>whnf));refine⟨A2,?_⟩;conv=>whnf
   try exact va1
   all_goals rfl
 ·have c:=pn b o j8 a7 h1;unfold iY;rw[if_neg h1];by_cases hc:E1 b=true
  ·rw[if_pos hc]at c ⊢;refine pF Tryz.func229 ?_;conv=>whnf
   (repeat' ((first|refine y7 ?_|refine y8 ?_|((try refine .inl ?_;conv=>whnf);(try refine⟨false,?_⟩;conv=>whnf);refine⟨_,by assumption,?_⟩)|refine lD ?_|refine lN ?_|refine kL ?_|fail);conv=>whnf));all_goals rfl
  ·rw[if_neg hc]at c ⊢;refine pF Tryz.func229 ?_;conv=>whnf
   (repeat' ((first|refine y7 ?_|refine y8 ?_|((try refine .inl ?_;conv=>whnf);(try refine⟨false,?_⟩;conv=>whnf);refine⟨_,by assumption,?_⟩)|refine lD ?_|refine lN ?_|refine kL ?_|fail);conv=>whnf));all_goals rfl
theorem xL(b:o7)(o:G8 b)(j9:Int)(h:iq b j9=0):va6 226 [au b,u8 j9] (.tup [au (tO b j9),i64 b.p9.length,i64 0]):=(xz b o j9 h).toPC 6 va4
theorem Dn(b:o7)(o:G8 b)(j8:Int)(g:x8)(h:iU b j8 g=0):va6 228 [au b,i64 j8,Ta g] (.tup [au (tQ b j8 g),i64 b.recipes.length,i64 0]):=(Dm b o j8 g h).toPC 6 va4
theorem xM(b:o7)(o:G8 b)(j8 a7:Int)(h:iY b j8 a7=0):va6 229 [au b,i64 j8,i64 a7] (.tup [au (nQ b j8 a7),i64 0]):=(xK b o j8 a7 h).toPC 6 va4
theorem tY(b:o7)(o:G8 b)(j8 a7:Int)(h:dq b j8 a7=0):va6 230 [au b,i64 j8,i64 a7] (.tup [au (fF b a7),i64 0]):=(tS b o j8 a7 h).toPC 6 va4
theorem An(b:o7)(o:G8 b)(j8:Int)(h:iV b j8=0):va6 231 [au b,i64 j8] (.tup [au (mC b (A4 b.recipes)),i64 0]):=(Ah b o j8 h).toPC 6 va4
theorem xN(b:o7)(o:G8 b)(j8 seq:Int)(h:sA b j8 seq=0):va6 232 [au b,i64 j8,i64 seq] (.tup [au (W0 b seq true),i64 0]):=(xF b o j8 seq h).toPC 6 va4
theorem Ao(b:o7)(o:G8 b)(j8 seq:Int)(h:sB b j8 seq=0):va6 233 [au b,i64 j8,i64 seq] (.tup [au (W0 b seq false),i64 0]):=(Al b o j8 seq h).toPC 6 va4
def Xz:Go.Shelf.Ren:=⟨fun n=>match n with|45=>273|n=>n,fun t=>match t with|22=>35|23=>80|t=>t,fun n=>n⟩
theorem UC:Go.Proofs.SlLaysE0.n45 Tryz.prog Xz where
 mixed:=hm
 f45:=⟨"slices.Delete[[]sightbench/api.Entry,sightbench/api.Entry]",by kernel_rfl,by kernel_rfl⟩
 t0:=by kernel_rfl
 a0:=fun w=>by kernel_rfl
 z0:=fun w=>by kernel_rfl
 v0:=fun w=>by kernel_rfl
 t3:=by kernel_rfl
 a3:=fun w=>by kernel_rfl
 z3:=fun w=>by kernel_rfl
 v3:=fun w=>by kernel_rfl
 t4:=by kernel_rfl
 a4:=fun w=>by kernel_rfl
 z4:=fun w=>by kernel_rfl
 v4:=fun w=>by kernel_rfl
 t22:=by kernel_rfl
 a22:=fun w=>by kernel_rfl
 z22:=fun w=>by kernel_rfl
 v22:=fun w=>by kernel_rfl
def mE(l:List B8)(i:Nat):List B8:=l.take i++l.drop (i+1)
theorem Fe(l:List B8)(i:Nat)(hi:i<l.length):va7 273 [.own 0,i64 i,i64 ((i:Int)+1)] [.vec 80 6 w9 V9 l] (.own 1) [.none,.vec 80 6 w9 V9 (mE l i)] :=
 CN UC Tryz.func273 va4 rfl (fun w=>by kernel_rfl) ((Tryz.prog.info? 80).get va4) va4 va4 (.agg #[.int .i64 0,.int .i64 0,.int .i64 0,.slice none 0 0,.int .u8 0,.bool false]) (fun w=>by kernel_rfl) va4 (fun v hv=>by
  have h:v ∈ [Value.int .i64 0,.int .i64 0,.int .i64 0,.slice none 0 0,.int .u8 0,.bool false]:=hv;simp only[List.mem_cons,List.not_mem_nil,or_false]at h;rcases h with h|h|h|h|h|h<;>rw[h]<;>rfl) 80 w9 V9 (fun y j hj=>by
  match j,hj with
  | 0,_=>rfl
  | 1,_=>rfl
  | 2,_=>rfl
  | 3,_=>rfl
  | 4,_=>rfl
  | 5,_=>rfl) l i hi
theorem KR(x:B8)(hx:x.o9.length<2^20):va6 153 [Iz x] (Iz x):=(Ae x hx).toPC 6 va4
theorem Hi(l:List B8)(hl:l.length<2^16)(ha:∀ i,(l.getD i w9).o9.length<2^20):va7 152 [mw l,.fn (.func 153) [] []] [] (.own 0) [.vec 80 6 w9 V9 l]:=by
 have w1:IntKind.i64.wrap ((l.length:Int)+1)=(l.length:Int)+1:=C7 _ va5 va5;refine pW Tryz.func152 ⟨va4,?_⟩;conv=>whnf
 refine⟨.vec 80 6 w9 V9 [],⟨⟨rfl,rfl,rfl⟩,va5,va5,zA1 va4⟩,?_⟩;conv=>whnf
 refine Or.inr ⟨Nat,[14],[],[(5,⟨B8,80,6,w9,V9⟩)],fun i=>[i64 i],fun _=>[],fun i=>[.vec 80 6 w9 V9 (l.take i)],fun i=>l.length-i,fun i=>i<=l.length,?_⟩;conv=>whnf
 refine⟨⟨0,?_⟩,?_⟩
 ·(conv=>whnf);exact kK ⟨zB4 _,rfl,rfl,rfl⟩
 ·intro j hj;conv=>whnf
  refine⟨fun h=>?_,fun h=>?_⟩
  ·have h:=zA1 h;have BX:j<l.length:=by omega
   have hk:(l.take j).length=j:=by rw[zB1];omega
   conv=>whnf
   refine⟨⟨va5,va5⟩,?_⟩;conv=>whnf
   (repeat' ((first|refine y7 ?_|refine y8 ?_|((try refine .inl ?_;conv=>whnf);(try refine⟨false,?_⟩;conv=>whnf);refine⟨_,by exact KR _ (ha _),?_⟩)|refine lD ?_|refine lN ?_|refine kL ?_|fail);conv=>whnf));refine⟨⟨B8,6,w9,V9,l.take j⟩,[l.getD j w9],rfl,rfl,⟨rfl,rfl⟩,?_,?_,fun y _=>⟨rfl,rfl,rfl⟩,?_⟩
   ·show((l.take j).length+1)*56<=_;rw[hk];omega
   ·show(l.take j).length+1<=_;rw[hk];omega
   conv=>whnf
   refine⟨j+1,?_⟩;conv=>whnf
   refine kK ⟨⟨?_,?_⟩,?_,rfl,?_⟩
   ·show l.length-(j+1)<l.length-j;omega
   ·show j+1<=l.length;omega
   ·rw[C7 _ va5 va5];rfl
   ·show [Row.vec 80 6 w9 V9 (l.take j++[l.getD j w9])]=[Row.vec 80 6 w9 V9 (l.take (j+1))]
    rw[List.take_add_one,zA6 BX];simp[List.getD,BX]
  ·have h:=zA0 h;have ej:l.take j=l:=List.take_of_length_le va5;rw[ej];conv=>whnf
   refine⟨[5],va4,?_⟩;conv=>whnf
   exact⟨rfl,rfl⟩
def XA(b:o7):List Row:=[.cells 182 [i64 b.keep,.own 1,.own 2,i64 b.next,.own 3],.vec 5 1 0 e8 b.p9,.nest 122 13 11 3 r9 eJ A9.B0 none b.recipes,.vec 80 6 w9 V9 b.log]
theorem bV(b:o7)(o:G8 b)(h:E1 b=true):va7 97 [au b] [] (.tup [.ptr 0 0 0 0,i64 0]) (XA b):=by
 have c:va6 69 [au b] (i64 0):=by have c:=fD b o;rwa[if_pos h]at c
 have s:=G6 h;refine pW Tryz.func97 ⟨va4,?_⟩;conv=>whnf
 refine vb5 ?_;(repeat intro hh);(refine va2 [] [12] ?_;(conv=>whnf);refine va3 [] (nN b.p9 o.u) ?_);conv=>whnf
 (refine va2 [] [16] ?_;(conv=>whnf);refine va3 [] (Af b.recipes va5 o.a) ?_);conv=>whnf
 (refine va2 [] [20] ?_;(conv=>whnf);refine va3 [] (Hi b.log va5 o.p) ?_);conv=>whnf
 refine⟨[24,12,16,20],va4,?_⟩;conv=>whnf
 exact⟨rfl,rfl⟩
def cF(x:B8):Bool := !x.disputed
theorem nR(x:B8):va6 272 [Iz x] (.bool (cF x)):=by
 refine pF Tryz.func272 ?_;conv=>whnf
 try rfl
theorem vm(l:List B8)(hl:l.length<2^40):va6 154 [mw l,.fn (.func 272) [] []] (i64 (Mz cF l)):=by
 refine pF Tryz.func154 ?_;conv=>whnf
 refine Or.inr ⟨Nat,[8],[],[],fun k=>[i64 k],fun _=>[],fun _=>[],fun k=>l.length-k,fun k=>k<=l.length/\∀ m,m<k->cF (l.getD m w9)=false,?_⟩;conv=>whnf
 refine⟨⟨0,?_⟩,?_⟩
 ·(conv=>whnf);exact kK ⟨⟨zB4 _,fun i hi=>absurd hi (zB3 i)⟩,rfl,rfl,rfl⟩
 intro k hk;conv=>whnf
 refine⟨fun h=>?_,fun h=>?_⟩
 ·have h:=zA1 h;have L7:k<l.length:=by omega
  conv=>whnf
  refine⟨⟨va5,va5⟩,?_⟩;conv=>whnf
  rw[show Int.toNat (k:Int)=k from rfl];(repeat' (first|(refine⟨_,by exact nR _,?_⟩;(conv=>whnf))|(refine Or.inl ?_;(conv=>whnf);refine⟨_,by exact nR _,?_⟩;(conv=>whnf))|(refine Or.inl ?_;(conv=>whnf);refine⟨false,?_⟩;(conv=>whnf);refine⟨_,by exact nR _,?_⟩;(conv=>whnf))|(refine⟨va4,?_⟩;(conv=>whnf))|fail));refine⟨fun q1=>?_,fun q1=>?_⟩
  ·(conv=>whnf);exact congrArg i64 (Fb L7 q1 hk.2).symm
  ·refine⟨k+1,?_⟩;conv=>whnf
   refine kK ⟨⟨?_,?_,?_⟩,?_,rfl,rfl⟩
   ·show l.length-(k+1)<l.length-k;omega
   ·omega
   ·intro m h2;by_cases e:m=k
    ·subst e;exact q1
    ·exact hk.2 m va5
   ·rw[C7 _ va5 va5];rfl
 ·have h:=zA0 h;conv=>whnf
  exact congrArg i64 (Aj fun m h2=>hk.2 m va5).symm
def gK(b:o7):x8:=(b.recipes.getD (A4 b.recipes) r9).gauge
def sD(b:o7)(part:Int)(o9:List Int):B8:=⟨b.next,A4 b.recipes,part,o9,(F8 (gK b) o9).2.1,false⟩
def pL(b:o7):List B8:=if (b.log.length:Int)=b.keep then mE b.log (b.log.findIdx cF)else b.log
def pM(b:o7)(part:Int)(o9:List Int):o7:=⟨b.keep,b.p9,b.recipes,b.next+1,pL b++[sD b part o9]⟩
def nS(b:o7)(part:Int)(o9:List Int):Int :=
 if E1 b then(if ¬(0<=part/\part<=1099511627776)then 2 else if ¬b.recipes.any C9=true then 102 else if ¬(F8 (gK b) o9).2.2=0 then(F8 (gK b) o9).2.2 else
  if ((b.log.length:Int)=b.keep/\¬b.log.any cF=true)∨b.next=1099511627776 then 9 else 0)else 8
theorem fH{b:o7}{part:Int}{o9:List Int}(h:nS b part o9=0):E1 b=true/\(0<=part/\part<=1099511627776)/\b.recipes.any C9=true/\(F8 (gK b) o9).2.2=0/\((b.log.length:Int)=b.keep->b.log.any cF=true)/\¬b.next=1099511627776:=by
 unfold nS at h;by_cases h1:E1 b=true
 ·rw[if_pos h1]at h;by_cases h2:0<=part/\part<=1099511627776
  ·rw[if_neg (fun q=>q h2)]at h;by_cases h3:b.recipes.any C9=true
   ·rw[if_neg (fun q=>q h3)]at h;by_cases h4:(F8 (gK b) o9).2.2=0
    ·rw[if_neg (fun q=>q h4)]at h;by_cases h5:((b.log.length:Int)=b.keep/\¬b.log.any cF=true)∨b.next=1099511627776
     ·rw[if_pos h5]at h;cases h
     ·exact⟨h1,h2,h3,h4,fun e=>Decidable.byContradiction fun q=>h5 (.inl ⟨e,q⟩),fun e=>h5 (.inr e)⟩
    ·rw[if_pos h4]at h;exact absurd h h4
   ·rw[if_pos h3]at h;cases h
  ·rw[if_pos h2]at h;cases h
 ·rw[if_neg h1]at h;cases h
theorem vn{l:List B8}{i:Nat}(hi:i<l.length):(mE l i).length=l.length-1:=by
 unfold mE;simp;omega
theorem Ap{b:o7}(h:E1 b=true):0<=b.next/\b.next<=1099511627776:=by
 simp only[E1,gG,D1,zA2,zA3]at h;omega
theorem Dp:pV .ff (.bool false):=fun F w v h=>by cases h;exact .bool _
theorem Y0{xs ys:List AV}(hl:xs.length=ys.length)(h:∀ i,i<xs.length->pV (xs.getD i .any) (ys.getD i .any)):pV (.agg xs) (.agg ys)/\pV (.tup xs) (.tup ys):=by
 constructor
 ·intro F w v hv;cases hv with
  | agg h1 h2=>exact .agg (by rw[<- hl];exact h1) fun i hi=>h i va5 _ _ _ (h2 i va5)
 ·intro F w v hv;cases hv with
  | tup h1 h2=>exact .tup (by rw[<- hl];exact h1) fun i hi=>h i va5 _ _ _ (h2 i va5)
abbrev XB:AV := .agg [i64 0,i64 0,i64 0,.nils,u8 0,.ff]
theorem xO(b:o7)(o:G8 b)(part:Int)(o9:List Int)(hp:o9.length<2^20)(h:nS b part o9=0) :
  va6 225 [au b,i64 part,C8 o9] (.tup [au (pM b part o9),.agg [i64 b.next,i64 (A4 b.recipes),i64 part,C8 o9,u8 (F8 (gK b) o9).2.1,.ff],i64 0]):=by
 obtain⟨hc,XC,ha,PM,qy,yw⟩:=fH h;clear h;have s:=G6 hc;have cl:va6 129 [C8 o9] (C8 o9):=(fE o9 hp).toPC 6 va4;have nx:=Ap hc;have c1:va6 105 [i64 0,i64 1099511627776,i64 part] (.bool (decide (0<=part) && decide (part<=1099511627776))):=M1 0 _ part;have c2:=vj b o;have hN:He b=A4 b.recipes:=by unfold He;rw[if_pos hc,if_pos ha]
 have hE:Ai b=0:=by unfold Ai;rw[if_pos hc,if_pos ha]
 rw[hN,hE]at c2;have c3:=bA (b.recipes.getD (A4 b.recipes) r9).gauge o9 (S7 hp);have hm1:(F8 (b.recipes.getD (A4 b.recipes) r9).gauge o9).2.2=0:=PM;rw[hm1]at c3;have hA:=J4 ha;have c4:=vm b.log (S7 o.l);unfold Mz at c4;have w1:IntKind.i64.wrap (b.next+1)=b.next+1:=C7 _ va5 va5;unfold pM sD pL gK;generalize A4 b.recipes=n at *
 by_cases hf:(b.log.length:Int)=b.keep
 ·have El:=qy hf;rw[if_pos El]at c4;rw[if_pos hf];have hi:=iX El;generalize b.log.findIdx cF=i at *
  have hdl:=vn hi;have w2:IntKind.i64.wrap ((i:Int)+1)=(i:Int)+1:=C7 _ va5 va5;refine pF Tryz.func225 ?_;conv=>whnf
  (refine va2 [] [22,19,20,21] ?_;(conv=>whnf);refine va3 [] (bV b o hc) ?_);conv=>whnf
  refine vb6 ?_;(repeat intro hh);refine vb7 ?_;(repeat intro hh);refine⟨hA,?_⟩;conv=>whnf
  refine vb7 ?_;(repeat intro hh);rw[w2];(refine va2 [] [94] ?_;(conv=>whnf);refine va3 [21] (Fe b.log i hi) ?_);conv=>whnf
  refine vb7 ?_;(repeat intro hh);refine⟨⟨B8,6,w9,V9,mE b.log i⟩,[⟨b.next,n,part,o9,(F8 (b.recipes.getD n r9).gauge o9).2.1,false⟩],rfl,rfl,⟨rfl,rfl⟩,?_,?_,fun y _=>⟨rfl,rfl,rfl⟩,?_⟩
  ·show((mE b.log i).length+1)*56<=_;omega
  ·show(mE b.log i).length+1<=_;omega
  conv=>whnf
  refine vb7 ?_;(repeat intro hh);all_goals (first|rfl|(rw[w1];rfl))
 ·rw[if_neg hf];refine pF Tryz.func225 ?_;conv=>whnf
  (refine va2 [] [22,19,20,21] ?_;(conv=>whnf);refine va3 [] (bV b o hc) ?_);conv=>whnf
  refine vb6 ?_;(repeat intro hh);refine vb7 ?_;(repeat intro hh);refine⟨hA,?_⟩;conv=>whnf
  refine vb7 ?_;(repeat intro hh);refine vb7 ?_;(repeat intro hh);refine⟨⟨B8,6,w9,V9,b.log⟩,[⟨b.next,n,part,o9,(F8 (b.recipes.getD n r9).gauge o9).2.1,false⟩],rfl,rfl,⟨rfl,rfl⟩,?_,?_,fun y _=>⟨rfl,rfl,rfl⟩,?_⟩
  ·show(b.log.length+1)*56<=_;omega
  ·show b.log.length+1<=_;omega
  conv=>whnf
  refine vb7 ?_;(repeat intro hh);all_goals (first|rfl|(rw[w1];rfl))
theorem Aq(b:o7)(o:G8 b)(part:Int)(o9:List Int)(hp:o9.length<2^20)(h:nS b part o9=0) :
  va6 225 [au b,i64 part,C8 o9] (.tup [au (pM b part o9),Iz (sD b part o9),i64 0]):=by
 have e:pV (.agg [i64 b.next,i64 (A4 b.recipes),i64 part,C8 o9,u8 (F8 (gK b) o9).2.1,.ff]) (Iz (sD b part o9)):=by
  refine(Y0 (xs:=[i64 b.next,i64 (A4 b.recipes),i64 part,C8 o9,u8 (F8 (gK b) o9).2.1,.ff]) (ys:=V9 (sD b part o9)) rfl fun i hi=>?_).1
  match i with
  | 0=>exact .refl _
  | 1=>exact .refl _
  | 2=>exact .refl _
  | 3=>exact .refl _
  | 4=>exact .refl _
  | 5=>exact Dp
  | (n+6)=>exact .refl _
 refine(xO b o part o9 hp h).sub rfl (fun i hi => .refl _) ?_;refine(Y0 (xs:=[au (pM b part o9),.agg [i64 b.next,i64 (A4 b.recipes),i64 part,C8 o9,u8 (F8 (gK b) o9).2.1,.ff],i64 0]) (ys:=[au (pM b part o9),Iz (sD b part o9),i64 0]) rfl fun i hi=>?_).2
 match i with
 | 0=>exact .refl _
 | 1=>exact e
 | 2=>exact .refl _
 | (n+3)=>exact .refl _
theorem xP(b:o7)(o:G8 b)(part:Int)(o9:List Int)(hp:o9.length<2^20)(h:¬nS b part o9=0) :
  va6 225 [au b,i64 part,C8 o9] (.tup [mB 0,XB,i64 (nS b part o9)]):=by
 by_cases hc:E1 b=true
 ·unfold nS at h ⊢;rw[if_pos hc]at h ⊢;have s:=G6 hc;have nx:=Ap hc;have c1:va6 105 [i64 0,i64 1099511627776,i64 part] (.bool (decide (0<=part) && decide (part<=1099511627776))):=M1 0 _ part;by_cases XC:0<=part/\part<=1099511627776
  ·rw[if_neg (fun q=>q XC)]at h ⊢;have c2:=vj b o;by_cases ha:b.recipes.any C9=true
   ·rw[if_neg (fun q=>q ha)]at h ⊢;have hN:He b=A4 b.recipes:=by unfold He;rw[if_pos hc,if_pos ha]
    have hE:Ai b=0:=by unfold Ai;rw[if_pos hc,if_pos ha]
    rw[hN,hE]at c2;have hA:=J4 ha;have c3:=bA (b.recipes.getD (A4 b.recipes) r9).gauge o9 (S7 hp);unfold gK at h ⊢;generalize A4 b.recipes=n at *
    by_cases PM:(F8 (b.recipes.getD n r9).gauge o9).2.2=0
    ·rw[if_neg (fun q=>q PM)]at h ⊢;have h9:((b.log.length:Int)=b.keep/\¬b.log.any cF=true)∨b.next=1099511627776:=Decidable.byContradiction fun q=>h (if_neg q)
     rw[if_pos h9];rw[PM]at c3;clear h;have c4:=vm b.log (S7 o.l);unfold Mz at c4;by_cases hf:(b.log.length:Int)=b.keep
     ·by_cases El:b.log.any cF=true
      ·have yw:b.next=1099511627776:=by
        rcases h9 with q|q
        ·exact absurd El q.2
        ·exact q
       clear h9;rw[if_pos El]at c4;have hi:=iX El;generalize b.log.findIdx cF=i at *
       have w2:IntKind.i64.wrap ((i:Int)+1)=(i:Int)+1:=C7 _ va5 va5;refine pF Tryz.func225 ?_;conv=>whnf
       (refine va2 [] [22,19,20,21] ?_;(conv=>whnf);refine va3 [] (bV b o hc) ?_);conv=>whnf
       refine vb6 ?_;(repeat intro hh);refine vb7 ?_;(repeat intro hh);refine⟨hA,?_⟩;conv=>whnf
       refine vb7 ?_;(repeat intro hh);rw[w2];(refine va2 [] [94] ?_;(conv=>whnf);refine va3 [21] (Fe b.log i hi) ?_);conv=>whnf
       try exact va1
       all_goals rfl
      ·rw[if_neg El]at c4;clear h9;refine pF Tryz.func225 ?_;conv=>whnf
       (refine va2 [] [22,19,20,21] ?_;(conv=>whnf);refine va3 [] (bV b o hc) ?_);conv=>whnf
       refine vb6 ?_;(repeat intro hh);refine vb7 ?_;(repeat intro hh);refine⟨hA,?_⟩;conv=>whnf
       try exact va1
       all_goals rfl
     ·have yw:b.next=1099511627776:=by
       rcases h9 with q|q
       ·exact absurd q.1 hf
       ·exact q
      clear h9;refine pF Tryz.func225 ?_;conv=>whnf
      (refine va2 [] [22,19,20,21] ?_;(conv=>whnf);refine va3 [] (bV b o hc) ?_);conv=>whnf
      refine vb6 ?_;(repeat intro hh);refine vb7 ?_;(repeat intro hh);refine⟨hA,?_⟩;conv=>whnf
      try exact va1
      try exact va1
      all_goals rfl
    ·rw[if_pos PM];clear h;refine pF Tryz.func225 ?_;conv=>whnf
     (refine va2 [] [22,19,20,21] ?_;(conv=>whnf);refine va3 [] (bV b o hc) ?_);conv=>whnf
     refine vb6 ?_;(repeat intro hh);refine vb7 ?_;(repeat intro hh);refine⟨hA,?_⟩;conv=>whnf
     try exact va1
     all_goals rfl
   ·rw[if_pos ha];have hE:Ai b=102:=by unfold Ai;rw[if_pos hc,if_neg ha]
    rw[hE]at c2;clear h;refine pF Tryz.func225 ?_;conv=>whnf
    (refine va2 [] [22,19,20,21] ?_;(conv=>whnf);refine va3 [] (bV b o hc) ?_);conv=>whnf
    refine vb6 ?_;(repeat intro hh);try exact va1
    all_goals rfl
  ·rw[if_pos XC];clear h;refine pF Tryz.func225 ?_;conv=>whnf
   (refine va2 [] [22,19,20,21] ?_;(conv=>whnf);refine va3 [] (bV b o hc) ?_);conv=>whnf
   refine vb6 ?_;(repeat intro hh);try exact va1
   all_goals rfl
 ·have Cp:E1 b=false:=by simpa using hc
  have c:=V2 b o Cp;unfold nS;rw[if_neg hc];refine pF Tryz.func225 ?_;conv=>whnf
  (repeat' ((first|refine y7 ?_|refine y8 ?_|((try refine .inl ?_;conv=>whnf);(try refine⟨false,?_⟩;conv=>whnf);refine⟨_,by assumption,?_⟩)|refine lD ?_|refine lN ?_|refine kL ?_|fail);conv=>whnf));all_goals rfl
structure tZ where
 kind:Int
 j8:Int
 a7:Int
 j9:Int
 gauge:x8
 o9:List Int
def XD(a:tZ):List AV:=[u8 a.kind,i64 a.j8,i64 a.a7,u8 a.j9,i64 (H8 a.gauge),i64 (D9 a.gauge),i64 (J5 a.gauge).1.1,i64 (J5 a.gauge).1.2,i64 (J5 a.gauge).2.1,i64 (J5 a.gauge).2.2,i64 a.gauge.1.2.1,i64 a.gauge.1.2.2,i64 a.gauge.2.1,i64 a.gauge.2.2,C8 a.o9]
abbrev act(a:tZ):AV := .agg (XD a)
def eP(a:tZ):Int:=a.kind.tmod 8
def Oc(b:o7)(a:tZ):Int :=
 if eP a=0 then iq b a.j9 else if eP a=1 then iU b a.j8 a.gauge else if eP a=2 then iY b a.j8 a.a7 else if eP a=3 then dq b a.j8 a.a7 else if eP a=4 then iV b a.j8 else if eP a=5 then nS b a.a7 a.o9 else if eP a=6 then sA b a.j8 a.a7 else sB b a.j8 a.a7
def lq(b:o7)(a:tZ):o7 :=
 if eP a=0 then tO b a.j9 else if eP a=1 then tQ b a.j8 a.gauge else if eP a=2 then nQ b a.j8 a.a7 else if eP a=3 then fF b a.a7 else if eP a=4 then mC b (A4 b.recipes)else if eP a=5 then pM b a.a7 a.o9 else if eP a=6 then W0 b a.a7 true else W0 b a.a7 false

end Go.Proofs.Tryz.My
