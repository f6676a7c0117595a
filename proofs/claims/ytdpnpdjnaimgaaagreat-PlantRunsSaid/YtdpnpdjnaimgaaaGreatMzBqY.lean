/- Helper lemmas. -/
import Derived.Test.YtdpnpdjnaimgaaaGreatMzBnD
set_option linter.unusedVariables false
set_option linter.unusedSimpArgs false
set_option maxRecDepth 100000
set_option maxHeartbeats 0
namespace Go.Proofs.Tryz.My
open Go Go.Ev
theorem ba(b:o7)(o:G8 b):va7 77 [au b] [] (a09 b) [.vec 5 1 0 e8 b.p9,.vec 122 13 r9 eJ b.recipes,.vec 80 6 w9 V9 b.log]:=by
 have hu:=o.u;have hr:=o.r;have hl:=o.l;have ha:=o.a;have hp:=o.p;obtain⟨k,us,rs,n,lg⟩:=b;simp only at hu hr hl ha hp;refine pW Tryz.func77 ⟨va4,?_⟩;conv=>whnf
 refine⟨⟨Int,1,0,e8,[]⟩,us,rfl,⟨rfl,rfl⟩,rfl,?_,?_,fun y _=>⟨rfl,rfl,rfl⟩,?_⟩
 ·show(0+us.length)*1<=_;omega
 ·show 0+us.length<=_;omega
 conv=>whnf
 refine⟨⟨A9,13,r9,eJ,[]⟩,rs,rfl,⟨rfl,rfl⟩,rfl,?_,?_,fun y _=>⟨rfl,rfl,rfl⟩,?_⟩
 ·show(0+rs.length)*120<=_;omega
 ·show 0+rs.length<=_;omega
 conv=>whnf
 refine Or.inr ⟨Nat,[3],[13],[],fun k=>[i64 k],fun _=>[.vec 122 13 r9 eJ rs],fun _=>[],fun k=>rs.length-k,fun k=>k<=rs.length,?_⟩;conv=>whnf
 refine⟨⟨0,?_⟩,?_⟩
 ·(conv=>whnf);exact kK ⟨zB4 _,rfl,rfl,rfl⟩
 ·intro j hj;conv=>whnf
  refine⟨fun h=>?_,fun h=>?_⟩
  ·have h:=zA1 h;have BX:j<rs.length:=by omega
   have Xt:=ha j;refine vb8 ?_;(repeat intro hh);refine⟨BX,?_⟩;conv=>whnf
   rw[show Int.toNat (j:Int)=j from rfl];refine⟨⟨Int,1,0,eI,[]⟩,(rs.getD j r9).B0,rfl,⟨rfl,rfl⟩,rfl,?_,?_,fun y _=>⟨rfl,rfl,rfl⟩,?_⟩
   ·show(0+(rs.getD j r9).B0.length)*8<=_;omega
   ·show 0+(rs.getD j r9).B0.length<=_;omega
   conv=>whnf
   refine⟨⟨va5,va5⟩,?_⟩;conv=>whnf
   refine⟨rs.getD j r9,⟨rfl,BX⟩,?_⟩;conv=>whnf
   refine⟨va4,?_⟩;conv=>whnf
   refine⟨j+1,?_⟩;conv=>whnf
   refine kK ⟨⟨?_,?_⟩,?_,?_,rfl⟩
   ·show rs.length-(j+1)<rs.length-j;omega
   ·show j+1<=rs.length;omega
   ·rw[C7 _ va5 va5];rfl
   ·rw[show Int.toNat (j:Int)=j from rfl,eN]
  ·have h:=zA0 h;conv=>whnf
   refine⟨⟨B8,6,w9,V9,[]⟩,lg,rfl,⟨rfl,rfl⟩,rfl,?_,?_,fun y _=>⟨rfl,rfl,rfl⟩,?_⟩
   ·show(0+lg.length)*56<=_;omega
   ·show 0+lg.length<=_;omega
   conv=>whnf
   refine Or.inr ⟨Nat,[4],[38],[],fun k=>[i64 k],fun _=>[.vec 80 6 w9 V9 lg],fun _=>[],fun k=>lg.length-k,fun k=>k<=lg.length,?_⟩;conv=>whnf
   refine⟨⟨0,?_⟩,?_⟩
   ·(conv=>whnf);exact kK ⟨zB4 _,rfl,rfl,rfl⟩
   ·intro j hj;conv=>whnf
    refine⟨fun h=>?_,fun h=>?_⟩
    ·have h:=zA1 h;have BX:j<lg.length:=by omega
     have Xt:=hp j;refine vb8 ?_;(repeat intro hh);refine⟨BX,?_⟩;conv=>whnf
     rw[show Int.toNat (j:Int)=j from rfl];refine⟨⟨Int,1,0,eI,[]⟩,(lg.getD j w9).o9,rfl,⟨rfl,rfl⟩,rfl,?_,?_,fun y _=>⟨rfl,rfl,rfl⟩,?_⟩
     ·show(0+(lg.getD j w9).o9.length)*8<=_;omega
     ·show 0+(lg.getD j w9).o9.length<=_;omega
     conv=>whnf
     refine⟨⟨va5,va5⟩,?_⟩;conv=>whnf
     refine⟨lg.getD j w9,⟨rfl,BX⟩,?_⟩;conv=>whnf
     refine⟨va4,?_⟩;conv=>whnf
     refine⟨j+1,?_⟩;conv=>whnf
     refine kK ⟨⟨?_,?_⟩,?_,?_,rfl⟩
     ·show lg.length-(j+1)<lg.length-j;omega
     ·show j+1<=lg.length;omega
     ·rw[C7 _ va5 va5];rfl
     ·rw[show Int.toNat (j:Int)=j from rfl,eN]
    ·have h:=zA0 h;conv=>whnf
     refine⟨[8,13,38],va4,?_⟩;conv=>whnf
     exact⟨rfl,rfl⟩
theorem a1a(b:o7)(o:G8 b)(hI:∀ i,IG (b.recipes.getD i r9).gauge)(j9:Int)(h:iq b j9=0):va6 187 [au b,u8 j9] (.tup [au (tO b j9),i64 b.p9.length,i64 0]):=by
 have hc:E1 b=true:=by
  unfold iq at h;split at h
  ·assumption
  ·cases h
 have hr:¬(j9<1∨3<j9):=fun q=>by
  unfold iq at h;rw[if_pos hc,if_pos q]at h;cases h
 have hu:¬(b.p9.length:Int)=16:=fun q=>by
  unfold iq at h;rw[if_pos hc,if_neg hr,if_pos q]at h;cases h
 have s:=G6 hc;have w1:IntKind.i64.wrap (((b.p9++[j9]).length:Int)-1)=b.p9.length:=by
  have hl:((b.p9++[j9]).length:Int)=b.p9.length+1:=by simp
  rw[hl,C7 _ va5 va5];omega
 have c:=u4 b o hI;rw[hc]at c;refine pF Tryz.func187 ?_;conv=>whnf
 refine vb5 ?_;(repeat intro hh);refine vb8 ?_;(repeat intro hh);(refine va2 [] [24,22,23] ?_;(conv=>whnf);refine va3 [] (ba b o) ?_);conv=>whnf
 refine⟨⟨Int,1,0,e8,b.p9⟩,[j9],rfl,rfl,⟨rfl,rfl⟩,?_,?_,fun y _=>⟨rfl,rfl,rfl⟩,?_⟩
 ·show(b.p9.length+1)*1<=_;omega
 ·show b.p9.length+1<=_;omega
 conv=>whnf
 refine vb8 ?_;(repeat intro hh);rw[w1];rfl
theorem a0O(b:o7)(o:G8 b)(hI:∀ i,IG (b.recipes.getD i r9).gauge)(j9:Int)(h:¬iq b j9=0):va6 187 [au b,u8 j9] (.tup [mB 0,i64 0,i64 (iq b j9)]):=by
 have c:=u4 b o hI;by_cases hc:E1 b=true
 ·have s:=G6 hc;unfold iq at h ⊢;rw[if_pos hc]at h ⊢;rw[hc]at c;refine pF Tryz.func187 ?_;conv=>whnf
  refine vb5 ?_;(repeat intro hh);(repeat' ((first|refine va0 (fun hh=>?_) fun hh=>?_|refine kR ?_|fail)<;>first|exact hh.elim|conv=>whnf));all_goals first
   | (exfalso;apply h;rw[if_neg va5,if_neg va5];done)
   | (rw[if_pos va5];done)
   | (rw[if_neg va5,if_pos va5];done)
  
 ·have hc:E1 b=false:=by simpa using hc
  unfold iq;rw[if_neg (by rw[hc];decide)];rw[hc]at c;refine pF Tryz.func187 ?_;conv=>whnf
  (repeat' ((first|refine y7 ?_|refine y8 ?_|((try refine .inl ?_;conv=>whnf);(try refine⟨false,?_⟩;conv=>whnf);refine⟨_,by assumption,?_⟩)|refine lD ?_|refine lN ?_|refine kL ?_|fail);conv=>whnf));try rfl
theorem k8(b:o7)(o:G8 b)(u:Int):va6 241 [au b,i64 u] (.bool (decide (0<=u) && decide (u<=(b.p9.length:Int)-1))):=by
 have hu:=o.u;have w0:IntKind.i64.wrap ((b.p9.length:Int)-1)=(b.p9.length:Int)-1:=C7 _ va5 va5;have c:va6 107 [i64 u,i64 0,i64 (IntKind.i64.wrap ((b.p9.length:Int)-1))] (.bool (decide (0<=u) && decide (u<=(b.p9.length:Int)-1))):=by rw[w0];exact r5 _ _ _
 refine pF Tryz.func241 ?_;conv=>whnf
 (repeat' (first|(refine⟨_,by exact c,?_⟩;(conv=>whnf))|(refine Or.inl ?_;(conv=>whnf);refine⟨_,by exact c,?_⟩;(conv=>whnf))|(refine Or.inl ?_;(conv=>whnf);refine⟨false,?_⟩;(conv=>whnf);refine⟨_,by exact c,?_⟩;(conv=>whnf))|(refine⟨va4,?_⟩;(conv=>whnf))|fail));try rfl
theorem a1D(b:o7)(o:G8 b)(hI:∀ i,IG (b.recipes.getD i r9).gauge)(j8:Int)(g:x8)(hG:IG g)(h:iU b j8 g=0):va6 188 [au b,i64 j8,Ta g] (.tup [au (tQ b j8 g),i64 b.recipes.length,i64 0]):=by
 have hc:E1 b=true:=by
  unfold iU at h;split at h
  ·assumption
  ·cases h
 unfold iU at h;rw[if_pos hc]at h;have hu:0<=j8/\j8<=(b.p9.length:Int)-1:=Decidable.byContradiction fun q=>by rw[if_pos q]at h;cases h
 rw[if_neg (show ¬¬(0<=j8/\j8<=(b.p9.length:Int)-1) from fun q=>q hu)]at h;have tR:I7 [2] b.p9 j8=true:=by
  cases e:I7 [2] b.p9 j8 with
  | true=>rfl
  | false=>rw[if_pos e]at h;cases h
 rw[if_neg (show ¬I7 [2] b.p9 j8=false by rw[tR];decide)]at h;have hg:S6 g=true:=Decidable.byContradiction fun q=>by rw[if_pos q]at h;cases h
 rw[if_neg (show ¬¬S6 g=true from fun q=>q hg)]at h;have hl:¬(b.recipes.length:Int)=16:=fun q=>by rw[if_pos q]at h;cases h
 clear h;have wK:=(a0n hu.1 va5).1 tR;have s:=G6 hc;have c:=u4 b o hI;rw[hc]at c;have w1:IntKind.i64.wrap (((b.recipes++[L8 j8 g]).length:Int)-1)=b.recipes.length:=by
  have hl:((b.recipes++[L8 j8 g]).length:Int)=b.recipes.length+1:=by simp
  rw[hl,C7 _ va5 va5];omega
 refine pF Tryz.func188 ?_;conv=>whnf
 refine vb5 ?_;(repeat intro hh);(repeat' ((first|refine va0 (fun hh=>?_) fun hh=>?_|refine kR ?_|((try refine .inl ?_;conv=>whnf);(try refine⟨false,?_⟩;conv=>whnf);refine⟨_,by first|exact k8 b o _|exact a0g g hG,?_⟩)|fail)<;>first|exact hh.elim|conv=>whnf));(refine va2 [] [38,36,37] ?_;(conv=>whnf);refine va3 [] (ba b o) ?_);conv=>whnf
 refine⟨⟨A9,13,r9,eJ,b.recipes⟩,[L8 j8 g],rfl,rfl,⟨rfl,rfl⟩,?_,?_,fun y _=>⟨rfl,rfl,rfl⟩,?_⟩
 ·show(b.recipes.length+1)*120<=_;omega
 ·show b.recipes.length+1<=_;omega
 conv=>whnf
 refine vb8 ?_;(repeat intro hh);rw[w1];rfl
theorem a1r(b:o7)(o:G8 b)(hI:∀ i,IG (b.recipes.getD i r9).gauge)(j8:Int)(g:x8)(hG:IG g)(h:¬iU b j8 g=0):va6 188 [au b,i64 j8,Ta g] (.tup [mB 0,i64 0,i64 (iU b j8 g)]):=by
 have c:=u4 b o hI;by_cases hc:E1 b=true
 ·have s:=G6 hc;unfold iU at h ⊢;rw[if_pos hc]at h ⊢;rw[hc]at c;by_cases hu:0<=j8/\j8<=(b.p9.length:Int)-1
  ·rw[if_neg (show ¬¬(0<=j8/\j8<=(b.p9.length:Int)-1) from fun q=>q hu)]at h ⊢;have wK:=a0n (us:=b.p9) hu.1 (show j8<b.p9.length by omega);by_cases tR:I7 [2] b.p9 j8=true
   ·rw[if_neg (show ¬I7 [2] b.p9 j8=false by rw[tR];decide)]at h ⊢;have hm3:=wK.1 tR;refine pF Tryz.func188 ?_;conv=>whnf
    refine vb5 ?_;(repeat intro hh);(repeat' ((first|refine va0 (fun hh=>?_) fun hh=>?_|refine kR ?_|((try refine .inl ?_;conv=>whnf);(try refine⟨false,?_⟩;conv=>whnf);refine⟨_,by first|exact k8 b o _|exact a0g g hG,?_⟩)|fail)<;>first|exact hh.elim|conv=>whnf));all_goals first
     | (exfalso;apply h;simp_all;done)
     | (simp_all;done)
    
   ·have hm3:¬b.p9.getD j8.toNat 0=2:=fun e=>tR (wK.2 e)
    rw[if_pos (show I7 [2] b.p9 j8=false by simpa using tR)];refine pF Tryz.func188 ?_;conv=>whnf
    refine vb5 ?_;(repeat intro hh);(repeat' ((first|refine va0 (fun hh=>?_) fun hh=>?_|refine kR ?_|((try refine .inl ?_;conv=>whnf);(try refine⟨false,?_⟩;conv=>whnf);refine⟨_,by exact k8 b o _,?_⟩)|fail)<;>first|exact hh.elim|conv=>whnf));all_goals rfl
  ·rw[if_pos hu];refine pF Tryz.func188 ?_;conv=>whnf
   refine vb5 ?_;(repeat intro hh);(repeat' ((first|refine va0 (fun hh=>?_) fun hh=>?_|refine kR ?_|((try refine .inl ?_;conv=>whnf);(try refine⟨false,?_⟩;conv=>whnf);refine⟨_,by exact k8 b o _,?_⟩)|fail)<;>first|exact hh.elim|conv=>whnf));all_goals rfl
 ·have hc:E1 b=false:=by simpa using hc
  unfold iU;rw[if_neg (by rw[hc];decide)];rw[hc]at c;refine pF Tryz.func188 ?_;conv=>whnf
  (repeat' ((first|refine y7 ?_|refine y8 ?_|((try refine .inl ?_;conv=>whnf);(try refine⟨false,?_⟩;conv=>whnf);refine⟨_,by assumption,?_⟩)|refine lD ?_|refine lN ?_|refine kL ?_|fail);conv=>whnf));try rfl
theorem a0Z(b:o7)(o:G8 b)(q:Int):va6 282 [au b,i64 q] (i64 (Mz (R4 q) b.log)):=by
 have hl:=o.l;refine pF Tryz.func282 ?_;conv=>whnf
 refine Or.inr ⟨Nat,[5],[],[],fun k=>[i64 k],fun _=>[],fun _=>[],fun k=>b.log.length-k,fun k=>k<=b.log.length/\∀ m,m<k->R4 q (b.log.getD m w9)=false,?_⟩;conv=>whnf
 refine⟨⟨0,?_⟩,?_⟩
 ·(conv=>whnf);exact kK ⟨⟨zB4 _,fun i hi=>absurd hi (zB3 i)⟩,rfl,rfl,rfl⟩
 intro k hk;conv=>whnf
 refine⟨fun h=>?_,fun h=>?_⟩
 ·have h:=zA1 h;have L7:k<b.log.length:=by omega
  conv=>whnf
  refine⟨⟨va5,va5⟩,?_⟩;conv=>whnf
  rw[show Int.toNat (k:Int)=k from rfl];refine⟨fun q1=>?_,fun q1=>?_⟩
  ·(conv=>whnf);exact congrArg i64 (Fb L7 q1 hk.2).symm
  ·refine⟨k+1,?_⟩;conv=>whnf
   refine kK ⟨⟨?_,?_,?_⟩,?_,rfl,rfl⟩
   ·show b.log.length-(k+1)<b.log.length-k;omega
   ·omega
   ·intro m h2;by_cases e:m=k
    ·subst e;exact q1
    ·exact hk.2 m va5
   ·rw[C7 _ va5 va5];rfl
 ·have h:=zA0 h;conv=>whnf
  exact congrArg i64 (Aj fun m h2=>hk.2 m va5).symm
theorem a3d{us:List Int}{u:Int}(h1:0<=u)(h2:u<us.length)(hs:a1p us):I7 [1,2,3] us u=true:=by
 have h3:=hs u.toNat va5;unfold I7 D1;rw[zA4 h1,zA4 (show u<=(us.length:Int)-1 by omega),Bool.true_and,Bool.true_and];simp only[List.contains,List.elem_eq_mem,zA3,List.mem_cons,List.not_mem_nil,or_false];omega
theorem a0P{b:o7}(h:E1 b=true):a1p b.p9:=by
 simp only[E1,zA2]at h;exact a2m h.1.1.2
def a2b(b:o7)(is:Bool)(rr:List Int):Prop:=∀ u:Int,0<=u->u<b.p9.length->(I7 rr b.p9 u = !(!is && decide (b.p9.getD u.toNat 0≠3)))
theorem a2U{b:o7}(h:E1 b=true):a2b b true [1,2,3]:=fun u h1 h2=>by rw[a3d h1 h2 (a0P h)];rfl
theorem a2V(b:o7):a2b b false [3]:=fun u h1 h2=>by
 rw[a1h h1 h2];by_cases e:b.p9.getD u.toNat 0=3<;>simp[e]
theorem a00(b:o7)(o:G8 b)(hI:∀ i,IG (b.recipes.getD i r9).gauge)(j8 seq:Int)(is:Bool)(rr:List Int)(hr:E1 b=true->a2b b is rr)(h:jO b j8 seq is rr=0):va6 245 [au b,i64 j8,i64 seq,.bool is] (.tup [au (W0 b seq is),i64 0]):=by
 obtain⟨hc,ha,hu,tR,hd⟩:=vk h;clear h;have s:=G6 hc;have wK:=hr hc j8 hu.1 va5;rw[tR]at wK;have A2:dG b seq<b.log.length:=iX ha;have e:=a0Z b o seq;have c:=u4 b o hI;rw[hc]at c;unfold Mz at e;rw[if_pos ha]at e;unfold W0;unfold dG at *
 generalize b.log.findIdx (R4 seq)=i at *
 cases is with
 | true =>
  have qD:(b.log.getD i w9).disputed=false:=by simpa using hd
  have z2:(b.log[i]'(A2)).disputed=false:=by have z:=qD;simp only[List.getD,zA6 A2,Option.getD_some]at z;exact z
  clear wK;refine pF Tryz.func245 ?_;conv=>whnf
  refine vb5 ?_;(repeat intro hh);(repeat' ((first|refine va0 (fun hh=>?_) fun hh=>?_|refine kR ?_|((try refine .inl ?_;conv=>whnf);(try refine⟨false,?_⟩;conv=>whnf);refine⟨_,by exact k8 b o _,?_⟩)|fail)<;>first|exact hh.elim|conv=>whnf));(refine va2 [] [51,49,50] ?_;(conv=>whnf);refine va3 [] (ba b o) ?_);conv=>whnf
  refine vb8 ?_;(repeat intro hh);refine⟨Hf (b.log.getD i w9) true,rfl,A2,?_⟩;conv=>whnf
  rfl
 | false =>
  have qD:(b.log.getD i w9).disputed=true:=by simpa using hd
  have z2:(b.log[i]'(A2)).disputed=true:=by have z:=qD;simp only[List.getD,zA6 A2,Option.getD_some]at z;exact z
  have h3:b.p9.getD j8.toNat 0=3:=by simpa using wK
  clear wK;refine pF Tryz.func245 ?_;conv=>whnf
  refine vb5 ?_;(repeat intro hh);(repeat' ((first|refine va0 (fun hh=>?_) fun hh=>?_|refine kR ?_|((try refine .inl ?_;conv=>whnf);(try refine⟨false,?_⟩;conv=>whnf);refine⟨_,by exact k8 b o _,?_⟩)|fail)<;>first|exact hh.elim|conv=>whnf));(refine va2 [] [51,49,50] ?_;(conv=>whnf);refine va3 [] (ba b o) ?_);conv=>whnf
  refine vb8 ?_;(repeat intro hh);refine⟨Hf (b.log.getD i w9) false,rfl,A2,?_⟩;conv=>whnf
  rfl
theorem a0E(b:o7)(o:G8 b)(hI:∀ i,IG (b.recipes.getD i r9).gauge)(j8 seq:Int)(is:Bool)(rr:List Int)(hr:E1 b=true->a2b b is rr)(h:¬jO b j8 seq is rr=0):va6 245 [au b,i64 j8,i64 seq,.bool is] (.tup [mB 0,i64 (jO b j8 seq is rr)]):=by
 have c:=u4 b o hI;by_cases hc:E1 b=true
 ·rw[hc]at c;have hr:=hr hc;have s:=G6 hc;have e:=a0Z b o seq;have hl:=o.l;unfold jO at h ⊢;rw[if_pos hc]at h ⊢;unfold Mz at e;unfold dG at *
  by_cases ha:b.log.any (R4 seq)=true
  ·rw[if_pos ha]at e;have A2:b.log.findIdx (R4 seq)<b.log.length:=iX ha;generalize b.log.findIdx (R4 seq)=i at *
   by_cases hu:0<=j8/\j8<=(b.p9.length:Int)-1
   ·rw[if_neg (fun q=>q ⟨ha,hu⟩)]at h ⊢;have wK:=hr j8 hu.1 va5;by_cases tR:I7 rr b.p9 j8=true
    ·rw[if_neg (by rw[tR];decide)]at h ⊢;have hd:(b.log.getD i w9).disputed=is:=Decidable.byContradiction fun q=>h (if_neg q)
     rw[if_pos hd];rw[tR]at wK;cases is with
     | true =>
      have z2:(b.log[i]'(A2)).disputed=true:=by have z:=hd;simp only[List.getD,zA6 A2,Option.getD_some]at z;exact z
      clear wK;refine pF Tryz.func245 ?_;conv=>whnf
      refine vb5 ?_;(repeat intro hh);(repeat' ((first|refine va0 (fun hh=>?_) fun hh=>?_|refine kR ?_|((try refine .inl ?_;conv=>whnf);(try refine⟨false,?_⟩;conv=>whnf);refine⟨_,by exact k8 b o _,?_⟩)|fail)<;>first|exact hh.elim|conv=>whnf));all_goals rfl
     | false =>
      have h3:b.p9.getD j8.toNat 0=3:=by simpa using wK
      have z2:(b.log[i]'(A2)).disputed=false:=by have z:=hd;simp only[List.getD,zA6 A2,Option.getD_some]at z;exact z
      clear wK;refine pF Tryz.func245 ?_;conv=>whnf
      refine vb5 ?_;(repeat intro hh);(repeat' ((first|refine va0 (fun hh=>?_) fun hh=>?_|refine kR ?_|((try refine .inl ?_;conv=>whnf);(try refine⟨false,?_⟩;conv=>whnf);refine⟨_,by exact k8 b o _,?_⟩)|fail)<;>first|exact hh.elim|conv=>whnf));all_goals rfl
    ·have hm3:I7 rr b.p9 j8=false:=by simpa using tR
     rw[if_pos hm3];rw[hm3]at wK;cases is with
     | true=>simp at wK
     | false =>
      have h3:¬b.p9.getD j8.toNat 0=3:=by simpa using wK
      clear wK;refine pF Tryz.func245 ?_;conv=>whnf
      refine vb5 ?_;(repeat intro hh);(repeat' ((first|refine va0 (fun hh=>?_) fun hh=>?_|refine kR ?_|((try refine .inl ?_;conv=>whnf);(try refine⟨false,?_⟩;conv=>whnf);refine⟨_,by exact k8 b o _,?_⟩)|fail)<;>first|exact hh.elim|conv=>whnf));all_goals rfl
   ·rw[if_pos (fun q=>hu q.2)];refine pF Tryz.func245 ?_;conv=>whnf
    refine vb5 ?_;(repeat intro hh);(repeat' ((first|refine va0 (fun hh=>?_) fun hh=>?_|refine kR ?_|((try refine .inl ?_;conv=>whnf);(try refine⟨false,?_⟩;conv=>whnf);refine⟨_,by exact k8 b o _,?_⟩)|fail)<;>first|exact hh.elim|conv=>whnf));all_goals rfl
  ·rw[if_neg ha]at e;rw[if_pos (fun q=>ha q.1)];refine pF Tryz.func245 ?_;conv=>whnf
   refine vb5 ?_;(repeat intro hh);(repeat' ((first|refine va0 (fun hh=>?_) fun hh=>?_|refine kR ?_|((try refine .inl ?_;conv=>whnf);(try refine⟨false,?_⟩;conv=>whnf);refine⟨_,by exact k8 b o _,?_⟩)|fail)<;>first|exact hh.elim|conv=>whnf));all_goals rfl
 ·have Cp:E1 b=false:=by simpa using hc
  unfold jO;rw[if_neg hc];rw[Cp]at c;refine pF Tryz.func245 ?_;conv=>whnf
  (repeat' ((first|refine y7 ?_|refine y8 ?_|((try refine .inl ?_;conv=>whnf);(try refine⟨false,?_⟩;conv=>whnf);refine⟨_,by assumption,?_⟩)|refine lD ?_|refine lN ?_|refine kL ?_|fail);conv=>whnf));try rfl
theorem a1b(b:o7)(o:G8 b)(hI:∀ i,IG (b.recipes.getD i r9).gauge)(j8 seq:Int)(h:sA b j8 seq=0):va6 192 [au b,i64 j8,i64 seq] (.tup [au (W0 b seq true),i64 0]):=by
 have c:va6 245 [au b,i64 j8,i64 seq,.tt] (.tup [au (W0 b seq true),i64 0]):=(a00 b o hI j8 seq true [1,2,3] a2U h).tts;refine pF Tryz.func192 ?_;conv=>whnf
 refine vb5 ?_;(repeat intro hh);all_goals rfl
theorem a0Q(b:o7)(o:G8 b)(hI:∀ i,IG (b.recipes.getD i r9).gauge)(j8 seq:Int)(h:¬sA b j8 seq=0):va6 192 [au b,i64 j8,i64 seq] (.tup [mB 0,i64 (sA b j8 seq)]):=by
 have c:va6 245 [au b,i64 j8,i64 seq,.tt] (.tup [mB 0,i64 (jO b j8 seq true [1,2,3])]):=(a0E b o hI j8 seq true [1,2,3] a2U h).tts;refine pF Tryz.func192 ?_;conv=>whnf
 refine vb5 ?_;(repeat intro hh);all_goals rfl
theorem a1s(b:o7)(o:G8 b)(hI:∀ i,IG (b.recipes.getD i r9).gauge)(j8 seq:Int)(h:sB b j8 seq=0):va6 193 [au b,i64 j8,i64 seq] (.tup [au (W0 b seq false),i64 0]):=by
 have c:va6 245 [au b,i64 j8,i64 seq,.ff] (.tup [au (W0 b seq false),i64 0]):=(a00 b o hI j8 seq false [3] (fun _=>a2V b) h).tts;refine pF Tryz.func193 ?_;conv=>whnf
 refine vb5 ?_;(repeat intro hh);all_goals rfl
theorem a1c(b:o7)(o:G8 b)(hI:∀ i,IG (b.recipes.getD i r9).gauge)(j8 seq:Int)(h:¬sB b j8 seq=0):va6 193 [au b,i64 j8,i64 seq] (.tup [mB 0,i64 (sB b j8 seq)]):=by
 have c:va6 245 [au b,i64 j8,i64 seq,.ff] (.tup [mB 0,i64 (jO b j8 seq false [3])]):=(a0E b o hI j8 seq false [3] (fun _=>a2V b) h).tts;refine pF Tryz.func193 ?_;conv=>whnf
 refine vb5 ?_;(repeat intro hh);all_goals rfl
theorem a1S(l:List Int)(hl:l.length<2^40)(n:Int):va6 243 [C8 l,i64 n] (.bool (l.contains n)):=by
 have yes:∀ k,k<l.length->l.getD k 0=n->l.contains n=true:=fun k hk e=>by
  rw[List.contains_iff_mem,<- e];simp only[List.getD,zA6 hk,Option.getD_some];exact List.getElem_mem hk
 have no:(∀ m,m<l.length->¬l.getD m 0=n)->l.contains n=false:=fun h=>by
  rw[Bool.eq_false_iff];intro q;rw[List.contains_iff_mem]at q;obtain⟨m,hm,e⟩:=List.getElem_of_mem q;apply h m hm;simp only[List.getD,zA6 hm,Option.getD_some];exact e
 refine pF Tryz.func243 ?_;conv=>whnf
 refine Or.inr ⟨Nat,[5],[],[],fun k=>[i64 k],fun _=>[],fun _=>[],fun k=>l.length-k,fun k=>k<=l.length/\∀ m,m<k->¬l.getD m 0=n,?_⟩;conv=>whnf
 refine⟨⟨0,?_⟩,?_⟩
 ·(conv=>whnf);exact kK ⟨⟨zB4 _,fun i hi=>absurd hi (zB3 i)⟩,rfl,rfl,rfl⟩
 intro k hk;conv=>whnf
 refine⟨fun h=>?_,fun h=>?_⟩
 ·have h:=zA1 h;have L7:k<l.length:=by omega
  conv=>whnf
  refine⟨⟨va5,va5⟩,?_⟩;conv=>whnf
  rw[show Int.toNat (k:Int)=k from rfl];refine⟨fun q1=>?_,fun q1=>?_⟩
  ·(conv=>whnf);rw[yes k L7 (zA1 q1)]
  ·refine⟨k+1,?_⟩;conv=>whnf
   refine kK ⟨⟨?_,?_,?_⟩,?_,rfl,rfl⟩
   ·show l.length-(k+1)<l.length-k;omega
   ·omega
   ·intro m h2;by_cases e:m=k
    ·subst e;exact zA0 q1
    ·exact hk.2 m va5
   ·rw[C7 _ va5 va5];rfl
 ·have h:=zA0 h;conv=>whnf
  rw[no fun m h2=>hk.2 m va5]
theorem a2N(l:List Int)(hl:l.length<2^20)(n:Int):va6 244 [C8 l,i64 n] (C8 (gJ l n)):=by
 refine pF Tryz.func244 ?_;conv=>whnf
 refine Or.inr ⟨Nat,[6],[],[(5,⟨Int,3,1,0,eI⟩)],fun k=>[i64 k],fun _=>[],fun k=>[.vec 3 1 0 eI (l.take k)],fun k=>l.length-k,fun k=>k<=l.length/\∀ m,m<k->l.getD m 0<n,?_⟩;conv=>whnf
 refine⟨⟨0,?_⟩,?_⟩
 ·(conv=>whnf);exact kK ⟨⟨zB4 _,fun i hi=>absurd hi (zB3 i)⟩,rfl,rfl,rfl⟩
 intro k hk;have FV:(l.take k).length=k:=by rw[zB1];omega
 conv=>whnf
 refine⟨fun h=>?_,fun h=>?_⟩
 ·have h:=zA1 h;have L7:k<l.length:=by omega
  conv=>whnf
  refine⟨⟨va5,va5⟩,?_⟩;conv=>whnf
  rw[show Int.toNat (k:Int)=k from rfl];refine⟨fun q=>?_,fun q=>?_⟩
  ·have q:=zA1 q;conv=>whnf
   refine vb8 ?_;(repeat intro hh);refine⟨⟨Int,1,0,eI,l.take k⟩,[l.getD k 0],rfl,rfl,⟨rfl,rfl⟩,?_,?_,fun y _=>⟨rfl,rfl,rfl⟩,?_⟩
   ·show((l.take k).length+1)*8<=_;omega
   ·show(l.take k).length+1<=_;omega
   conv=>whnf
   refine⟨k+1,?_⟩;conv=>whnf
   refine kK ⟨⟨?_,?_,?_⟩,?_,rfl,?_⟩
   ·show l.length-(k+1)<l.length-k;omega
   ·show k+1<=l.length;omega
   ·intro m h2;by_cases e:m=k
    ·subst e;exact q
    ·exact hk.2 m va5
   ·rw[C7 _ va5 va5];rfl
   ·show [Row.vec 3 1 0 eI (l.take k++[l.getD k 0])]=[Row.vec 3 1 0 eI (l.take (k+1))]
    rw[List.take_add_one,zA6 L7];simp[List.getD,L7]
  ·have q:=zA0 q;have ek:iW l n=k:=NW hk.1 hk.2 (fun _=>by omega);unfold gJ;rw[ek];conv=>whnf
   refine vb8 ?_;(repeat intro hh);refine⟨⟨Int,1,0,eI,l.take k⟩,[n],rfl,rfl,⟨rfl,rfl⟩,?_,?_,fun y _=>⟨rfl,rfl,rfl⟩,?_⟩
   ·show((l.take k).length+1)*8<=_;omega
   ·show(l.take k).length+1<=_;omega
   conv=>whnf
   refine⟨⟨Int,1,0,eI,l.take k++[n]⟩,((l.drop (Int.toNat ((l.take k).length:Int))).take (Int.toNat ((l.length:Int)-((l.take k).length:Int)))),rfl,rfl,rfl,?_,?_,fun y _=>⟨rfl,rfl,rfl⟩,?_⟩
   ·show((l.take k++[n]).length+((l.drop (Int.toNat ((l.take k).length:Int))).take (Int.toNat ((l.length:Int)-((l.take k).length:Int)))).length)*8<=_;simp only[List.length_append,zB1,List.length_drop,zB2,List.length_nil];omega
   ·show(l.take k++[n]).length+((l.drop (Int.toNat ((l.take k).length:Int))).take (Int.toNat ((l.length:Int)-((l.take k).length:Int)))).length<=_;simp only[List.length_append,zB1,List.length_drop,zB2,List.length_nil];omega
   conv=>whnf
   refine congrArg C8 ?_;show(l.take k++[n])++((l.drop (Int.toNat ((l.take k).length:Int))).take (Int.toNat ((l.length:Int)-((l.take k).length:Int))))=_
   have eL:(l.drop (Int.toNat ((l.take k).length:Int))).take (Int.toNat ((l.length:Int)-((l.take k).length:Int)))=l.drop k:=by
    rw[FV,show Int.toNat (k:Int)=k from rfl];exact List.take_of_length_le (by rw[List.length_drop];omega)
   rw[eL,List.append_assoc];rfl
 ·have h:=zA0 h;have ek:iW l n=k:=NW hk.1 hk.2 (fun q=>by omega);unfold gJ;rw[ek];conv=>whnf
  refine vb8 ?_;(repeat intro hh);refine⟨⟨Int,1,0,eI,l.take k⟩,[n],rfl,rfl,⟨rfl,rfl⟩,?_,?_,fun y _=>⟨rfl,rfl,rfl⟩,?_⟩
  ·show((l.take k).length+1)*8<=_;omega
  ·show(l.take k).length+1<=_;omega
  conv=>whnf
  refine⟨⟨Int,1,0,eI,l.take k++[n]⟩,((l.drop (Int.toNat ((l.take k).length:Int))).take (Int.toNat ((l.length:Int)-((l.take k).length:Int)))),rfl,rfl,rfl,?_,?_,fun y _=>⟨rfl,rfl,rfl⟩,?_⟩
  ·show((l.take k++[n]).length+((l.drop (Int.toNat ((l.take k).length:Int))).take (Int.toNat ((l.length:Int)-((l.take k).length:Int)))).length)*8<=_;simp only[List.length_append,zB1,List.length_drop,zB2,List.length_nil];omega
  ·show(l.take k++[n]).length+((l.drop (Int.toNat ((l.take k).length:Int))).take (Int.toNat ((l.length:Int)-((l.take k).length:Int)))).length<=_;simp only[List.length_append,zB1,List.length_drop,zB2,List.length_nil];omega
  conv=>whnf
  refine congrArg C8 ?_;show(l.take k++[n])++((l.drop (Int.toNat ((l.take k).length:Int))).take (Int.toNat ((l.length:Int)-((l.take k).length:Int))))=_
  have eL:(l.drop (Int.toNat ((l.take k).length:Int))).take (Int.toNat ((l.length:Int)-((l.take k).length:Int)))=l.drop k:=by
   rw[FV,show Int.toNat (k:Int)=k from rfl];exact List.take_of_length_le (by rw[List.length_drop];omega)
  rw[eL,List.append_assoc];rfl
theorem bw(b:o7)(o:G8 b):va6 237 [au b] (i64 (Hb b.recipes)):=by
 have hl:=o.r;refine pF Tryz.func237 ?_;conv=>whnf
 refine Or.inr ⟨Nat,[3],[],[],fun k=>[i64 k],fun _=>[],fun _=>[],fun k=>b.recipes.length-k,fun k=>k<=b.recipes.length/\∀ m,m<k->C9 (b.recipes.getD m r9)=false,?_⟩;conv=>whnf
 refine⟨⟨0,?_⟩,?_⟩
 ·(conv=>whnf);exact kK ⟨⟨zB4 _,fun i hi=>absurd hi (zB3 i)⟩,rfl,rfl,rfl⟩
 intro k hk;conv=>whnf
 refine⟨fun h=>?_,fun h=>?_⟩
 ·have h:=zA1 h;have L7:k<b.recipes.length:=by omega
  conv=>whnf
  refine⟨⟨va5,va5⟩,?_⟩;conv=>whnf
  rw[show Int.toNat (k:Int)=k from rfl];refine⟨fun q1=>?_,fun q1=>?_⟩
  ·(conv=>whnf);exact congrArg i64 (KL L7 q1 hk.2).symm
  ·refine⟨k+1,?_⟩;conv=>whnf
   refine kK ⟨⟨?_,?_,?_⟩,?_,rfl,rfl⟩
   ·show b.recipes.length-(k+1)<b.recipes.length-k;omega
   ·omega
   ·intro m h2;by_cases e:m=k
    ·subst e;exact q1
    ·exact hk.2 m va5
   ·rw[C7 _ va5 va5];rfl
 ·have h:=zA0 h;conv=>whnf
  exact congrArg i64 (Hc fun m h2=>hk.2 m va5).symm
theorem a0F(l:List B8)(hl:l.length<2^40):va6 239 [mw l] (i64 (Mz cF l)):=by
 refine pF Tryz.func239 ?_;conv=>whnf
 refine Or.inr ⟨Nat,[3],[],[],fun k=>[i64 k],fun _=>[],fun _=>[],fun k=>l.length-k,fun k=>k<=l.length/\∀ m,m<k->cF (l.getD m w9)=false,?_⟩;conv=>whnf
 refine⟨⟨0,?_⟩,?_⟩
 ·(conv=>whnf);exact kK ⟨⟨zB4 _,fun i hi=>absurd hi (zB3 i)⟩,rfl,rfl,rfl⟩
 intro k hk;conv=>whnf
 refine⟨fun h=>?_,fun h=>?_⟩
 ·have h:=zA1 h;have L7:k<l.length:=by omega
  conv=>whnf
  refine⟨⟨va5,va5⟩,?_⟩;conv=>whnf
  rw[show Int.toNat (k:Int)=k from rfl];refine⟨fun q1=>?_,fun q1=>?_⟩
  ·(conv=>whnf);exact congrArg i64 (Fb (p:=cF) L7 q1 hk.2).symm
  ·refine⟨k+1,?_⟩;conv=>whnf
   refine kK ⟨⟨?_,?_,?_⟩,?_,rfl,rfl⟩
   ·show l.length-(k+1)<l.length-k;omega
   ·omega
   ·intro m h2;by_cases e:m=k
    ·subst e;exact q1
    ·exact hk.2 m va5
   ·rw[C7 _ va5 va5];rfl
 ·have h:=zA0 h;conv=>whnf
  exact congrArg i64 (Aj (p:=cF) fun m h2=>hk.2 m va5).symm
theorem a2W{g:x8}(hg:S6 g=true)(p:List Int):(F8 g p).2.2=if L2 p then 0 else 50:=by
 cases hp:L2 p with
 | true=>exact(a3K hg hp).1
 | false =>
  unfold F8;rw[if_pos hg];obtain⟨⟨t1,t2⟩,⟨n1,n2⟩,_⟩:=bz hg;rcases EU (p:=p) t1 t2 n1 n2 with ⟨_,q⟩|⟨q,_⟩
  ·rw[q];unfold xm;rw[if_neg va8,if_neg va8];rfl
  ·rw[hp]at q;cases q
theorem a2X{b:o7}(h:E1 b=true)(ha:b.recipes.any C9=true):S6 (gK b)=true:=by
 have g:=(fI.1 h).rc (b.recipes.getD (A4 b.recipes) r9) (by rw[x9 (J4 ha)];exact List.getElem_mem _);exact g.2.2.2.1
theorem a3M{b:o7}(o:G8 b)(h:E1 b=true){o9:List Int}(hp:o9.length<2^20)(part:Int):G8 (pM b part o9):=by
 have s:=G6 h;have hl:(pL b).length<=32:=by
  unfold pL;split
  ·unfold mE;rw[List.length_append,zB1,List.length_drop];omega
  ·omega
 refine⟨o.u,o.r,?_,o.a,fun i=>?_⟩
 ·show(pL b++[sD b part o9]).length<_
  rw[List.length_append];show(pL b).length+1<_
  omega
 ·show((pL b++[sD b part o9]).getD i w9).o9.length<_
  have key:∀ x,x ∈ pL b++[sD b part o9]->x.o9.length<2^20:=fun x hx=>by
   rcases List.mem_append.1 hx with q|q
   ·have:x ∈ b.log:=by
     unfold pL at q;split at q
     ·unfold mE at q;rcases List.mem_append.1 q with q|q
      ·exact List.mem_of_mem_take q
      ·exact List.mem_of_mem_drop q
     ·exact q
    obtain⟨k,hk,e⟩:=List.getElem_of_mem this;have:=o.p k;rw[x9 hk,e]at this;exact this
   ·rw[List.mem_singleton.1 q];exact hp
  by_cases hi:i<(pL b++[sD b part o9]).length
  ·rw[x9 hi];exact key _ (List.getElem_mem _)
  ·rw[List.getD,zA7 va5];show(0:Nat)<_;decide
theorem a1t(b:o7)(o:G8 b)(hI:∀ i,IG (b.recipes.getD i r9).gauge)(part:Int)(o9:List Int)(hp:o9.length<2^20)(h:nS b part o9=0) :
  va6 184 [au b,i64 part,C8 o9] (.tup [au (pM b part o9),.agg [i64 b.next,i64 (A4 b.recipes),i64 part,C8 o9,u8 (F8 (gK b) o9).2.1,.ff],i64 0]):=by
 obtain⟨hc,XC,ha,PM,qy,yw⟩:=fH h;clear h;have gg:=a2X hc ha;have pe:=a2W gg o9;rw[PM]at pe;have s:=G6 hc;have nx:=Ap hc;have c:=u4 b o hI;rw[hc]at c;have c1:va6 107 [i64 part,i64 0,i64 1099511627776] (.bool (decide (0<=part) && decide (part<=1099511627776))):=r5 _ _ _;have c2:=bw b o;have hN:Hb b.recipes=A4 b.recipes:=by unfold Hb;rw[if_pos ha]
 rw[hN]at c2;have c5:=vp o9 (S7 hp);rw[<- pe]at c5;have hA:=J4 ha;have c4:=a0F b.log (S7 o.l);unfold Mz at c4;have w1:IntKind.i64.wrap (b.next+1)=b.next+1:=C7 _ va5 va5;have j:=a1P (b.recipes.getD (A4 b.recipes) r9).gauge o9 (hI _) (S7 hp);have ox:=a3M o hc hp part;unfold pM sD pL gK at *
 clear pe;clear gg;generalize A4 b.recipes=n at *
 by_cases hf:(b.log.length:Int)=b.keep
 ·have El:=qy hf;rw[if_pos El]at c4;rw[if_pos hf]at ox ⊢;have hi:=iX El;generalize b.log.findIdx cF=i at *
  have hdl:=vn hi;have w2:IntKind.i64.wrap ((i:Int)+1)=(i:Int)+1:=C7 _ va5 va5;have tw:=a0u b o;have dt:List.take ((b.log.length:Int)-((i:Int)+1)).toNat (List.drop ((i:Int)+1).toNat b.log)=b.log.drop (i+1):=by
   rw[show((i:Int)+1).toNat=i+1 by omega];exact List.take_of_length_le (by rw[List.length_drop];omega)
  refine pF Tryz.func184 ?_;conv=>whnf
  refine vb5 ?_;(repeat intro hh);refine vb7 ?_;(repeat intro hh);refine⟨⟨B8,6,w9,V9,[]⟩,b.log.take i,rfl,⟨rfl,rfl⟩,rfl,?_,?_,fun y _=>⟨rfl,rfl,rfl⟩,?_⟩
  ·show(0+(b.log.take i).length)*56<=_;rw[zB1];omega
  ·show 0+(b.log.take i).length<=_;rw[zB1];omega
  conv=>whnf
  refine vb8 ?_;(repeat intro hh);rw[w2];refine⟨⟨B8,6,w9,V9,b.log.take i⟩,b.log.drop (i+1),rfl,rfl,?_,?_,?_,fun y _=>⟨rfl,rfl,rfl⟩,?_⟩
  ·conv=>whnf
   exact congrArg (MF.mk B8 6 w9 V9) dt
  ·show((b.log.take i).length+(b.log.drop (i+1)).length)*56<=_;rw[zB1,List.length_drop];omega
  ·show(b.log.take i).length+(b.log.drop (i+1)).length<=_;rw[zB1,List.length_drop];omega
  conv=>whnf
  refine vb8 ?_;(repeat intro hh);refine⟨⟨Int,1,0,eI,[]⟩,o9,rfl,⟨rfl,rfl⟩,rfl,?_,?_,fun y _=>⟨rfl,rfl,rfl⟩,?_⟩
  ·show(0+o9.length)*8<=_;omega
  ·show 0+o9.length<=_;omega
  conv=>whnf
  refine vb7 ?_;(repeat intro hh);refine⟨⟨B8,6,w9,V9,mE b.log i⟩,[⟨b.next,n,part,o9,(F8 (b.recipes.getD n r9).gauge o9).2.1,false⟩],rfl,rfl,⟨rfl,rfl⟩,?_,?_,fun y _=>⟨rfl,rfl,rfl⟩,?_⟩
  ·show((mE b.log i).length+1)*56<=_;omega
  ·show(mE b.log i).length+1<=_;omega
  conv=>whnf
  have tw2:=a0u ⟨b.keep,b.p9,b.recipes,b.next+1,mE b.log i++[⟨b.next,n,part,o9,(F8 (b.recipes.getD n r9).gauge o9).2.1,false⟩]⟩ ox;rw[<- w1]at tw2;refine vb7 ?_;(repeat intro hh);all_goals (first|rfl|(rw[w1];rfl))
 ·rw[if_neg hf]at ox ⊢;refine pF Tryz.func184 ?_;conv=>whnf
  refine vb5 ?_;(repeat intro hh);refine vb7 ?_;(repeat intro hh);(refine va2 [] [59,58,57] ?_;(conv=>whnf);refine va3 [] (ba b o) ?_);conv=>whnf
  refine vb8 ?_;(repeat intro hh);refine⟨⟨Int,1,0,eI,[]⟩,o9,rfl,⟨rfl,rfl⟩,rfl,?_,?_,fun y _=>⟨rfl,rfl,rfl⟩,?_⟩
  ·show(0+o9.length)*8<=_;omega
  ·show 0+o9.length<=_;omega
  conv=>whnf
  refine vb8 ?_;(repeat intro hh);refine⟨hA,?_⟩;conv=>whnf
  refine vb7 ?_;(repeat intro hh);refine⟨⟨B8,6,w9,V9,b.log⟩,[⟨b.next,n,part,o9,(F8 (b.recipes.getD n r9).gauge o9).2.1,false⟩],rfl,rfl,⟨rfl,rfl⟩,?_,?_,fun y _=>⟨rfl,rfl,rfl⟩,?_⟩
  ·show(b.log.length+1)*56<=_;omega
  ·show b.log.length+1<=_;omega
  conv=>whnf
  have tw2:=a0u ⟨b.keep,b.p9,b.recipes,b.next+1,b.log++[⟨b.next,n,part,o9,(F8 (b.recipes.getD n r9).gauge o9).2.1,false⟩]⟩ ox;rw[<- w1]at tw2;refine vb7 ?_;(repeat intro hh);all_goals (first|rfl|(rw[w1];rfl))
theorem a1d(b:o7)(o:G8 b)(hI:∀ i,IG (b.recipes.getD i r9).gauge)(part:Int)(o9:List Int)(hp:o9.length<2^20)(h:¬nS b part o9=0) :
  va6 184 [au b,i64 part,C8 o9] (.tup [mB 0,XB,i64 (nS b part o9)]):=by
 have c:=u4 b o hI;by_cases hc:E1 b=true
 ·unfold nS at h ⊢;rw[if_pos hc]at h ⊢;rw[hc]at c;have s:=G6 hc;have nx:=Ap hc;have c1:va6 107 [i64 part,i64 0,i64 1099511627776] (.bool (decide (0<=part) && decide (part<=1099511627776))):=r5 _ _ _;by_cases XC:0<=part/\part<=1099511627776
  ·rw[if_neg (fun q=>q XC)]at h ⊢;have c2:=bw b o;by_cases ha:b.recipes.any C9=true
   ·rw[if_neg (fun q=>q ha)]at h ⊢;have hN:Hb b.recipes=A4 b.recipes:=by unfold Hb;rw[if_pos ha]
    rw[hN]at c2;have pe:=a2W (a2X hc ha) o9;have c5:=vp o9 (S7 hp);rw[<- pe]at c5;unfold gK at h c5 ⊢;clear pe;generalize A4 b.recipes=n at *
    by_cases PM:(F8 (b.recipes.getD n r9).gauge o9).2.2=0
    ·rw[if_neg (fun q=>q PM)]at h ⊢;have h9:((b.log.length:Int)=b.keep/\¬b.log.any cF=true)∨b.next=1099511627776:=Decidable.byContradiction fun q=>h (if_neg q)
     rw[if_pos h9];rw[PM]at c5;clear h;have c4:=a0F b.log (S7 o.l);unfold Mz at c4;by_cases El:b.log.any cF=true
     ·have yw:b.next=1099511627776:=by
       rcases h9 with q|q
       ·exact absurd El q.2
       ·exact q
      clear h9;rw[if_pos El]at c4;generalize b.log.findIdx cF=i at *
      refine pF Tryz.func184 ?_;conv=>whnf
      refine vb5 ?_;(repeat intro hh);try exact va1
      all_goals rfl
     ·rw[if_neg El]at c4;refine pF Tryz.func184 ?_;conv=>whnf
      refine vb5 ?_;(repeat intro hh);try exact va1
      all_goals rfl
    ·rw[if_pos PM];clear h;refine pF Tryz.func184 ?_;conv=>whnf
     refine vb5 ?_;(repeat intro hh);try exact va1
     all_goals rfl
   ·rw[if_pos ha];have hN:Hb b.recipes = -1:=by unfold Hb;rw[if_neg ha]
    rw[hN]at c2;clear h;refine pF Tryz.func184 ?_;conv=>whnf
    refine vb5 ?_;(repeat intro hh);try exact va1
    all_goals rfl
  ·rw[if_pos XC];clear h;refine pF Tryz.func184 ?_;conv=>whnf
   refine vb5 ?_;(repeat intro hh);try exact va1
   all_goals rfl
 ·have Cp:E1 b=false:=by simpa using hc
  rw[Cp]at c;unfold nS;rw[if_neg hc];refine pF Tryz.func184 ?_;conv=>whnf
  (repeat' ((first|refine y7 ?_|refine y8 ?_|((try refine .inl ?_;conv=>whnf);(try refine⟨false,?_⟩;conv=>whnf);refine⟨_,by assumption,?_⟩)|refine lD ?_|refine lN ?_|refine kL ?_|fail);conv=>whnf));all_goals rfl
theorem bg(b:o7)(o:G8 b)(n:Int):va6 107 [i64 n,i64 0,i64 (IntKind.i64.wrap ((b.recipes.length:Int)-1))] (.bool (decide (0<=n) && decide (n<=(b.recipes.length:Int)-1))):=by
 have hu:=o.r;rw[C7 _ va5 va5];exact r5 _ _ _
theorem a2O{b:o7}(hc:E1 b=true){x:A9}(ha:pg b.p9 x=true){j8:Int}(h1:0<=j8)(h2:j8<b.p9.length):∀ i,i<(gJ x.B0 j8).length->0<=(gJ x.B0 j8).getD i 0/\(gJ x.B0 j8).getD i 0<b.p9.length:=by
 have h:=a1O (b:=b) ha;have hm:∀ y,y ∈ gJ x.B0 j8->0<=y/\y<b.p9.length:=by
  intro y hy;unfold gJ at hy;rw[List.mem_append,List.mem_cons]at hy;have all:∀ y,y ∈ x.B0->0<=y/\y<b.p9.length:=fun y hy=>by
   obtain⟨m,hm,e⟩:=List.getElem_of_mem hy;have:=h m hm;simp only[List.getD,zA6 hm,Option.getD_some]at this;rw[<- e];exact this
  rcases hy with hy|hy|hy
  ·exact all y (List.mem_of_mem_take hy)
  ·subst hy;exact⟨h1,h2⟩
  ·exact all y (List.mem_of_mem_drop hy)
 intro i hi;apply hm;simp only[List.getD,zA6 hi,Option.getD_some];exact List.getElem_mem hi
theorem a1e(b:o7)(o:G8 b)(hI:∀ i,IG (b.recipes.getD i r9).gauge)(j8 a7:Int)(h:iY b j8 a7=0):va6 189 [au b,i64 j8,i64 a7] (.tup [au (nQ b j8 a7),i64 0]):=by
 obtain⟨hc,hn,hb,h2⟩:=jx h;clear h;obtain⟨BS,dA,Xw⟩:=xH hb;have s:=G6 hc;have A2:a7.toNat<b.recipes.length:=by have:=hn.2;omega
 have hi:0<=a7/\a7<(b.recipes.length:Int):=by have:=hn.2;omega
 have hu:=hn.1;have hx:=o.a a7.toNat;have m23:=(a0D hu.1 va5 (a0P hc)).1 Xw;obtain⟨ra,rs⟩:=xI hc A2;have st:=(vh.1 rs).2.2;have c:=u4 b o hI;rw[hc]at c;have c2:=a1S (b.recipes.getD a7.toNat r9).B0 va5 j8;rw[BS]at c2;have c3:=a2N (b.recipes.getD a7.toNat r9).B0 hx j8;have c4:=a0C b (gJ (b.recipes.getD a7.toNat r9).B0 j8) (by rw[sC];omega) (a2O hc ra hu.1 va5);unfold nQ tW;by_cases he:K8 b.p9 (gJ (b.recipes.getD a7.toNat r9).B0 j8)=true
 ·rw[if_pos he];rw[he]at c4;refine pF Tryz.func189 ?_;conv=>whnf
  refine vb5 ?_;(repeat intro hh);(repeat' ((first|refine va0 (fun hh=>?_) fun hh=>?_|refine kR ?_|((try refine .inl ?_;conv=>whnf);(try refine⟨false,?_⟩;conv=>whnf);refine⟨_,by first|assumption|exact k8 b o _|exact bg b o _,?_⟩)|fail)<;>first|exact hh.elim|conv=>whnf));all_goals ((refine va2 [] [64,62,63] ?_;(conv=>whnf);refine va3 [] (ba b o) ?_);(conv=>whnf);(repeat' ((first|refine y7 ?_|refine y8 ?_|((try refine .inl ?_;conv=>whnf);(try refine⟨false,?_⟩;conv=>whnf);refine⟨_,by assumption,?_⟩)|refine lD ?_|refine lN ?_|refine kL ?_|fail);conv=>whnf));(repeat' ((first|refine aU fun hh=>?_|refine aV fun hh=>?_|refine aS (fun hh=>?_) fun hh=>?_|refine kR ?_|fail)<;>conv=>whnf));refine⟨⟨(b.recipes.getD a7.toNat r9).author,(b.recipes.getD a7.toNat r9).gauge,gJ (b.recipes.getD a7.toNat r9).B0 j8,2⟩,rfl,A2,?_⟩;(conv=>whnf);rfl)
 ·rw[if_neg he];have Vz:K8 b.p9 (gJ (b.recipes.getD a7.toNat r9).B0 j8)=false:=by simpa using he
  rw[Vz]at c4;refine pF Tryz.func189 ?_;conv=>whnf
  refine vb5 ?_;(repeat intro hh);(repeat' ((first|refine va0 (fun hh=>?_) fun hh=>?_|refine kR ?_|((try refine .inl ?_;conv=>whnf);(try refine⟨false,?_⟩;conv=>whnf);refine⟨_,by first|assumption|exact k8 b o _|exact bg b o _,?_⟩)|fail)<;>first|exact hh.elim|conv=>whnf));all_goals ((refine va2 [] [64,62,63] ?_;(conv=>whnf);refine va3 [] (ba b o) ?_);(conv=>whnf);(repeat' ((first|refine y7 ?_|refine y8 ?_|((try refine .inl ?_;conv=>whnf);(try refine⟨false,?_⟩;conv=>whnf);refine⟨_,by assumption,?_⟩)|refine lD ?_|refine lN ?_|refine kL ?_|fail);conv=>whnf));(repeat' ((first|refine aU fun hh=>?_|refine aV fun hh=>?_|refine aS (fun hh=>?_) fun hh=>?_|refine kR ?_|fail)<;>conv=>whnf));refine⟨⟨(b.recipes.getD a7.toNat r9).author,(b.recipes.getD a7.toNat r9).gauge,gJ (b.recipes.getD a7.toNat r9).B0 j8,(b.recipes.getD a7.toNat r9).state⟩,rfl,A2,?_⟩;(conv=>whnf);rfl)
theorem a0R(b:o7)(o:G8 b)(hI:∀ i,IG (b.recipes.getD i r9).gauge)(j8 a7:Int)(h:¬iY b j8 a7=0):va6 189 [au b,i64 j8,i64 a7] (.tup [mB 0,i64 (iY b j8 a7)]):=by
 have c:=u4 b o hI;by_cases h1:E1 b=true/\dp b j8 a7
 ·unfold iY at h ⊢;rw[if_pos h1]at h ⊢;obtain⟨hc,hn⟩:=h1;rw[hc]at c;have s:=G6 hc;have A2:a7.toNat<b.recipes.length:=by have:=hn.2;omega
  have hi:0<=a7/\a7<(b.recipes.length:Int):=by have:=hn.2;omega
  have hu:=hn.1;have hx:=o.a a7.toNat;have m23:=a0D hu.1 (show j8<b.p9.length by omega) (a0P hc);obtain⟨ra,rs⟩:=xI hc A2;have st:=(vh.1 rs).2.2;have c2:=a1S (b.recipes.getD a7.toNat r9).B0 va5 j8;by_cases hb:Am b j8 (b.recipes.getD a7.toNat r9)=true
  ·rw[if_pos hb];unfold Am at hb;simp only[zA9,zA3,Bool.not_eq_true']at hb;by_cases q1:I7 [2,3] b.p9 j8=true
   ·have q1:=m23.1 q1;by_cases q2:j8=(b.recipes.getD a7.toNat r9).author
    ·refine pF Tryz.func189 ?_;conv=>whnf
     refine vb5 ?_;(repeat intro hh);(repeat' ((first|refine va0 (fun hh=>?_) fun hh=>?_|refine kR ?_|((try refine .inl ?_;conv=>whnf);(try refine⟨false,?_⟩;conv=>whnf);refine⟨_,by first|assumption|exact k8 b o _|exact bg b o _,?_⟩)|fail)<;>first|exact hh.elim|conv=>whnf));all_goals rfl
    ·have q3:(b.recipes.getD a7.toNat r9).B0.contains j8=true:=by
      rcases hb with e|e|e
      ·exact e
      ·exact absurd e q2
      ·have:=m23.2 q1;rw[e]at this;cases this
     rw[q3]at c2;refine pF Tryz.func189 ?_;conv=>whnf
     refine vb5 ?_;(repeat intro hh);(repeat' ((first|refine va0 (fun hh=>?_) fun hh=>?_|refine kR ?_|((try refine .inl ?_;conv=>whnf);(try refine⟨false,?_⟩;conv=>whnf);refine⟨_,by first|assumption|exact k8 b o _|exact bg b o _,?_⟩)|fail)<;>first|exact hh.elim|conv=>whnf));all_goals rfl
   ·have q1:b.p9.getD j8.toNat 0<2:=by
     by_cases e:b.p9.getD j8.toNat 0<2
     ·exact e
     ·exact absurd (m23.2 e) q1
    refine pF Tryz.func189 ?_;conv=>whnf
    refine vb5 ?_;(repeat intro hh);(repeat' ((first|refine va0 (fun hh=>?_) fun hh=>?_|refine kR ?_|((try refine .inl ?_;conv=>whnf);(try refine⟨false,?_⟩;conv=>whnf);refine⟨_,by first|assumption|exact k8 b o _|exact bg b o _,?_⟩)|fail)<;>first|exact hh.elim|conv=>whnf));all_goals rfl
  ·have dA:Am b j8 (b.recipes.getD a7.toNat r9)=false:=by simpa using hb
   rw[if_neg hb]at h ⊢;obtain⟨BS,dA,Xw⟩:=xH dA;have q1:=m23.1 Xw;rw[BS]at c2;have h2:(b.recipes.getD a7.toNat r9).state > 2:=Decidable.byContradiction fun q=>h (if_neg q)
   rw[if_pos h2];refine pF Tryz.func189 ?_;conv=>whnf
   refine vb5 ?_;(repeat intro hh);(repeat' ((first|refine va0 (fun hh=>?_) fun hh=>?_|refine kR ?_|((try refine .inl ?_;conv=>whnf);(try refine⟨false,?_⟩;conv=>whnf);refine⟨_,by first|assumption|exact k8 b o _|exact bg b o _,?_⟩)|fail)<;>first|exact hh.elim|conv=>whnf));all_goals rfl
 ·unfold iY;rw[if_neg h1];by_cases hc:E1 b=true
  ·have hn:¬dp b j8 a7:=fun q=>h1 ⟨hc,q⟩
   unfold dp at hn;rw[hc]at c;rw[if_pos hc];refine pF Tryz.func189 ?_;conv=>whnf
   refine vb5 ?_;(repeat intro hh);(repeat' ((first|refine va0 (fun hh=>?_) fun hh=>?_|refine kR ?_|((try refine .inl ?_;conv=>whnf);(try refine⟨false,?_⟩;conv=>whnf);refine⟨_,by first|exact k8 b o _|exact bg b o _,?_⟩)|fail)<;>first|exact hh.elim|conv=>whnf));all_goals (first|rfl|(exfalso;omega))
  ·have Cp:E1 b=false:=by simpa using hc
   rw[Cp]at c;rw[if_neg hc];refine pF Tryz.func189 ?_;conv=>whnf
   (repeat' ((first|refine y7 ?_|refine y8 ?_|((try refine .inl ?_;conv=>whnf);(try refine⟨false,?_⟩;conv=>whnf);refine⟨_,by assumption,?_⟩)|refine lD ?_|refine lN ?_|refine kL ?_|fail);conv=>whnf));try rfl
theorem a3e{b:o7}{j8:Int}(h:iV b j8=0):E1 b=true/\(0<=j8/\j8<=(b.p9.length:Int)-1)/\I7 [3] b.p9 j8=true/\b.recipes.any C9=true:=by
 unfold iV at h;by_cases h1:E1 b=true
 ·rw[if_pos h1]at h;by_cases h2:0<=j8/\j8<=(b.p9.length:Int)-1
  ·rw[if_neg (fun q=>q h2)]at h;by_cases h3:I7 [3] b.p9 j8=false
   ·rw[if_pos h3]at h;cases h
   ·rw[if_neg h3]at h;by_cases h4:b.recipes.any C9=true
    ·exact⟨h1,h2,by simpa using h3,h4⟩
    ·rw[if_pos h4]at h;cases h
  ·rw[if_pos h2]at h;cases h
 ·rw[if_neg h1]at h;cases h
theorem a1u(b:o7)(o:G8 b)(hI:∀ i,IG (b.recipes.getD i r9).gauge)(j8:Int)(h:iV b j8=0):va6 191 [au b,i64 j8] (.tup [au (mC b (A4 b.recipes)),i64 0]):=by
 obtain⟨hc,hu,tR,ha⟩:=a3e h;clear h;have s:=G6 hc;have c:=u4 b o hI;rw[hc]at c;have m3:=a1h hu.1 (show j8<b.p9.length by omega);rw[tR]at m3;have h3:b.p9.getD j8.toNat 0=3:=zA1 m3.symm;have e:=bw b o;unfold Hb at e;rw[if_pos ha]at e;have A2:=J4 ha;generalize A4 b.recipes=i at *
 refine pF Tryz.func191 ?_;conv=>whnf
 refine vb5 ?_;(repeat intro hh);(repeat' ((first|refine va0 (fun hh=>?_) fun hh=>?_|refine kR ?_|((try refine .inl ?_;conv=>whnf);(try refine⟨false,?_⟩;conv=>whnf);refine⟨_,by first|assumption|exact k8 b o _,?_⟩)|fail)<;>first|exact hh.elim|conv=>whnf));(refine va2 [] [32,30,31] ?_;(conv=>whnf);refine va3 [] (ba b o) ?_);conv=>whnf
 refine vb8 ?_;(repeat intro hh);refine⟨ai (b.recipes.getD i r9) 4,rfl,A2,?_⟩;conv=>whnf
 rfl
theorem a1f(b:o7)(o:G8 b)(hI:∀ i,IG (b.recipes.getD i r9).gauge)(j8:Int)(h:¬iV b j8=0):va6 191 [au b,i64 j8] (.tup [mB 0,i64 (iV b j8)]):=by
 have c:=u4 b o hI;by_cases hc:E1 b=true
 ·have s:=G6 hc;have e:=bw b o;rw[hc]at c;unfold iV at h ⊢;rw[if_pos hc]at h ⊢;by_cases hu:0<=j8/\j8<=(b.p9.length:Int)-1
  ·rw[if_neg (fun q=>q hu)]at h ⊢;have m3:=a1h hu.1 (show j8<b.p9.length by omega);by_cases tR:I7 [3] b.p9 j8=true
   ·rw[if_neg (by rw[tR];decide)]at h ⊢;rw[tR]at m3;have h3:b.p9.getD j8.toNat 0=3:=zA1 m3.symm;have ha:¬b.recipes.any C9=true:=fun q=>h (if_neg (fun e=>e q))
    rw[if_pos ha];unfold Hb at e;rw[if_neg ha]at e;refine pF Tryz.func191 ?_;conv=>whnf
    refine vb5 ?_;(repeat intro hh);(repeat' ((first|refine va0 (fun hh=>?_) fun hh=>?_|refine kR ?_|((try refine .inl ?_;conv=>whnf);(try refine⟨false,?_⟩;conv=>whnf);refine⟨_,by first|assumption|exact k8 b o _,?_⟩)|fail)<;>first|exact hh.elim|conv=>whnf));all_goals rfl
   ·have wK:I7 [3] b.p9 j8=false:=by simpa using tR
    rw[if_pos wK];rw[wK]at m3;have h3:¬b.p9.getD j8.toNat 0=3:=zA0 m3.symm;refine pF Tryz.func191 ?_;conv=>whnf
    refine vb5 ?_;(repeat intro hh);(repeat' ((first|refine va0 (fun hh=>?_) fun hh=>?_|refine kR ?_|((try refine .inl ?_;conv=>whnf);(try refine⟨false,?_⟩;conv=>whnf);refine⟨_,by exact k8 b o _,?_⟩)|fail)<;>first|exact hh.elim|conv=>whnf));all_goals rfl
  ·rw[if_pos hu];refine pF Tryz.func191 ?_;conv=>whnf
   refine vb5 ?_;(repeat intro hh);(repeat' ((first|refine va0 (fun hh=>?_) fun hh=>?_|refine kR ?_|((try refine .inl ?_;conv=>whnf);(try refine⟨false,?_⟩;conv=>whnf);refine⟨_,by exact k8 b o _,?_⟩)|fail)<;>first|exact hh.elim|conv=>whnf));all_goals rfl
 ·have Cp:E1 b=false:=by simpa using hc
  unfold iV;rw[if_neg hc];rw[Cp]at c;refine pF Tryz.func191 ?_;conv=>whnf
  (repeat' ((first|refine y7 ?_|refine y8 ?_|((try refine .inl ?_;conv=>whnf);(try refine⟨false,?_⟩;conv=>whnf);refine⟨_,by assumption,?_⟩)|refine lD ?_|refine lN ?_|refine kL ?_|fail);conv=>whnf));try rfl
theorem a0S(b:o7)(o:G8 b)(hI:∀ i,IG (b.recipes.getD i r9).gauge)(j8 a7:Int)(h:dq b j8 a7=0):va6 190 [au b,i64 j8,i64 a7] (.tup [au (fF b a7),i64 0]):=by
 obtain⟨hc,hn,tR,h2⟩:=gH h;clear h;have s:=G6 hc;have A2:a7.toNat<b.recipes.length:=by have:=hn.2;omega
 have hi:0<=a7/\a7<(b.recipes.length:Int):=by have:=hn.2;omega
 have hu:=hn.1;have hr:=o.r;have h3:=(a0n hu.1 (show j8<b.p9.length by omega)).1 tR;have c:=u4 b o hI;rw[hc]at c;have e:=bw b o;unfold Hb at e;unfold fF K6;by_cases ha:b.recipes.any C9=true
 ·rw[if_pos ha]at e ⊢;have IF:=J4 ha;generalize A4 b.recipes=i at *
  refine pF Tryz.func190 ?_;conv=>whnf
  refine vb5 ?_;(repeat intro hh);(repeat' ((first|refine va0 (fun hh=>?_) fun hh=>?_|refine kR ?_|((try refine .inl ?_;conv=>whnf);(try refine⟨false,?_⟩;conv=>whnf);refine⟨_,by first|exact k8 b o _|exact bg b o _,?_⟩)|fail)<;>first|exact hh.elim|conv=>whnf));(refine va2 [] [50,48,49] ?_;(conv=>whnf);refine va3 [] (ba b o) ?_);conv=>whnf
  refine vb7 ?_;(repeat intro hh);refine⟨ai (b.recipes.getD i r9) 4,rfl,IF,?_⟩;conv=>whnf
  refine vb8 ?_;(repeat intro hh);have hlt3:a7.toNat<(b.recipes.set i (ai (b.recipes.getD i r9) 4)).length:=by rw[List.length_set];exact A2
  have hi3:0<=a7/\a7<((b.recipes.set i (ai (b.recipes.getD i r9) 4)).length:Int):=by rw[List.length_set];exact hi
  refine⟨hi3,?_⟩;conv=>whnf
  refine⟨ai ((b.recipes.set i (ai (b.recipes.getD i r9) 4)).getD a7.toNat r9) 3,rfl,hlt3,?_⟩;conv=>whnf
  rfl
 ·rw[if_neg ha]at e ⊢;refine pF Tryz.func190 ?_;conv=>whnf
  refine vb5 ?_;(repeat intro hh);(repeat' ((first|refine va0 (fun hh=>?_) fun hh=>?_|refine kR ?_|((try refine .inl ?_;conv=>whnf);(try refine⟨false,?_⟩;conv=>whnf);refine⟨_,by first|exact k8 b o _|exact bg b o _,?_⟩)|fail)<;>first|exact hh.elim|conv=>whnf));(refine va2 [] [50,48,49] ?_;(conv=>whnf);refine va3 [] (ba b o) ?_);conv=>whnf
  refine vb7 ?_;(repeat intro hh);refine⟨ai (b.recipes.getD a7.toNat r9) 3,rfl,A2,?_⟩;conv=>whnf
  rfl
theorem a0G(b:o7)(o:G8 b)(hI:∀ i,IG (b.recipes.getD i r9).gauge)(j8 a7:Int)(h:¬dq b j8 a7=0):va6 190 [au b,i64 j8,i64 a7] (.tup [mB 0,i64 (dq b j8 a7)]):=by
 have c:=u4 b o hI;by_cases h1:E1 b=true/\dp b j8 a7
 ·unfold dq at h ⊢;rw[if_pos h1]at h ⊢;obtain⟨hc,hn⟩:=h1;rw[hc]at c;have s:=G6 hc;have A2:a7.toNat<b.recipes.length:=by have:=hn.2;omega
  have hi:0<=a7/\a7<(b.recipes.length:Int):=by have:=hn.2;omega
  have hu:=hn.1;have m2:=a0n hu.1 (show j8<b.p9.length by omega);by_cases tR:I7 [2] b.p9 j8=true
  ·rw[if_neg (by rw[tR];decide)]at h ⊢;have h3:=m2.1 tR;have h2:¬(b.recipes.getD a7.toNat r9).state=2:=fun q=>h (if_neg (fun e=>e q))
   rw[if_pos h2];refine pF Tryz.func190 ?_;conv=>whnf
   refine vb5 ?_;(repeat intro hh);(repeat' ((first|refine va0 (fun hh=>?_) fun hh=>?_|refine kR ?_|((try refine .inl ?_;conv=>whnf);(try refine⟨false,?_⟩;conv=>whnf);refine⟨_,by first|exact k8 b o _|exact bg b o _,?_⟩)|fail)<;>first|exact hh.elim|conv=>whnf));all_goals rfl
  ·have wK:I7 [2] b.p9 j8=false:=by simpa using tR
   rw[if_pos wK];have h3:¬b.p9.getD j8.toNat 0=2:=fun e=>tR (m2.2 e)
   refine pF Tryz.func190 ?_;conv=>whnf
   refine vb5 ?_;(repeat intro hh);(repeat' ((first|refine va0 (fun hh=>?_) fun hh=>?_|refine kR ?_|((try refine .inl ?_;conv=>whnf);(try refine⟨false,?_⟩;conv=>whnf);refine⟨_,by first|exact k8 b o _|exact bg b o _,?_⟩)|fail)<;>first|exact hh.elim|conv=>whnf));all_goals rfl
 ·unfold dq;rw[if_neg h1];by_cases hc:E1 b=true
  ·have hn:¬dp b j8 a7:=fun q=>h1 ⟨hc,q⟩
   unfold dp at hn;rw[hc]at c;rw[if_pos hc];refine pF Tryz.func190 ?_;conv=>whnf
   refine vb5 ?_;(repeat intro hh);(repeat' ((first|refine va0 (fun hh=>?_) fun hh=>?_|refine kR ?_|((try refine .inl ?_;conv=>whnf);(try refine⟨false,?_⟩;conv=>whnf);refine⟨_,by first|exact k8 b o _|exact bg b o _,?_⟩)|fail)<;>first|exact hh.elim|conv=>whnf));all_goals (first|rfl|(exfalso;omega))
  ·have Cp:E1 b=false:=by simpa using hc
   rw[Cp]at c;rw[if_neg hc];refine pF Tryz.func190 ?_;conv=>whnf
   (repeat' ((first|refine y7 ?_|refine y8 ?_|((try refine .inl ?_;conv=>whnf);(try refine⟨false,?_⟩;conv=>whnf);refine⟨_,by assumption,?_⟩)|refine lD ?_|refine lN ?_|refine kL ?_|fail);conv=>whnf));try rfl

end Go.Proofs.Tryz.My
