/- Helper lemmas. -/
import Derived.Test.YtacahppoighegaaGreatMzBnD
set_option linter.unusedVariables false
set_option linter.unusedSimpArgs false
set_option maxRecDepth 100000
set_option maxHeartbeats 0
namespace Go.Proofs.Tryz.My
open Go Go.Ev
theorem Q7(b:n9)(o:C8 b):va7 16 [R5 b] [] (mF b) [.vec 5 1 0 e8 b.n5,.vec 92 13 p9 bX b.j8,.vec 71 6 s9 K6 b.log]:=by
 have hu:=o.u;have hr:=o.r;have hl:=o.l;have ha:=o.a;have hp:=o.p;obtain⟨k,us,rs,n,lg⟩:=b;simp only at hu hr hl ha hp;refine vb5 Tryz.func16 ?_;refine⟨⟨Int,1,0,e8,[]⟩,us,rfl,⟨rfl,rfl⟩,rfl,?_,?_,fun y _=>⟨rfl,rfl,rfl⟩,?_⟩
 ·show(0+us.length)*1<=_;omega
 ·show 0+us.length<=_;omega
 conv=>whnf
 refine⟨⟨D1,13,p9,bX,[]⟩,rs,rfl,⟨rfl,rfl⟩,rfl,?_,?_,fun y _=>⟨rfl,rfl,rfl⟩,?_⟩
 ·show(0+rs.length)*120<=_;omega
 ·show 0+rs.length<=_;omega
 conv=>whnf
 refine Or.inr ⟨Nat,[3],[13],[],fun k=>[i64 k],fun _=>[.vec 92 13 p9 bX rs],fun _=>[],fun k=>rs.length-k,fun k=>k<=rs.length,vb3 ?_⟩;refine⟨⟨0,?_⟩,?_⟩
 ·(conv=>whnf);exact kK ⟨zB4 _,rfl,rfl,rfl⟩
 ·intro j hj;conv=>whnf
  refine⟨fun h=>?_,fun h=>?_⟩
  ·have h:=zA1 h;have kO:j<rs.length:=by omega
   have vO:=ha j;refine ve4 ?_;intros;refine⟨kO,vb3 ?_⟩;rw[show Int.toNat (j:Int)=j from rfl];refine⟨⟨Int,1,0,eI,[]⟩,(rs.getD j p9).y7,rfl,⟨rfl,rfl⟩,rfl,?_,?_,fun y _=>⟨rfl,rfl,rfl⟩,?_⟩
   ·show(0+(rs.getD j p9).y7.length)*8<=_;omega
   ·show 0+(rs.getD j p9).y7.length<=_;omega
   conv=>whnf
   refine⟨⟨va5,va5⟩,vb3 ?_⟩;refine⟨rs.getD j p9,⟨rfl,kO⟩,vb3 ?_⟩;refine⟨va4,vb3 ?_⟩;refine⟨j+1,vb3 ?_⟩;refine kK ⟨⟨?_,?_⟩,?_,?_,rfl⟩
   ·show rs.length-(j+1)<rs.length-j;omega
   ·show j+1<=rs.length;omega
   ·rw[z5 _ va5 va5];rfl
   ·rw[show Int.toNat (j:Int)=j from rfl,N7]
  ·have h:=zA0 h;conv=>whnf
   refine⟨⟨A2,6,s9,K6,[]⟩,lg,rfl,⟨rfl,rfl⟩,rfl,?_,?_,fun y _=>⟨rfl,rfl,rfl⟩,?_⟩
   ·show(0+lg.length)*56<=_;omega
   ·show 0+lg.length<=_;omega
   conv=>whnf
   refine Or.inr ⟨Nat,[4],[38],[],fun k=>[i64 k],fun _=>[.vec 71 6 s9 K6 lg],fun _=>[],fun k=>lg.length-k,fun k=>k<=lg.length,vb3 ?_⟩;refine⟨⟨0,?_⟩,?_⟩
   ·(conv=>whnf);exact kK ⟨zB4 _,rfl,rfl,rfl⟩
   ·intro j hj;conv=>whnf
    refine⟨fun h=>?_,fun h=>?_⟩
    ·have h:=zA1 h;have kO:j<lg.length:=by omega
     have vO:=hp j;refine ve4 ?_;intros;refine⟨kO,vb3 ?_⟩;rw[show Int.toNat (j:Int)=j from rfl];refine⟨⟨Int,1,0,eI,[]⟩,(lg.getD j s9).n7,rfl,⟨rfl,rfl⟩,rfl,?_,?_,fun y _=>⟨rfl,rfl,rfl⟩,?_⟩
     ·show(0+(lg.getD j s9).n7.length)*8<=_;omega
     ·show 0+(lg.getD j s9).n7.length<=_;omega
     conv=>whnf
     refine⟨⟨va5,va5⟩,vb3 ?_⟩;refine⟨lg.getD j s9,⟨rfl,kO⟩,vb3 ?_⟩;refine⟨va4,vb3 ?_⟩;refine⟨j+1,vb3 ?_⟩;refine kK ⟨⟨?_,?_⟩,?_,?_,rfl⟩
     ·show lg.length-(j+1)<lg.length-j;omega
     ·show j+1<=lg.length;omega
     ·rw[z5 _ va5 va5];rfl
     ·rw[show Int.toNat (j:Int)=j from rfl,N7]
    ·have h:=zA0 h;conv=>whnf
     refine⟨[8,13,38],va4,vb3 ?_⟩;exact⟨rfl,rfl⟩
theorem rE(b:n9)(o:C8 b)(hI:∀ i,IG (b.j8.getD i p9).j9)(n4:Int)(h:bZ b n4=0):va6 90 [R5 b,u8 n4] (.tup [R5 (wh b n4),i64 b.n5.length,i64 0]):=by
 have hc:B8 b=true:=by
  unfold bZ at h;split at h
  ·assumption
  ·cases h
 have hr:¬(n4<1∨3<n4):=fun q=>by
  unfold bZ at h;rw[if_pos hc,if_pos q]at h;cases h
 have hu:¬(b.n5.length:Int)=16:=fun q=>by
  unfold bZ at h;rw[if_pos hc,if_neg hr,if_pos q]at h;cases h
 have s:=B0 hc;have w1:IntKind.i64.wrap (((b.n5++[n4]).length:Int)-1)=b.n5.length:=by
  have hl:((b.n5++[n4]).length:Int)=b.n5.length+1:=by simp
  rw[hl,z5 _ va5 va5];omega
 have c:=O5 b o hI;rw[hc]at c;refine vb4 Tryz.func90 ?_;refine vc0 ?_;intros;refine ve4 ?_;intros;refine va2 [] [24,22,23] (vb3 ?_);refine va3 [] (Q7 b o) (vb3 ?_);refine⟨⟨Int,1,0,e8,b.n5⟩,[n4],rfl,rfl,⟨rfl,rfl⟩,?_,?_,fun y _=>⟨rfl,rfl,rfl⟩,?_⟩
 ·show(b.n5.length+1)*1<=_;omega
 ·show b.n5.length+1<=_;omega
 conv=>whnf
 refine ve4 ?_;intros;rw[w1];rfl
theorem qh(b:n9)(o:C8 b)(hI:∀ i,IG (b.j8.getD i p9).j9)(n4:Int)(h:¬bZ b n4=0):va6 90 [R5 b,u8 n4] (.tup [dL 0,i64 0,i64 (bZ b n4)]):=by
 have c:=O5 b o hI;by_cases hc:B8 b=true
 ·have s:=B0 hc;unfold bZ at h ⊢;rw[if_pos hc]at h ⊢;rw[hc]at c;refine vb4 Tryz.func90 ?_;refine vc0 ?_;intros;refine ve6 ?_ ?_ ?_<;>intros
  all_goals first
   | (exfalso;apply h;rw[if_neg va5,if_neg va5];done)
   | (rw[if_pos va5];done)
   | (rw[if_neg va5,if_pos va5];done)
  
 ·have hc:B8 b=false:=by simpa using hc
  unfold bZ;rw[if_neg (by rw[hc];decide)];rw[hc]at c;refine pF Tryz.func90 ?_;conv=>whnf
  try exact vc1
  try rfl
theorem D2(b:n9)(o:C8 b)(u:Int):va6 140 [R5 b,i64 u] (.bool (decide (0<=u) && decide (u<=(b.n5.length:Int)-1))):=by
 have hu:=o.u;have w0:IntKind.i64.wrap ((b.n5.length:Int)-1)=(b.n5.length:Int)-1:=z5 _ va5 va5;have c:va6 78 [i64 u,i64 0,i64 (IntKind.i64.wrap ((b.n5.length:Int)-1))] (.bool (decide (0<=u) && decide (u<=(b.n5.length:Int)-1))):=by rw[w0];exact P2 _ _ _
 refine vb4 Tryz.func140 ?_;(repeat' (first|(refine⟨_,by exact c,?_⟩;(conv=>whnf))|(refine Or.inl ?_;(conv=>whnf);refine⟨_,by exact c,?_⟩;(conv=>whnf))|(refine Or.inl ?_;(conv=>whnf);refine⟨false,?_⟩;(conv=>whnf);refine⟨_,by exact c,?_⟩;(conv=>whnf))|(refine⟨va4,?_⟩;(conv=>whnf))|fail));try rfl
theorem wH(b:n9)(o:C8 b)(hI:∀ i,IG (b.j8.getD i p9).j9)(k7:Int)(g:v7)(hG:IG g)(h:dq b k7 g=0):va6 91 [R5 b,i64 k7,PA g] (.tup [R5 (wo b k7 g),i64 b.j8.length,i64 0]):=by
 have hc:B8 b=true:=by
  unfold dq at h;split at h
  ·assumption
  ·cases h
 unfold dq at h;rw[if_pos hc]at h;have hu:0<=k7/\k7<=(b.n5.length:Int)-1:=Decidable.byContradiction fun q=>by rw[if_pos q]at h;cases h
 rw[if_neg (show ¬¬(0<=k7/\k7<=(b.n5.length:Int)-1) from fun q=>q hu)]at h;have eT:D6 [2] b.n5 k7=true:=by
  cases e:D6 [2] b.n5 k7 with
  | true=>rfl
  | false=>rw[if_pos e]at h;cases h
 rw[if_neg (show ¬D6 [2] b.n5 k7=false by rw[eT];decide)]at h;have hg:N0 g=true:=Decidable.byContradiction fun q=>by rw[if_pos q]at h;cases h
 rw[if_neg (show ¬¬N0 g=true from fun q=>q hg)]at h;have hl:¬(b.j8.length:Int)=16:=fun q=>by rw[if_pos q]at h;cases h
 clear h;have mV:=(kQ hu.1 va5).1 eT;have s:=B0 hc;have c:=O5 b o hI;rw[hc]at c;have w1:IntKind.i64.wrap (((b.j8++[X9 k7 g]).length:Int)-1)=b.j8.length:=by
  have hl:((b.j8++[X9 k7 g]).length:Int)=b.j8.length+1:=by simp
  rw[hl,z5 _ va5 va5];omega
 refine vb4 Tryz.func91 ?_;refine vc0 ?_;intros;have cZ:=kg g hG;refine vd4 (D2 b o) ?_;intros;refine va2 [] [38,36,37] (vb3 ?_);refine va3 [] (Q7 b o) (vb3 ?_);refine⟨⟨D1,13,p9,bX,b.j8⟩,[X9 k7 g],rfl,rfl,⟨rfl,rfl⟩,?_,?_,fun y _=>⟨rfl,rfl,rfl⟩,?_⟩
 ·show(b.j8.length+1)*120<=_;omega
 ·show b.j8.length+1<=_;omega
 conv=>whnf
 refine ve4 ?_;intros;rw[w1];rfl
theorem uZ(b:n9)(o:C8 b)(hI:∀ i,IG (b.j8.getD i p9).j9)(k7:Int)(g:v7)(hG:IG g)(h:¬dq b k7 g=0):va6 91 [R5 b,i64 k7,PA g] (.tup [dL 0,i64 0,i64 (dq b k7 g)]):=by
 have c:=O5 b o hI;by_cases hc:B8 b=true
 ·have s:=B0 hc;unfold dq at h ⊢;rw[if_pos hc]at h ⊢;rw[hc]at c;by_cases hu:0<=k7/\k7<=(b.n5.length:Int)-1
  ·rw[if_neg (show ¬¬(0<=k7/\k7<=(b.n5.length:Int)-1) from fun q=>q hu)]at h ⊢;have mV:=kQ (us:=b.n5) hu.1 (show k7<b.n5.length by omega);by_cases eT:D6 [2] b.n5 k7=true
   ·rw[if_neg (show ¬D6 [2] b.n5 k7=false by rw[eT];decide)]at h ⊢;have ZA:=mV.1 eT;refine vb4 Tryz.func91 ?_;refine vc0 ?_;intros;have cZ:=kg g hG;refine vd7 (D2 b o) ?_ ?_ ?_<;>intros
    all_goals first
     | (exfalso;apply h;simp_all;done)
     | (simp_all;done)
    
   ·have ZA:¬b.n5.getD k7.toNat 0=2:=fun e=>eT (mV.2 e)
    rw[if_pos (show D6 [2] b.n5 k7=false by simpa using eT)];refine vb4 Tryz.func91 ?_;refine vc0 ?_;intros;try exact vd5 (D2 b o)
    all_goals rfl
  ·rw[if_pos hu];refine vb4 Tryz.func91 ?_;refine vc0 ?_;intros;try exact vd5 (D2 b o)
   all_goals rfl
 ·have hc:B8 b=false:=by simpa using hc
  unfold dq;rw[if_neg (by rw[hc];decide)];rw[hc]at c;refine pF Tryz.func91 ?_;conv=>whnf
  try exact vc1
  try rfl
theorem qY(b:n9)(o:C8 b)(q:Int):va6 188 [R5 b,i64 q] (i64 (Eb (Y0 q) b.log)):=by
 have hl:=o.l;refine vb4 Tryz.func188 ?_;refine Or.inr ⟨Nat,[5],[],[],fun k=>[i64 k],fun _=>[],fun _=>[],fun k=>b.log.length-k,fun k=>k<=b.log.length/\∀ m,m<k->Y0 q (b.log.getD m s9)=false,vb3 ?_⟩;refine⟨⟨0,?_⟩,?_⟩
 ·(conv=>whnf);exact kK ⟨⟨zB4 _,fun i hi=>absurd hi (zB3 i)⟩,rfl,rfl,rfl⟩
 intro k hk;conv=>whnf
 refine⟨fun h=>?_,fun h=>?_⟩
 ·have h:=zA1 h;have L4:k<b.log.length:=by omega
  conv=>whnf
  refine⟨⟨va5,va5⟩,vb3 ?_⟩;rw[show Int.toNat (k:Int)=k from rfl];refine⟨fun q1=>?_,fun q1=>?_⟩
  ·(conv=>whnf);exact congrArg i64 (si L4 q1 hk.2).symm
  ·refine⟨k+1,vb3 ?_⟩;refine kK ⟨⟨?_,?_,?_⟩,?_,rfl,rfl⟩
   ·show b.log.length-(k+1)<b.log.length-k;omega
   ·omega
   ·intro m h2;by_cases e:m=k
    ·subst e;exact q1
    ·exact hk.2 m va5
   ·rw[z5 _ va5 va5];rfl
 ·have h:=zA0 h;conv=>whnf
  exact congrArg i64 (ot fun m h2=>hk.2 m va5).symm
theorem JS{us:List Int}{u:Int}(h1:0<=u)(h2:u<us.length)(hs:uy us):D6 [1,2,3] us u=true:=by
 have h3:=hs u.toNat va5;unfold D6 B6;rw[zA4 h1,zA4 (show u<=(us.length:Int)-1 by omega),Bool.true_and,Bool.true_and];simp only[List.contains,List.elem_eq_mem,zA3,List.mem_cons,List.not_mem_nil,or_false];omega
theorem qi{b:n9}(h:B8 b=true):uy b.n5:=by
 simp only[B8,zA2]at h;exact CI h.1.1.2
def AK(b:n9)(is:Bool)(rr:List Int):Prop:=∀ u:Int,0<=u->u<b.n5.length->(D6 rr b.n5 u = !(!is && decide (b.n5.getD u.toNat 0≠3)))
theorem Hu{b:n9}(h:B8 b=true):AK b true [1,2,3]:=fun u h1 h2=>by rw[JS h1 h2 (qi h)];rfl
theorem Hv(b:n9):AK b false [3]:=fun u h1 h2=>by
 rw[rX h1 h2];by_cases e:b.n5.getD u.toNat 0=3<;>simp[e]
theorem qZ(b:n9)(o:C8 b)(hI:∀ i,IG (b.j8.getD i p9).j9)(k7 seq:Int)(is:Bool)(rr:List Int)(hr:B8 b=true->AK b is rr)(h:eV b k7 seq is rr=0):va6 144 [R5 b,i64 k7,i64 seq,.bool is] (.tup [R5 (S8 b seq is),i64 0]):=by
 obtain⟨hc,ha,hu,eT,hd⟩:=qa h;clear h;have s:=B0 hc;have mV:=hr hc k7 hu.1 va5;rw[eT]at mV;have z8:lC b seq<b.log.length:=hH ha;have e:=qY b o seq;have c:=O5 b o hI;rw[hc]at c;unfold Eb at e;rw[if_pos ha]at e;unfold S8;unfold lC at *
 generalize b.log.findIdx (Y0 seq)=i at *
 cases is with
 | true =>
  have mU:(b.log.getD i s9).disputed=false:=by simpa using hd
  have z2:(b.log[i]'(z8)).disputed=false:=by have z:=mU;simp only[List.getD,zA6 z8,Option.getD_some]at z;exact z
  clear mV;refine vb4 Tryz.func144 ?_;refine vc0 ?_;intros;refine vd4 (D2 b o) ?_;intros;refine va2 [] [51,49,50] (vb3 ?_);refine va3 [] (Q7 b o) (vb3 ?_);refine ve4 ?_;intros;refine⟨FA (b.log.getD i s9) true,rfl,z8,vb3 ?_⟩;rfl
 | false =>
  have mU:(b.log.getD i s9).disputed=true:=by simpa using hd
  have z2:(b.log[i]'(z8)).disputed=true:=by have z:=mU;simp only[List.getD,zA6 z8,Option.getD_some]at z;exact z
  have h3:b.n5.getD k7.toNat 0=3:=by simpa using mV
  clear mV;refine vb4 Tryz.func144 ?_;refine vc0 ?_;intros;refine vd4 (D2 b o) ?_;intros;refine va2 [] [51,49,50] (vb3 ?_);refine va3 [] (Q7 b o) (vb3 ?_);refine ve4 ?_;intros;refine⟨FA (b.log.getD i s9) false,rfl,z8,vb3 ?_⟩;rfl
theorem oG(b:n9)(o:C8 b)(hI:∀ i,IG (b.j8.getD i p9).j9)(k7 seq:Int)(is:Bool)(rr:List Int)(hr:B8 b=true->AK b is rr)(h:¬eV b k7 seq is rr=0):va6 144 [R5 b,i64 k7,i64 seq,.bool is] (.tup [dL 0,i64 (eV b k7 seq is rr)]):=by
 have c:=O5 b o hI;by_cases hc:B8 b=true
 ·rw[hc]at c;have hr:=hr hc;have s:=B0 hc;have e:=qY b o seq;have hl:=o.l;unfold eV at h ⊢;rw[if_pos hc]at h ⊢;unfold Eb at e;unfold lC at *
  by_cases ha:b.log.any (Y0 seq)=true
  ·rw[if_pos ha]at e;have z8:b.log.findIdx (Y0 seq)<b.log.length:=hH ha;generalize b.log.findIdx (Y0 seq)=i at *
   by_cases hu:0<=k7/\k7<=(b.n5.length:Int)-1
   ·rw[if_neg (fun q=>q ⟨ha,hu⟩)]at h ⊢;have mV:=hr k7 hu.1 va5;by_cases eT:D6 rr b.n5 k7=true
    ·rw[if_neg (by rw[eT];decide)]at h ⊢;have hd:(b.log.getD i s9).disputed=is:=Decidable.byContradiction fun q=>h (if_neg q)
     rw[if_pos hd];rw[eT]at mV;cases is with
     | true =>
      have z2:(b.log[i]'(z8)).disputed=true:=by have z:=hd;simp only[List.getD,zA6 z8,Option.getD_some]at z;exact z
      clear mV;refine vb4 Tryz.func144 ?_;refine vc0 ?_;intros;try exact vd5 (D2 b o)
      all_goals rfl
     | false =>
      have h3:b.n5.getD k7.toNat 0=3:=by simpa using mV
      have z2:(b.log[i]'(z8)).disputed=false:=by have z:=hd;simp only[List.getD,zA6 z8,Option.getD_some]at z;exact z
      clear mV;refine vb4 Tryz.func144 ?_;refine vc0 ?_;intros;try exact vd5 (D2 b o)
      all_goals rfl
    ·have ZA:D6 rr b.n5 k7=false:=by simpa using eT
     rw[if_pos ZA];rw[ZA]at mV;cases is with
     | true=>simp at mV
     | false =>
      have h3:¬b.n5.getD k7.toNat 0=3:=by simpa using mV
      clear mV;refine vb4 Tryz.func144 ?_;refine vc0 ?_;intros;try exact vd5 (D2 b o)
      all_goals rfl
   ·rw[if_pos (fun q=>hu q.2)];refine vb4 Tryz.func144 ?_;refine vc0 ?_;intros;try exact vd5 (D2 b o)
    all_goals rfl
  ·rw[if_neg ha]at e;rw[if_pos (fun q=>ha q.1)];refine vb4 Tryz.func144 ?_;refine vc0 ?_;intros;try exact vd5 (D2 b o)
   all_goals rfl
 ·have sY:B8 b=false:=by simpa using hc
  unfold eV;rw[if_neg hc];rw[sY]at c;refine pF Tryz.func144 ?_;conv=>whnf
  try exact vc1
  try rfl
theorem rF(b:n9)(o:C8 b)(hI:∀ i,IG (b.j8.getD i p9).j9)(k7 seq:Int)(h:mJ b k7 seq=0):va6 95 [R5 b,i64 k7,i64 seq] (.tup [R5 (S8 b seq true),i64 0]):=by
 have c:va6 144 [R5 b,i64 k7,i64 seq,.tt] (.tup [R5 (S8 b seq true),i64 0]):=(qZ b o hI k7 seq true [1,2,3] Hu h).tts;refine vb4 Tryz.func95 ?_;refine vc0 ?_;intros;all_goals rfl
theorem qj(b:n9)(o:C8 b)(hI:∀ i,IG (b.j8.getD i p9).j9)(k7 seq:Int)(h:¬mJ b k7 seq=0):va6 95 [R5 b,i64 k7,i64 seq] (.tup [dL 0,i64 (mJ b k7 seq)]):=by
 have c:va6 144 [R5 b,i64 k7,i64 seq,.tt] (.tup [dL 0,i64 (eV b k7 seq true [1,2,3])]):=(oG b o hI k7 seq true [1,2,3] Hu h).tts;refine vb4 Tryz.func95 ?_;refine vc0 ?_;intros;all_goals rfl
theorem vf(b:n9)(o:C8 b)(hI:∀ i,IG (b.j8.getD i p9).j9)(k7 seq:Int)(h:mK b k7 seq=0):va6 96 [R5 b,i64 k7,i64 seq] (.tup [R5 (S8 b seq false),i64 0]):=by
 have c:va6 144 [R5 b,i64 k7,i64 seq,.ff] (.tup [R5 (S8 b seq false),i64 0]):=(qZ b o hI k7 seq false [3] (fun _=>Hv b) h).tts;refine vb4 Tryz.func96 ?_;refine vc0 ?_;intros;all_goals rfl
theorem rG(b:n9)(o:C8 b)(hI:∀ i,IG (b.j8.getD i p9).j9)(k7 seq:Int)(h:¬mK b k7 seq=0):va6 96 [R5 b,i64 k7,i64 seq] (.tup [dL 0,i64 (mK b k7 seq)]):=by
 have c:va6 144 [R5 b,i64 k7,i64 seq,.ff] (.tup [dL 0,i64 (eV b k7 seq false [3])]):=(oG b o hI k7 seq false [3] (fun _=>Hv b) h).tts;refine vb4 Tryz.func96 ?_;refine vc0 ?_;intros;all_goals rfl
theorem yb(l:List Int)(hl:l.length<2^40)(n:Int):va6 142 [A9 l,i64 n] (.bool (l.contains n)):=by
 have yes:∀ k,k<l.length->l.getD k 0=n->l.contains n=true:=fun k hk e=>by
  rw[List.contains_iff_mem,<- e];simp only[List.getD,zA6 hk,Option.getD_some];exact List.getElem_mem hk
 have no:(∀ m,m<l.length->¬l.getD m 0=n)->l.contains n=false:=fun h=>by
  rw[Bool.eq_false_iff];intro q;rw[List.contains_iff_mem]at q;obtain⟨m,hm,e⟩:=List.getElem_of_mem q;apply h m hm;simp only[List.getD,zA6 hm,Option.getD_some];exact e
 refine vb4 Tryz.func142 ?_;refine Or.inr ⟨Nat,[5],[],[],fun k=>[i64 k],fun _=>[],fun _=>[],fun k=>l.length-k,fun k=>k<=l.length/\∀ m,m<k->¬l.getD m 0=n,vb3 ?_⟩;refine⟨⟨0,?_⟩,?_⟩
 ·(conv=>whnf);exact kK ⟨⟨zB4 _,fun i hi=>absurd hi (zB3 i)⟩,rfl,rfl,rfl⟩
 intro k hk;conv=>whnf
 refine⟨fun h=>?_,fun h=>?_⟩
 ·have h:=zA1 h;have L4:k<l.length:=by omega
  conv=>whnf
  refine⟨⟨va5,va5⟩,vb3 ?_⟩;rw[show Int.toNat (k:Int)=k from rfl];refine⟨fun q1=>?_,fun q1=>?_⟩
  ·(conv=>whnf);rw[yes k L4 (zA1 q1)]
  ·refine⟨k+1,vb3 ?_⟩;refine kK ⟨⟨?_,?_,?_⟩,?_,rfl,rfl⟩
   ·show l.length-(k+1)<l.length-k;omega
   ·omega
   ·intro m h2;by_cases e:m=k
    ·subst e;exact zA0 q1
    ·exact hk.2 m va5
   ·rw[z5 _ va5 va5];rfl
 ·have h:=zA0 h;conv=>whnf
  rw[no fun m h2=>hk.2 m va5]
theorem FM(l:List Int)(hl:l.length<2^20)(n:Int):va6 143 [A9 l,i64 n] (A9 (bm l n)):=by
 refine vb4 Tryz.func143 ?_;refine Or.inr ⟨Nat,[6],[],[(5,⟨Int,3,1,0,eI⟩)],fun k=>[i64 k],fun _=>[],fun k=>[.vec 3 1 0 eI (l.take k)],fun k=>l.length-k,fun k=>k<=l.length/\∀ m,m<k->l.getD m 0<n,vb3 ?_⟩;refine⟨⟨0,?_⟩,?_⟩
 ·(conv=>whnf);exact kK ⟨⟨zB4 _,fun i hi=>absurd hi (zB3 i)⟩,rfl,rfl,rfl⟩
 intro k hk;have Ld:(l.take k).length=k:=by rw[zB1];omega
 conv=>whnf
 refine⟨fun h=>?_,fun h=>?_⟩
 ·have h:=zA1 h;have L4:k<l.length:=by omega
  conv=>whnf
  refine⟨⟨va5,va5⟩,vb3 ?_⟩;rw[show Int.toNat (k:Int)=k from rfl];refine⟨fun q=>?_,fun q=>?_⟩
  ·have q:=zA1 q;conv=>whnf
   refine ve4 ?_;intros;refine⟨⟨Int,1,0,eI,l.take k⟩,[l.getD k 0],rfl,rfl,⟨rfl,rfl⟩,?_,?_,fun y _=>⟨rfl,rfl,rfl⟩,?_⟩
   ·show((l.take k).length+1)*8<=_;omega
   ·show(l.take k).length+1<=_;omega
   conv=>whnf
   refine⟨k+1,vb3 ?_⟩;refine kK ⟨⟨?_,?_,?_⟩,?_,rfl,?_⟩
   ·show l.length-(k+1)<l.length-k;omega
   ·show k+1<=l.length;omega
   ·intro m h2;by_cases e:m=k
    ·subst e;exact q
    ·exact hk.2 m va5
   ·rw[z5 _ va5 va5];rfl
   ·show [Row.vec 3 1 0 eI (l.take k++[l.getD k 0])]=[Row.vec 3 1 0 eI (l.take (k+1))]
    rw[List.take_add_one,zA6 L4];simp[List.getD,L4]
  ·have q:=zA0 q;have ek:ja l n=k:=Ao hk.1 hk.2 (fun _=>by omega);unfold bm;rw[ek];conv=>whnf
   refine ve4 ?_;intros;refine⟨⟨Int,1,0,eI,l.take k⟩,[n],rfl,rfl,⟨rfl,rfl⟩,?_,?_,fun y _=>⟨rfl,rfl,rfl⟩,?_⟩
   ·show((l.take k).length+1)*8<=_;omega
   ·show(l.take k).length+1<=_;omega
   conv=>whnf
   refine⟨⟨Int,1,0,eI,l.take k++[n]⟩,((l.drop (Int.toNat ((l.take k).length:Int))).take (Int.toNat ((l.length:Int)-((l.take k).length:Int)))),rfl,rfl,rfl,?_,?_,fun y _=>⟨rfl,rfl,rfl⟩,?_⟩
   ·show((l.take k++[n]).length+((l.drop (Int.toNat ((l.take k).length:Int))).take (Int.toNat ((l.length:Int)-((l.take k).length:Int)))).length)*8<=_;simp only[List.length_append,zB1,List.length_drop,zB2,List.length_nil];omega
   ·show(l.take k++[n]).length+((l.drop (Int.toNat ((l.take k).length:Int))).take (Int.toNat ((l.length:Int)-((l.take k).length:Int)))).length<=_;simp only[List.length_append,zB1,List.length_drop,zB2,List.length_nil];omega
   conv=>whnf
   refine congrArg A9 ?_;show(l.take k++[n])++((l.drop (Int.toNat ((l.take k).length:Int))).take (Int.toNat ((l.length:Int)-((l.take k).length:Int))))=_
   have eL:(l.drop (Int.toNat ((l.take k).length:Int))).take (Int.toNat ((l.length:Int)-((l.take k).length:Int)))=l.drop k:=by
    rw[Ld,show Int.toNat (k:Int)=k from rfl];exact List.take_of_length_le (by rw[List.length_drop];omega)
   rw[eL,List.append_assoc];rfl
 ·have h:=zA0 h;have ek:ja l n=k:=Ao hk.1 hk.2 (fun q=>by omega);unfold bm;rw[ek];conv=>whnf
  refine ve4 ?_;intros;refine⟨⟨Int,1,0,eI,l.take k⟩,[n],rfl,rfl,⟨rfl,rfl⟩,?_,?_,fun y _=>⟨rfl,rfl,rfl⟩,?_⟩
  ·show((l.take k).length+1)*8<=_;omega
  ·show(l.take k).length+1<=_;omega
  conv=>whnf
  refine⟨⟨Int,1,0,eI,l.take k++[n]⟩,((l.drop (Int.toNat ((l.take k).length:Int))).take (Int.toNat ((l.length:Int)-((l.take k).length:Int)))),rfl,rfl,rfl,?_,?_,fun y _=>⟨rfl,rfl,rfl⟩,?_⟩
  ·show((l.take k++[n]).length+((l.drop (Int.toNat ((l.take k).length:Int))).take (Int.toNat ((l.length:Int)-((l.take k).length:Int)))).length)*8<=_;simp only[List.length_append,zB1,List.length_drop,zB2,List.length_nil];omega
  ·show(l.take k++[n]).length+((l.drop (Int.toNat ((l.take k).length:Int))).take (Int.toNat ((l.length:Int)-((l.take k).length:Int)))).length<=_;simp only[List.length_append,zB1,List.length_drop,zB2,List.length_nil];omega
  conv=>whnf
  refine congrArg A9 ?_;show(l.take k++[n])++((l.drop (Int.toNat ((l.take k).length:Int))).take (Int.toNat ((l.length:Int)-((l.take k).length:Int))))=_
  have eL:(l.drop (Int.toNat ((l.take k).length:Int))).take (Int.toNat ((l.length:Int)-((l.take k).length:Int)))=l.drop k:=by
   rw[Ld,show Int.toNat (k:Int)=k from rfl];exact List.take_of_length_le (by rw[List.length_drop];omega)
  rw[eL,List.append_assoc];rfl
theorem ad(b:n9)(o:C8 b):va6 136 [R5 b] (i64 (lA b.j8)):=by
 have hl:=o.r;refine vb4 Tryz.func136 ?_;refine Or.inr ⟨Nat,[3],[],[],fun k=>[i64 k],fun _=>[],fun _=>[],fun k=>b.j8.length-k,fun k=>k<=b.j8.length/\∀ m,m<k->K7 (b.j8.getD m p9)=false,vb3 ?_⟩;refine⟨⟨0,?_⟩,?_⟩
 ·(conv=>whnf);exact kK ⟨⟨zB4 _,fun i hi=>absurd hi (zB3 i)⟩,rfl,rfl,rfl⟩
 intro k hk;conv=>whnf
 refine⟨fun h=>?_,fun h=>?_⟩
 ·have h:=zA1 h;have L4:k<b.j8.length:=by omega
  conv=>whnf
  refine⟨⟨va5,va5⟩,vb3 ?_⟩;rw[show Int.toNat (k:Int)=k from rfl];refine⟨fun q1=>?_,fun q1=>?_⟩
  ·(conv=>whnf);exact congrArg i64 (CP L4 q1 hk.2).symm
  ·refine⟨k+1,vb3 ?_⟩;refine kK ⟨⟨?_,?_,?_⟩,?_,rfl,rfl⟩
   ·show b.j8.length-(k+1)<b.j8.length-k;omega
   ·omega
   ·intro m h2;by_cases e:m=k
    ·subst e;exact q1
    ·exact hk.2 m va5
   ·rw[z5 _ va5 va5];rfl
 ·have h:=zA0 h;conv=>whnf
  exact congrArg i64 (xR fun m h2=>hk.2 m va5).symm
theorem oH(l:List A2)(hl:l.length<2^40):va6 138 [od l] (i64 (Eb R6 l)):=by
 refine vb4 Tryz.func138 ?_;refine Or.inr ⟨Nat,[3],[],[],fun k=>[i64 k],fun _=>[],fun _=>[],fun k=>l.length-k,fun k=>k<=l.length/\∀ m,m<k->R6 (l.getD m s9)=false,vb3 ?_⟩;refine⟨⟨0,?_⟩,?_⟩
 ·(conv=>whnf);exact kK ⟨⟨zB4 _,fun i hi=>absurd hi (zB3 i)⟩,rfl,rfl,rfl⟩
 intro k hk;conv=>whnf
 refine⟨fun h=>?_,fun h=>?_⟩
 ·have h:=zA1 h;have L4:k<l.length:=by omega
  conv=>whnf
  refine⟨⟨va5,va5⟩,vb3 ?_⟩;rw[show Int.toNat (k:Int)=k from rfl];refine⟨fun q1=>?_,fun q1=>?_⟩
  ·(conv=>whnf);exact congrArg i64 (si (p:=R6) L4 q1 hk.2).symm
  ·refine⟨k+1,vb3 ?_⟩;refine kK ⟨⟨?_,?_,?_⟩,?_,rfl,rfl⟩
   ·show l.length-(k+1)<l.length-k;omega
   ·omega
   ·intro m h2;by_cases e:m=k
    ·subst e;exact q1
    ·exact hk.2 m va5
   ·rw[z5 _ va5 va5];rfl
 ·have h:=zA0 h;conv=>whnf
  exact congrArg i64 (ot (p:=R6) fun m h2=>hk.2 m va5).symm
theorem Hw{g:v7}(hg:N0 g=true)(p:List Int):(E8 g p).2.2=if H8 p then 0 else 50:=by
 cases hp:H8 p with
 | true=>exact(Ny hg hp).1
 | false =>
  unfold E8;rw[if_pos hg];obtain⟨⟨t1,t2⟩,⟨n1,n2⟩,_⟩:=X8 hg;rcases nZ (p:=p) t1 t2 n1 n2 with ⟨_,q⟩|⟨q,_⟩
  ·rw[q];unfold um;rw[if_neg va8,if_neg va8];rfl
  ·rw[hp]at q;cases q
theorem Hy{b:n9}(h:B8 b=true)(ha:b.j8.any K7=true):N0 (gj b)=true:=by
 have g:=(il.1 h).rc (b.j8.getD (C6 b.j8) p9) (by rw[A6 (O1 ha)];exact List.getElem_mem _);exact g.2.2.2.1
theorem Oh{b:n9}(o:C8 b)(h:B8 b=true){n7:List Int}(hp:n7.length<2^20)(part:Int):C8 (lE b part n7):=by
 have s:=B0 h;have hl:(ig b).length<=32:=by
  unfold ig;split
  ·unfold eX;rw[List.length_append,zB1,List.length_drop];omega
  ·omega
 refine⟨o.u,o.r,?_,o.a,fun i=>?_⟩
 ·show(ig b++[uI b part n7]).length<_
  rw[List.length_append];show(ig b).length+1<_
  omega
 ·show((ig b++[uI b part n7]).getD i s9).n7.length<_
  have key:∀ x,x ∈ ig b++[uI b part n7]->x.n7.length<2^20:=fun x hx=>by
   rcases List.mem_append.1 hx with q|q
   ·have:x ∈ b.log:=by
     unfold ig at q;split at q
     ·unfold eX at q;rcases List.mem_append.1 q with q|q
      ·exact List.mem_of_mem_take q
      ·exact List.mem_of_mem_drop q
     ·exact q
    obtain⟨k,hk,e⟩:=List.getElem_of_mem this;have:=o.p k;rw[A6 hk,e]at this;exact this
   ·rw[List.mem_singleton.1 q];exact hp
  by_cases hi:i<(ig b++[uI b part n7]).length
  ·rw[A6 hi];exact key _ (List.getElem_mem _)
  ·rw[List.getD,zA7 va5];show(0:Nat)<_;decide
theorem vg(b:n9)(o:C8 b)(hI:∀ i,IG (b.j8.getD i p9).j9)(part:Int)(n7:List Int)(hp:n7.length<2^20)(h:ij b part n7=0) :
  va6 87 [R5 b,i64 part,A9 n7] (.tup [R5 (lE b part n7),.agg [i64 b.next,i64 (C6 b.j8),i64 part,A9 n7,u8 (E8 (gj b) n7).2.1,.ff],i64 0]):=by
 obtain⟨hc,Vd,ha,Ab,ng,rC⟩:=kU h;clear h;have gg:=Hy hc ha;have pe:=Hw gg n7;rw[Ab]at pe;have s:=B0 hc;have nx:=oz hc;have c:=O5 b o hI;rw[hc]at c;have c1:va6 78 [i64 part,i64 0,i64 1099511627776] (.bool (decide (0<=part) && decide (part<=1099511627776))):=P2 _ _ _;have c2:=ad b o;have hN:lA b.j8=C6 b.j8:=by unfold lA;rw[if_pos ha]
 rw[hN]at c2;have c5:=gW n7 (P1 hp);rw[<- pe]at c5;have hA:=O1 ha;have c4:=oH b.log (P1 o.l);unfold Eb at c4;have w1:IntKind.i64.wrap (b.next+1)=b.next+1:=z5 _ va5 va5;have j:=xQ (b.j8.getD (C6 b.j8) p9).j9 n7 (hI _) (P1 hp);have ox:=Oh o hc hp part;unfold lE uI ig gj at *
 clear pe;clear gg;generalize C6 b.j8=n at *
 by_cases hf:(b.log.length:Int)=b.keep
 ·have vN:=ng hf;rw[if_pos vN]at c4;rw[if_pos hf]at ox ⊢;have hi:=hH vN;generalize b.log.findIdx R6=i at *
  have hdl:=qd hi;have w2:IntKind.i64.wrap ((i:Int)+1)=(i:Int)+1:=z5 _ va5 va5;have tw:=eR b o;have dt:List.take ((b.log.length:Int)-((i:Int)+1)).toNat (List.drop ((i:Int)+1).toNat b.log)=b.log.drop (i+1):=by
   rw[show((i:Int)+1).toNat=i+1 by omega];exact List.take_of_length_le (by rw[List.length_drop];omega)
  refine vb4 Tryz.func87 ?_;refine vc0 ?_;intros;refine vc6 ?_;intros;refine⟨⟨A2,6,s9,K6,[]⟩,b.log.take i,rfl,⟨rfl,rfl⟩,rfl,?_,?_,fun y _=>⟨rfl,rfl,rfl⟩,?_⟩
  ·show(0+(b.log.take i).length)*56<=_;rw[zB1];omega
  ·show 0+(b.log.take i).length<=_;rw[zB1];omega
  conv=>whnf
  refine ve4 ?_;intros;rw[w2];refine⟨⟨A2,6,s9,K6,b.log.take i⟩,b.log.drop (i+1),rfl,rfl,?_,?_,?_,fun y _=>⟨rfl,rfl,rfl⟩,?_⟩
  ·conv=>whnf
   exact congrArg (Pq.mk A2 6 s9 K6) dt
  ·show((b.log.take i).length+(b.log.drop (i+1)).length)*56<=_;rw[zB1,List.length_drop];omega
  ·show(b.log.take i).length+(b.log.drop (i+1)).length<=_;rw[zB1,List.length_drop];omega
  conv=>whnf
  refine ve4 ?_;intros;refine⟨⟨Int,1,0,eI,[]⟩,n7,rfl,⟨rfl,rfl⟩,rfl,?_,?_,fun y _=>⟨rfl,rfl,rfl⟩,?_⟩
  ·show(0+n7.length)*8<=_;omega
  ·show 0+n7.length<=_;omega
  conv=>whnf
  refine vc6 ?_;intros;refine⟨⟨A2,6,s9,K6,eX b.log i⟩,[⟨b.next,n,part,n7,(E8 (b.j8.getD n p9).j9 n7).2.1,false⟩],rfl,rfl,⟨rfl,rfl⟩,?_,?_,fun y _=>⟨rfl,rfl,rfl⟩,?_⟩
  ·show((eX b.log i).length+1)*56<=_;omega
  ·show(eX b.log i).length+1<=_;omega
  conv=>whnf
  have tw2:=eR ⟨b.keep,b.n5,b.j8,b.next+1,eX b.log i++[⟨b.next,n,part,n7,(E8 (b.j8.getD n p9).j9 n7).2.1,false⟩]⟩ ox;rw[<- w1]at tw2;refine vc6 ?_;intros;all_goals (first|rfl|(rw[w1];rfl))
 ·rw[if_neg hf]at ox ⊢;refine vb4 Tryz.func87 ?_;refine vc0 ?_;intros;refine vc6 ?_;intros;refine va2 [] [59,58,57] (vb3 ?_);refine va3 [] (Q7 b o) (vb3 ?_);refine ve4 ?_;intros;refine⟨⟨Int,1,0,eI,[]⟩,n7,rfl,⟨rfl,rfl⟩,rfl,?_,?_,fun y _=>⟨rfl,rfl,rfl⟩,?_⟩
  ·show(0+n7.length)*8<=_;omega
  ·show 0+n7.length<=_;omega
  conv=>whnf
  refine ve4 ?_;intros;refine⟨hA,vb3 ?_⟩;refine vc6 ?_;intros;refine⟨⟨A2,6,s9,K6,b.log⟩,[⟨b.next,n,part,n7,(E8 (b.j8.getD n p9).j9 n7).2.1,false⟩],rfl,rfl,⟨rfl,rfl⟩,?_,?_,fun y _=>⟨rfl,rfl,rfl⟩,?_⟩
  ·show(b.log.length+1)*56<=_;omega
  ·show b.log.length+1<=_;omega
  conv=>whnf
  have tw2:=eR ⟨b.keep,b.n5,b.j8,b.next+1,b.log++[⟨b.next,n,part,n7,(E8 (b.j8.getD n p9).j9 n7).2.1,false⟩]⟩ ox;rw[<- w1]at tw2;refine vc6 ?_;intros;all_goals (first|rfl|(rw[w1];rfl))
theorem rH(b:n9)(o:C8 b)(hI:∀ i,IG (b.j8.getD i p9).j9)(part:Int)(n7:List Int)(hp:n7.length<2^20)(h:¬ij b part n7=0) :
  va6 87 [R5 b,i64 part,A9 n7] (.tup [dL 0,Yp,i64 (ij b part n7)]):=by
 have c:=O5 b o hI;by_cases hc:B8 b=true
 ·unfold ij at h ⊢;rw[if_pos hc]at h ⊢;rw[hc]at c;have s:=B0 hc;have nx:=oz hc;have c1:va6 78 [i64 part,i64 0,i64 1099511627776] (.bool (decide (0<=part) && decide (part<=1099511627776))):=P2 _ _ _;by_cases Vd:0<=part/\part<=1099511627776
  ·rw[if_neg (fun q=>q Vd)]at h ⊢;have c2:=ad b o;by_cases ha:b.j8.any K7=true
   ·rw[if_neg (fun q=>q ha)]at h ⊢;have hN:lA b.j8=C6 b.j8:=by unfold lA;rw[if_pos ha]
    rw[hN]at c2;have pe:=Hw (Hy hc ha) n7;have c5:=gW n7 (P1 hp);rw[<- pe]at c5;unfold gj at h c5 ⊢;clear pe;generalize C6 b.j8=n at *
    by_cases Ab:(E8 (b.j8.getD n p9).j9 n7).2.2=0
    ·rw[if_neg (fun q=>q Ab)]at h ⊢;have h9:((b.log.length:Int)=b.keep/\¬b.log.any R6=true)∨b.next=1099511627776:=Decidable.byContradiction fun q=>h (if_neg q)
     rw[if_pos h9];rw[Ab]at c5;clear h;have c4:=oH b.log (P1 o.l);unfold Eb at c4;by_cases vN:b.log.any R6=true
     ·have rC:b.next=1099511627776:=by
       rcases h9 with q|q
       ·exact absurd vN q.2
       ·exact q
      clear h9;rw[if_pos vN]at c4;generalize b.log.findIdx R6=i at *
      refine vb4 Tryz.func87 ?_;refine vc0 ?_;intros;try exact va1
      all_goals rfl
     ·rw[if_neg vN]at c4;refine vb4 Tryz.func87 ?_;refine vc0 ?_;intros;try exact va1
      all_goals rfl
    ·rw[if_pos Ab];clear h;refine vb4 Tryz.func87 ?_;refine vc0 ?_;intros;try exact va1
     all_goals rfl
   ·rw[if_pos ha];have hN:lA b.j8 = -1:=by unfold lA;rw[if_neg ha]
    rw[hN]at c2;clear h;refine vb4 Tryz.func87 ?_;refine vc0 ?_;intros;try exact va1
    all_goals rfl
  ·rw[if_pos Vd];clear h;refine vb4 Tryz.func87 ?_;refine vc0 ?_;intros;try exact va1
   all_goals rfl
 ·have sY:B8 b=false:=by simpa using hc
  rw[sY]at c;unfold ij;rw[if_neg hc];refine pF Tryz.func87 ?_;conv=>whnf
  try exact vc1
  all_goals rfl
theorem V1(b:n9)(o:C8 b)(n:Int):va6 78 [i64 n,i64 0,i64 (IntKind.i64.wrap ((b.j8.length:Int)-1))] (.bool (decide (0<=n) && decide (n<=(b.j8.length:Int)-1))):=by
 have hu:=o.r;rw[z5 _ va5 va5];exact P2 _ _ _
theorem FN{b:n9}(hc:B8 b=true){x:D1}(ha:aG b.n5 x=true){k7:Int}(h1:0<=k7)(h2:k7<b.n5.length):∀ i,i<(bm x.y7 k7).length->0<=(bm x.y7 k7).getD i 0/\(bm x.y7 k7).getD i 0<b.n5.length:=by
 have h:=xP (b:=b) ha;have hm:∀ y,y ∈ bm x.y7 k7->0<=y/\y<b.n5.length:=by
  intro y hy;unfold bm at hy;rw[List.mem_append,List.mem_cons]at hy;have all:∀ y,y ∈ x.y7->0<=y/\y<b.n5.length:=fun y hy=>by
   obtain⟨m,hm,e⟩:=List.getElem_of_mem hy;have:=h m hm;simp only[List.getD,zA6 hm,Option.getD_some]at this;rw[<- e];exact this
  rcases hy with hy|hy|hy
  ·exact all y (List.mem_of_mem_take hy)
  ·subst hy;exact⟨h1,h2⟩
  ·exact all y (List.mem_of_mem_drop hy)
 intro i hi;apply hm;simp only[List.getD,zA6 hi,Option.getD_some];exact List.getElem_mem hi
theorem rI(b:n9)(o:C8 b)(hI:∀ i,IG (b.j8.getD i p9).j9)(k7 a7:Int)(h:ft b k7 a7=0):va6 92 [R5 b,i64 k7,i64 a7] (.tup [R5 (ou b k7 a7),i64 0]):=by
 obtain⟨hc,hn,hb,h2⟩:=qb h;clear h;obtain⟨wZ,cJ,Vb⟩:=ov hb;have s:=B0 hc;have z8:a7.toNat<b.j8.length:=by have:=hn.2;omega
 have hi:0<=a7/\a7<(b.j8.length:Int):=by have:=hn.2;omega
 have hu:=hn.1;have hx:=o.a a7.toNat;have Yw:=(oo hu.1 va5 (qi hc)).1 Vb;obtain⟨ra,rs⟩:=oy hc z8;have st:=(bY.1 rs).2.2;have c:=O5 b o hI;rw[hc]at c;have c2:=yb (b.j8.getD a7.toNat p9).y7 va5 k7;rw[wZ]at c2;have c3:=FM (b.j8.getD a7.toNat p9).y7 hx k7;have c4:=og b (bm (b.j8.getD a7.toNat p9).y7 k7) (by rw[uG];omega) (FN hc ra hu.1 va5);unfold ou Au;by_cases he:H9 b.n5 (bm (b.j8.getD a7.toNat p9).y7 k7)=true
 ·rw[if_pos he];rw[he]at c4;refine vb4 Tryz.func92 ?_;refine vc0 ?_;intros;refine ve3 (D2 b o) (V1 b o) ?_ ?_<;>intros
  all_goals ((refine va2 [] [64,62,63] ?_;(conv=>whnf);refine va3 [] (Q7 b o) ?_);(conv=>whnf);(repeat' ((first|refine TF ?_|refine TG ?_|((try refine .inl ?_;conv=>whnf);(try refine⟨false,?_⟩;conv=>whnf);refine⟨_,by assumption,?_⟩)|refine lD ?_|refine lN ?_|refine kL ?_|fail);conv=>whnf));(repeat' ((first|refine aU fun hh=>?_|refine aV fun hh=>?_|refine aS (fun hh=>?_) fun hh=>?_|refine kR ?_|fail)<;>conv=>whnf));refine⟨⟨(b.j8.getD a7.toNat p9).author,(b.j8.getD a7.toNat p9).j9,bm (b.j8.getD a7.toNat p9).y7 k7,2⟩,rfl,z8,?_⟩;(conv=>whnf);rfl)
 ·rw[if_neg he];have WJ:H9 b.n5 (bm (b.j8.getD a7.toNat p9).y7 k7)=false:=by simpa using he
  rw[WJ]at c4;refine vb4 Tryz.func92 ?_;refine vc0 ?_;intros;refine ve3 (D2 b o) (V1 b o) ?_ ?_<;>intros
  all_goals ((refine va2 [] [64,62,63] ?_;(conv=>whnf);refine va3 [] (Q7 b o) ?_);(conv=>whnf);(repeat' ((first|refine TF ?_|refine TG ?_|((try refine .inl ?_;conv=>whnf);(try refine⟨false,?_⟩;conv=>whnf);refine⟨_,by assumption,?_⟩)|refine lD ?_|refine lN ?_|refine kL ?_|fail);conv=>whnf));(repeat' ((first|refine aU fun hh=>?_|refine aV fun hh=>?_|refine aS (fun hh=>?_) fun hh=>?_|refine kR ?_|fail)<;>conv=>whnf));refine⟨⟨(b.j8.getD a7.toNat p9).author,(b.j8.getD a7.toNat p9).j9,bm (b.j8.getD a7.toNat p9).y7 k7,(b.j8.getD a7.toNat p9).state⟩,rfl,z8,?_⟩;(conv=>whnf);rfl)
theorem qk(b:n9)(o:C8 b)(hI:∀ i,IG (b.j8.getD i p9).j9)(k7 a7:Int)(h:¬ft b k7 a7=0):va6 92 [R5 b,i64 k7,i64 a7] (.tup [dL 0,i64 (ft b k7 a7)]):=by
 have c:=O5 b o hI;by_cases h1:B8 b=true/\aK b k7 a7
 ·unfold ft at h ⊢;rw[if_pos h1]at h ⊢;obtain⟨hc,hn⟩:=h1;rw[hc]at c;have s:=B0 hc;have z8:a7.toNat<b.j8.length:=by have:=hn.2;omega
  have hi:0<=a7/\a7<(b.j8.length:Int):=by have:=hn.2;omega
  have hu:=hn.1;have hx:=o.a a7.toNat;have Yw:=oo hu.1 (show k7<b.n5.length by omega) (qi hc);obtain⟨ra,rs⟩:=oy hc z8;have st:=(bY.1 rs).2.2;have c2:=yb (b.j8.getD a7.toNat p9).y7 va5 k7;by_cases hb:uH b k7 (b.j8.getD a7.toNat p9)=true
  ·rw[if_pos hb];unfold uH at hb;simp only[zA9,zA3,Bool.not_eq_true']at hb;by_cases q1:D6 [2,3] b.n5 k7=true
   ·have q1:=Yw.1 q1;by_cases q2:k7=(b.j8.getD a7.toNat p9).author
    ·refine vb4 Tryz.func92 ?_;refine vc0 ?_;intros;try exact ve2 (D2 b o) (V1 b o)
     all_goals rfl
    ·have q3:(b.j8.getD a7.toNat p9).y7.contains k7=true:=by
      rcases hb with e|e|e
      ·exact e
      ·exact absurd e q2
      ·have:=Yw.2 q1;rw[e]at this;cases this
     rw[q3]at c2;refine vb4 Tryz.func92 ?_;refine vc0 ?_;intros;try exact ve2 (D2 b o) (V1 b o)
     all_goals rfl
   ·have q1:b.n5.getD k7.toNat 0<2:=by
     by_cases e:b.n5.getD k7.toNat 0<2
     ·exact e
     ·exact absurd (Yw.2 e) q1
    refine vb4 Tryz.func92 ?_;refine vc0 ?_;intros;try exact ve2 (D2 b o) (V1 b o)
    all_goals rfl
  ·have cJ:uH b k7 (b.j8.getD a7.toNat p9)=false:=by simpa using hb
   rw[if_neg hb]at h ⊢;obtain⟨wZ,cJ,Vb⟩:=ov cJ;have q1:=Yw.1 Vb;rw[wZ]at c2;have h2:(b.j8.getD a7.toNat p9).state > 2:=Decidable.byContradiction fun q=>h (if_neg q)
   rw[if_pos h2];refine vb4 Tryz.func92 ?_;refine vc0 ?_;intros;try exact ve2 (D2 b o) (V1 b o)
   all_goals rfl
 ·unfold ft;rw[if_neg h1];by_cases hc:B8 b=true
  ·have hn:¬aK b k7 a7:=fun q=>h1 ⟨hc,q⟩
   unfold aK at hn;rw[hc]at c;rw[if_pos hc];refine vb4 Tryz.func92 ?_;refine vc0 ?_;intros;try exact ve2 (D2 b o) (V1 b o)
   all_goals (first|rfl|(exfalso;omega))
  ·have sY:B8 b=false:=by simpa using hc
   rw[sY]at c;rw[if_neg hc];refine pF Tryz.func92 ?_;conv=>whnf
   try exact vc1
   try rfl
theorem JT{b:n9}{k7:Int}(h:du b k7=0):B8 b=true/\(0<=k7/\k7<=(b.n5.length:Int)-1)/\D6 [3] b.n5 k7=true/\b.j8.any K7=true:=by
 unfold du at h;by_cases h1:B8 b=true
 ·rw[if_pos h1]at h;by_cases h2:0<=k7/\k7<=(b.n5.length:Int)-1
  ·rw[if_neg (fun q=>q h2)]at h;by_cases h3:D6 [3] b.n5 k7=false
   ·rw[if_pos h3]at h;cases h
   ·rw[if_neg h3]at h;by_cases h4:b.j8.any K7=true
    ·exact⟨h1,h2,by simpa using h3,h4⟩
    ·rw[if_pos h4]at h;cases h
  ·rw[if_pos h2]at h;cases h
 ·rw[if_neg h1]at h;cases h
theorem vh(b:n9)(o:C8 b)(hI:∀ i,IG (b.j8.getD i p9).j9)(k7:Int)(h:du b k7=0):va6 94 [R5 b,i64 k7] (.tup [R5 (mH b (C6 b.j8)),i64 0]):=by
 obtain⟨hc,hu,eT,ha⟩:=JT h;clear h;have s:=B0 hc;have c:=O5 b o hI;rw[hc]at c;have m3:=rX hu.1 (show k7<b.n5.length by omega);rw[eT]at m3;have h3:b.n5.getD k7.toNat 0=3:=zA1 m3.symm;have e:=ad b o;unfold lA at e;rw[if_pos ha]at e;have z8:=O1 ha;generalize C6 b.j8=i at *
 refine vb4 Tryz.func94 ?_;refine vc0 ?_;intros;refine vd4 (D2 b o) ?_;intros;refine va2 [] [32,30,31] (vb3 ?_);refine va3 [] (Q7 b o) (vb3 ?_);refine ve4 ?_;intros;refine⟨bj (b.j8.getD i p9) 4,rfl,z8,vb3 ?_⟩;rfl
theorem rJ(b:n9)(o:C8 b)(hI:∀ i,IG (b.j8.getD i p9).j9)(k7:Int)(h:¬du b k7=0):va6 94 [R5 b,i64 k7] (.tup [dL 0,i64 (du b k7)]):=by
 have c:=O5 b o hI;by_cases hc:B8 b=true
 ·have s:=B0 hc;have e:=ad b o;rw[hc]at c;unfold du at h ⊢;rw[if_pos hc]at h ⊢;by_cases hu:0<=k7/\k7<=(b.n5.length:Int)-1
  ·rw[if_neg (fun q=>q hu)]at h ⊢;have m3:=rX hu.1 (show k7<b.n5.length by omega);by_cases eT:D6 [3] b.n5 k7=true
   ·rw[if_neg (by rw[eT];decide)]at h ⊢;rw[eT]at m3;have h3:b.n5.getD k7.toNat 0=3:=zA1 m3.symm;have ha:¬b.j8.any K7=true:=fun q=>h (if_neg (fun e=>e q))
    rw[if_pos ha];unfold lA at e;rw[if_neg ha]at e;refine vb4 Tryz.func94 ?_;refine vc0 ?_;intros;try exact vd5 (D2 b o)
    all_goals rfl
   ·have mV:D6 [3] b.n5 k7=false:=by simpa using eT
    rw[if_pos mV];rw[mV]at m3;have h3:¬b.n5.getD k7.toNat 0=3:=zA0 m3.symm;refine vb4 Tryz.func94 ?_;refine vc0 ?_;intros;try exact vd5 (D2 b o)
    all_goals rfl
  ·rw[if_pos hu];refine vb4 Tryz.func94 ?_;refine vc0 ?_;intros;try exact vd5 (D2 b o)
   all_goals rfl
 ·have sY:B8 b=false:=by simpa using hc
  unfold du;rw[if_neg hc];rw[sY]at c;refine pF Tryz.func94 ?_;conv=>whnf
  try exact vc1
  try rfl
theorem ql(b:n9)(o:C8 b)(hI:∀ i,IG (b.j8.getD i p9).j9)(k7 a7:Int)(h:Z8 b k7 a7=0):va6 93 [R5 b,i64 k7,i64 a7] (.tup [R5 (fK b a7),i64 0]):=by
 obtain⟨hc,hn,eT,h2⟩:=mI h;clear h;have s:=B0 hc;have z8:a7.toNat<b.j8.length:=by have:=hn.2;omega
 have hi:0<=a7/\a7<(b.j8.length:Int):=by have:=hn.2;omega
 have hu:=hn.1;have hr:=o.r;have h3:=(kQ hu.1 (show k7<b.n5.length by omega)).1 eT;have c:=O5 b o hI;rw[hc]at c;have e:=ad b o;unfold lA at e;unfold fK bD;by_cases ha:b.j8.any K7=true
 ·rw[if_pos ha]at e ⊢;have Lp:=O1 ha;generalize C6 b.j8=i at *
  refine vb4 Tryz.func93 ?_;refine vc0 ?_;intros;refine ve1 (D2 b o) (V1 b o) ?_;intros;refine va2 [] [50,48,49] (vb3 ?_);refine va3 [] (Q7 b o) (vb3 ?_);refine vc6 ?_;intros;refine⟨bj (b.j8.getD i p9) 4,rfl,Lp,vb3 ?_⟩;refine ve4 ?_;intros;have a1w:a7.toNat<(b.j8.set i (bj (b.j8.getD i p9) 4)).length:=by rw[List.length_set];exact z8
  have hi3:0<=a7/\a7<((b.j8.set i (bj (b.j8.getD i p9) 4)).length:Int):=by rw[List.length_set];exact hi
  refine⟨hi3,vb3 ?_⟩;refine⟨bj ((b.j8.set i (bj (b.j8.getD i p9) 4)).getD a7.toNat p9) 3,rfl,a1w,vb3 ?_⟩;rfl
 ·rw[if_neg ha]at e ⊢;refine vb4 Tryz.func93 ?_;refine vc0 ?_;intros;refine ve1 (D2 b o) (V1 b o) ?_;intros;refine va2 [] [50,48,49] (vb3 ?_);refine va3 [] (Q7 b o) (vb3 ?_);refine vc6 ?_;intros;refine⟨bj (b.j8.getD a7.toNat p9) 3,rfl,z8,vb3 ?_⟩;rfl
theorem oI(b:n9)(o:C8 b)(hI:∀ i,IG (b.j8.getD i p9).j9)(k7 a7:Int)(h:¬Z8 b k7 a7=0):va6 93 [R5 b,i64 k7,i64 a7] (.tup [dL 0,i64 (Z8 b k7 a7)]):=by
 have c:=O5 b o hI;by_cases h1:B8 b=true/\aK b k7 a7
 ·unfold Z8 at h ⊢;rw[if_pos h1]at h ⊢;obtain⟨hc,hn⟩:=h1;rw[hc]at c;have s:=B0 hc;have z8:a7.toNat<b.j8.length:=by have:=hn.2;omega
  have hi:0<=a7/\a7<(b.j8.length:Int):=by have:=hn.2;omega
  have hu:=hn.1;have m2:=kQ hu.1 (show k7<b.n5.length by omega);by_cases eT:D6 [2] b.n5 k7=true
  ·rw[if_neg (by rw[eT];decide)]at h ⊢;have h3:=m2.1 eT;have h2:¬(b.j8.getD a7.toNat p9).state=2:=fun q=>h (if_neg (fun e=>e q))
   rw[if_pos h2];refine vb4 Tryz.func93 ?_;refine vc0 ?_;intros;try exact ve2 (D2 b o) (V1 b o)
   all_goals rfl
  ·have mV:D6 [2] b.n5 k7=false:=by simpa using eT
   rw[if_pos mV];have h3:¬b.n5.getD k7.toNat 0=2:=fun e=>eT (m2.2 e)
   refine vb4 Tryz.func93 ?_;refine vc0 ?_;intros;try exact ve2 (D2 b o) (V1 b o)
   all_goals rfl
 ·unfold Z8;rw[if_neg h1];by_cases hc:B8 b=true
  ·have hn:¬aK b k7 a7:=fun q=>h1 ⟨hc,q⟩
   unfold aK at hn;rw[hc]at c;rw[if_pos hc];refine vb4 Tryz.func93 ?_;refine vc0 ?_;intros;try exact ve2 (D2 b o) (V1 b o)
   all_goals (first|rfl|(exfalso;omega))
  ·have sY:B8 b=false:=by simpa using hc
   rw[sY]at c;rw[if_neg hc];refine pF Tryz.func93 ?_;conv=>whnf
   try exact vc1
   try rfl

end Go.Proofs.Tryz.My
