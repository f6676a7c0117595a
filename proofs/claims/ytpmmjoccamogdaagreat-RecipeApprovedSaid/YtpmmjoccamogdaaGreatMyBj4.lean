/- Helper lemmas. -/
import Derived.Test.YtpmmjoccamogdaaGreatMyBj3
set_option linter.unusedVariables false
set_option linter.unusedSimpArgs false
set_option maxRecDepth 100000
set_option maxHeartbeats 0
namespace Go.Proofs.Tryz.My
open Go Go.Ev
theorem Co {v:Int} (h1:0<=v) (h2:v < 16):(Lit.int .i64 v).wf=true:=by
 have h0:IntKind.i64.min = -9223372036854775808:=by kernel_rfl
 have hx:IntKind.i64.max=9223372036854775807:=by kernel_rfl
 simp [Lit.wf,h0,hx]
 omega
theorem iw (h:G5) (m:Int) (hT:Ew h m) (h1:h.authors.length=h.k9.length) (ha:(h.k9.getD m.toNat []).length < 1000) (Cb:h.roles.length < 1000) :
  PW Tryz.prog 9 [.ptr 0 0 0 0,i64 m] (T7 true h) (.bool true) (T7 true h):=by
 obtain ⟨n,rfl⟩:=Int.eq_ofNat_of_zero_le hT.1.1
 have:=hT.1.2
 exact sV h n hT (by omega) ha Cb
theorem vV (h:G5) (a:M9) (hk:B6 a=2) (h0:0<=a.a8) (h1:a.a8 < h.k9.length) (hw:∀ v ∈ h.k9.getD a.a8.toNat [],(Lit.int .i64 v).wf=true) (hu:(Lit.int .i64 a.b8).wf=true) :
  PW Tryz.prog 10 [.ptr 0 0 0 0,wo a] (T7 true h) (.tup []) (T7 true ⟨h.roles,h.authors,h.gauges,h.k9.set a.a8.toNat (Y3 (h.k9.getD a.a8.toNat []) a.b8),h.active,h.entries⟩):=by
 obtain ⟨n,hn⟩:=Int.eq_ofNat_of_zero_le h0
 have e:a.a8.toNat=n:=by rw [hn];rfl
 rw [e] at hw ⊢
 exact zy h a hk n hn (by omega) hw hu
def vW (b:b9) (st:Bool) (h:G5):List Row:=[.cells 28 (eB b),zw 88 89 90 91 92 h.active,.vec 5 1 0 e8 h.roles,.vec 3 1 0 eI h.authors,.vec 44 10 dV eG h.gauges,qZ st h.k9,.vec 3 1 0 eI h.entries]
def Jh (l:List M9) (t:Nat×b9×G5×Bool):Prop:=t.1<=l.length/\oM t.2.1 t.2.2.1/\(t.2.2.2=false->t.2.2.1.k9=[])/\t.2.2.1.entries.length<=t.1/\∀ i,(t.2.2.1.k9.getD i []).length<=t.1
theorem O3 {l:List M9} {k:Nat} {b:b9} {h:G5} {st:Bool} (hI:Jh l (k,b,h,st)) (cD:k < l.length) (a:M9) (J:oM (dg b a) (y6 h a)) (s':Bool) (hs:s'=false->(y6 h a).k9=[]):Jh l (k + 1,dg b a,y6 h a,s'):=by
 obtain ⟨_,_,_,h4,h5⟩:=hI
 have q1:=zC h a
 refine ⟨cD,J,hs,?_,fun i=>?_⟩
 ·show (y6 h a).entries.length<=k + 1
  have h4:h.entries.length<=k:=h4
  omega
 ·show ((y6 h a).k9.getD i []).length<=k + 1
  have q2:=vU h a i
  have h5:(h.k9.getD i []).length<=k:=h5 i
  omega
theorem fH (keep:Int) (l:List M9):PC Tryz.prog 3 [i64 keep,zz l] (.bool true):=by
 have al:=za
 have nw:=yN keep
 unfold Bq Bs at nw
 by_cases hk:A0 keep 1 32=true
 ·rw [if_pos hk,if_pos hk] at nw
  by_cases hl:l.length<=150/\∀ i,i < l.length->(l.getD i n9).j8.length<=100
  ·have lf:=zA l hl.1 hl.2
   have LY:PC Tryz.prog 5 [i64 keep] (.tup [G4 ⟨keep,[],[],0,[]⟩,i64 0]):=by
    refine nw.sub rfl (fun i hi => .refl _) (cF (xs:=[aZ keep,i64 0]) (ys:=[G4 ⟨keep,[],[],0,[]⟩,i64 0]) rfl fun i hi=>?_).2
    match i with
    | 0=>exact uc keep
    | 1=>exact .refl _
    | (n + 2)=>exact .refl _
   have EY:1<=keep/\keep<=32:=by unfold A0 at hk;simpa using hk
   refine pF Tryz.func3 ?_
   conv=>whnf
   (repeat' ((first|refine u6 ?_|refine u7 ?_|((try refine Or.inl ?_;conv=>whnf);(try refine ⟨false,?_⟩;conv=>whnf);refine ⟨_,by first|exact al|exact LY|exact lf,?_⟩)|refine lD ?_|refine lN ?_|refine kL ?_|fail);conv=>whnf))
   refine Or.inr ⟨Nat×b9×G5×Bool,[41],[6,38,88,89,90,91,92],[(88 + 65536 * (1 + 38 + 4096 * 0),⟨Int,5,1,0,e8⟩),(89 + 65536 * (1 + 38 + 4096 * 1),⟨Int,3,1,0,eI⟩),(90 + 65536 * (1 + 38 + 4096 * 2),⟨H4,44,10,dV,eG⟩),(91 + 65536 * (1 + 38 + 4096 * 3),⟨Int,72,1,0,eI⟩),(92 + 65536 * (1 + 38 + 4096 * 5),⟨Int,3,1,0,eI⟩)],fun t=>match t with|(k,b,h,st)=>[i64 k],fun t=>match t with|(k,b,h,st)=>vW b st h,fun _=>[.none,.none,.none,.none,.none],fun t=>l.length - t.1,fun t=>Jh l t,?_⟩
   conv=>whnf
   refine ⟨⟨(0,⟨keep,[],[],0,[]⟩,Cm,false),?_⟩,?_⟩
   ·(conv=>whnf)
    exact kK ⟨⟨Nat.zero_le _,BG EY,fun _=>rfl,Nat.le_refl _,fun i=>Nat.le_refl _⟩,rfl,rfl,rfl⟩
   rintro ⟨k,b,h,st⟩ hI
   have HZ:=hI
   obtain ⟨h1,I,dY,h4,h5⟩:=HZ
   simp only [] at h1 I dY h4 h5
   have o:=LS I.g
   have nu:=I.g.nu
   have nr:=I.g.nr
   have eC:=I.al
   have Cb:h.roles.length<=16:=by rw [I.ro];exact nu
   have LU:h.authors.length=b.a7.length:=by rw [I.au,List.length_map]
   have Mx:h.gauges.length=b.a7.length:=by rw [I.ga,List.length_map]
   cases st
   ·by_cases cD:k < l.length
    ·have LZ:=hl.2 k cD
     have zD:(l.getD k n9).j8.length < 2 ^ 20:=by omega
     by_cases e:zd b (l.getD k n9)=0
     ·have c:=qS b o (l.getD k n9) zD e
      obtain ⟨J,f1,f2,f3,f5⟩:=qY I e
      by_cases k0:B6 (l.getD k n9)=0
      ·have kk:B6 (l.getD (Int.toNat (k:Int)) n9)=0:=k0
       have hN:y6 h (l.getD k n9)=⟨h.roles++[(l.getD k n9).I4],h.authors,h.gauges,h.k9,h.active,h.entries⟩:=by unfold y6;  rw [if_pos k0]
       conv=>whnf
       (repeat' ((first|refine aU fun hh=>?_|refine aV fun hh=>?_|refine aS (fun hh=>?_) fun hh=>?_|refine kR ?_|((try refine Or.inl ?_;conv=>whnf);(try refine ⟨false,?_⟩;conv=>whnf);refine ⟨_,by exact c,?_⟩)|fail)<;>conv=>whnf))
       (refine Or.inr ⟨[],[],by kernel_rfl,?_⟩;(conv=>whnf);refine ⟨[38,88,89,90,91,92],_,_,_,_,⟨L3 false h (l.getD k n9) f1,rfl,rfl,by kernel_rfl⟩,?_⟩)
       conv=>whnf
       unfold B6 at kk
       (repeat' ((first|refine aU fun hh=>?_|refine aV fun hh=>?_|refine aS (fun hh=>?_) fun hh=>?_|refine kR ?_|fail)<;>conv=>whnf))
       (refine Or.inr ⟨[],[96],by kernel_rfl,?_⟩;(conv=>whnf);refine ⟨[38,88,89,90,91,92],_,_,_,_,⟨ra false h (l.getD k n9) k0 (by omega),rfl,rfl,by kernel_rfl⟩,?_⟩)
       conv=>whnf
       (repeat' ((first|refine aU fun hh=>?_|refine aV fun hh=>?_|refine aS (fun hh=>?_) fun hh=>?_|refine kR ?_|fail)<;>conv=>whnf))
       refine ⟨(k + 1,dg b (l.getD k n9),y6 h (l.getD k n9),false),?_⟩
       conv=>whnf
       refine kK ⟨⟨?_,?_⟩,?_,?_,rfl⟩
       ·show l.length - (k + 1) < l.length - k;omega
       ·exact O3 hI cD _ J false (fun z=>by rw [hN];exact dY z)
       ·show _=[i64 ((k + 1:Nat):Int)]
        rw [L9 _ (by omega) (by omega)];rfl
       ·show _=vW (dg b (l.getD k n9)) false (y6 h (l.getD k n9))
        rw [hN];rfl
      by_cases k1:B6 (l.getD k n9)=1
      ·have kk:B6 (l.getD (Int.toNat (k:Int)) n9)=1:=k1
       have hN:y6 h (l.getD k n9)=⟨h.roles,h.authors++[(l.getD k n9).b8],h.gauges++[(l.getD k n9).o6],h.k9++[[]],h.active,h.entries⟩:=by unfold y6;rw [if_neg k0];rw [if_pos k1]
       conv=>whnf
       (repeat' ((first|refine aU fun hh=>?_|refine aV fun hh=>?_|refine aS (fun hh=>?_) fun hh=>?_|refine kR ?_|((try refine Or.inl ?_;conv=>whnf);(try refine ⟨false,?_⟩;conv=>whnf);refine ⟨_,by exact c,?_⟩)|fail)<;>conv=>whnf))
       (refine Or.inr ⟨[],[],by kernel_rfl,?_⟩;(conv=>whnf);refine ⟨[38,88,89,90,91,92],_,_,_,_,⟨L3 false h (l.getD k n9) f1,rfl,rfl,by kernel_rfl⟩,?_⟩)
       conv=>whnf
       unfold B6 at kk
       (repeat' ((first|refine aU fun hh=>?_|refine aV fun hh=>?_|refine aS (fun hh=>?_) fun hh=>?_|refine kR ?_|fail)<;>conv=>whnf))
       (refine Or.inr ⟨[],[96,97,98],by kernel_rfl,?_⟩;(conv=>whnf);refine ⟨[38,88,89,90,91,92],_,_,_,_,⟨ri false h (l.getD k n9) k1 dY (by omega) (by omega) (by omega),rfl,rfl,by kernel_rfl⟩,?_⟩)
       conv=>whnf
       (repeat' ((first|refine aU fun hh=>?_|refine aV fun hh=>?_|refine aS (fun hh=>?_) fun hh=>?_|refine kR ?_|fail)<;>conv=>whnf))
       refine ⟨(k + 1,dg b (l.getD k n9),y6 h (l.getD k n9),true),?_⟩
       conv=>whnf
       refine kK ⟨⟨?_,?_⟩,?_,?_,rfl⟩
       ·show l.length - (k + 1) < l.length - k;omega
       ·exact O3 hI cD _ J true (fun z=>by cases z)
       ·show _=[i64 ((k + 1:Nat):Int)]
        rw [L9 _ (by omega) (by omega)];rfl
       ·show _=vW (dg b (l.getD k n9)) true (y6 h (l.getD k n9))
        rw [hN];rfl
      by_cases k2:B6 (l.getD k n9)=2
      ·have kk:B6 (l.getD (Int.toNat (k:Int)) n9)=2:=k2
       have hN:y6 h (l.getD k n9)=⟨h.roles,h.authors,h.gauges,h.k9.set (l.getD k n9).a8.toNat (Y3 (h.k9.getD (l.getD k n9).a8.toNat []) (l.getD k n9).b8),h.active,h.entries⟩:=by unfold y6;rw [if_neg k0];rw [if_neg k1];rw [if_pos k2]
       have vY:=f1 (by omega)
       have z:=dY rfl
       rw [z] at eC
       have eC:0=b.a7.length:=eC
       exfalso
       omega
      by_cases k3:B6 (l.getD k n9)=3
      ·have kk:B6 (l.getD (Int.toNat (k:Int)) n9)=3:=k3
       have hN:y6 h (l.getD k n9)=⟨h.roles,h.authors,h.gauges,h.k9,(l.getD k n9).a8,h.entries⟩:=by unfold y6;rw [if_neg k0];rw [if_neg k1];rw [if_neg k2];rw [if_pos k3]
       have vY:=f1 (by omega)
       have z:=dY rfl
       rw [z] at eC
       have eC:0=b.a7.length:=eC
       exfalso
       omega
      by_cases k4:B6 (l.getD k n9)=4
      ·have kk:B6 (l.getD (Int.toNat (k:Int)) n9)=4:=k4
       have hN:y6 h (l.getD k n9)=⟨h.roles,h.authors,h.gauges,h.k9,-1,h.entries⟩:=by unfold y6;rw [if_neg k0];rw [if_neg k1];rw [if_neg k2];rw [if_neg k3];rw [if_pos k4]
       conv=>whnf
       (repeat' ((first|refine aU fun hh=>?_|refine aV fun hh=>?_|refine aS (fun hh=>?_) fun hh=>?_|refine kR ?_|((try refine Or.inl ?_;conv=>whnf);(try refine ⟨false,?_⟩;conv=>whnf);refine ⟨_,by exact c,?_⟩)|fail)<;>conv=>whnf))
       (refine Or.inr ⟨[],[],by kernel_rfl,?_⟩;(conv=>whnf);refine ⟨[38,88,89,90,91,92],_,_,_,_,⟨L3 false h (l.getD k n9) f1,rfl,rfl,by kernel_rfl⟩,?_⟩)
       conv=>whnf
       unfold B6 at kk
       (repeat' ((first|refine aU fun hh=>?_|refine aV fun hh=>?_|refine aS (fun hh=>?_) fun hh=>?_|refine kR ?_|fail)<;>conv=>whnf))
       (refine Or.inr ⟨[],[],by kernel_rfl,?_⟩;(conv=>whnf);refine ⟨[38,88,89,90,91,92],_,_,_,_,⟨rb false h (l.getD k n9) k4,rfl,rfl,by kernel_rfl⟩,?_⟩)
       conv=>whnf
       (repeat' ((first|refine aU fun hh=>?_|refine aV fun hh=>?_|refine aS (fun hh=>?_) fun hh=>?_|refine kR ?_|fail)<;>conv=>whnf))
       refine ⟨(k + 1,dg b (l.getD k n9),y6 h (l.getD k n9),false),?_⟩
       conv=>whnf
       refine kK ⟨⟨?_,?_⟩,?_,?_,rfl⟩
       ·show l.length - (k + 1) < l.length - k;omega
       ·exact O3 hI cD _ J false (fun z=>by rw [hN];exact dY z)
       ·show _=[i64 ((k + 1:Nat):Int)]
        rw [L9 _ (by omega) (by omega)];rfl
       ·show _=vW (dg b (l.getD k n9)) false (y6 h (l.getD k n9))
        rw [hN];rfl
      by_cases k5:B6 (l.getD k n9)=5
      ·have kk:B6 (l.getD (Int.toNat (k:Int)) n9)=5:=k5
       have hN:y6 h (l.getD k n9)=⟨h.roles,h.authors,h.gauges,h.k9,h.active,h.entries++[h.active]⟩:=by unfold y6;rw [if_neg k0];rw [if_neg k1];rw [if_neg k2];rw [if_neg k3];rw [if_neg k4];rw [if_pos k5]
       have Ma:=f5 k5
       conv=>whnf
       (repeat' ((first|refine aU fun hh=>?_|refine aV fun hh=>?_|refine aS (fun hh=>?_) fun hh=>?_|refine kR ?_|((try refine Or.inl ?_;conv=>whnf);(try refine ⟨false,?_⟩;conv=>whnf);refine ⟨_,by exact c,?_⟩)|fail)<;>conv=>whnf))
       (refine Or.inr ⟨[],[],by kernel_rfl,?_⟩;(conv=>whnf);refine ⟨[38,88,89,90,91,92],_,_,_,_,⟨L3 false h (l.getD k n9) f1,rfl,rfl,by kernel_rfl⟩,?_⟩)
       conv=>whnf
       unfold B6 at kk
       (repeat' ((first|refine aU fun hh=>?_|refine aV fun hh=>?_|refine aS (fun hh=>?_) fun hh=>?_|refine kR ?_|fail)<;>conv=>whnf))
       (refine Or.inr ⟨[],[96],by kernel_rfl,?_⟩;(conv=>whnf);refine ⟨[38,88,89,90,91,92],_,_,_,_,⟨rf false h (l.getD k n9) k5 (by omega),rfl,rfl,by kernel_rfl⟩,?_⟩)
       conv=>whnf
       (repeat' ((first|refine aU fun hh=>?_|refine aV fun hh=>?_|refine aS (fun hh=>?_) fun hh=>?_|refine kR ?_|fail)<;>conv=>whnf))
       refine ⟨(k + 1,dg b (l.getD k n9),y6 h (l.getD k n9),false),?_⟩
       conv=>whnf
       refine kK ⟨⟨?_,?_⟩,?_,?_,rfl⟩
       ·show l.length - (k + 1) < l.length - k;omega
       ·exact O3 hI cD _ J false (fun z=>by rw [hN];exact dY z)
       ·show _=[i64 ((k + 1:Nat):Int)]
        rw [L9 _ (by omega) (by omega)];rfl
       ·show _=vW (dg b (l.getD k n9)) false (y6 h (l.getD k n9))
        rw [hN];rfl
      have kk:¬B6 (l.getD (Int.toNat (k:Int)) n9)=0/\¬B6 (l.getD (Int.toNat (k:Int)) n9)=1/\¬B6 (l.getD (Int.toNat (k:Int)) n9)=2/\¬B6 (l.getD (Int.toNat (k:Int)) n9)=3/\¬B6 (l.getD (Int.toNat (k:Int)) n9)=4/\¬B6 (l.getD (Int.toNat (k:Int)) n9)=5:=⟨k0,k1,k2,k3,k4,k5⟩
      have hN:y6 h (l.getD k n9)=h:=by unfold y6;rw [if_neg k0,if_neg k1,if_neg k2,if_neg k3,if_neg k4,if_neg k5]
      conv=>whnf
      (repeat' ((first|refine aU fun hh=>?_|refine aV fun hh=>?_|refine aS (fun hh=>?_) fun hh=>?_|refine kR ?_|((try refine Or.inl ?_;conv=>whnf);(try refine ⟨false,?_⟩;conv=>whnf);refine ⟨_,by exact c,?_⟩)|fail)<;>conv=>whnf))
      (refine Or.inr ⟨[],[],by kernel_rfl,?_⟩;(conv=>whnf);refine ⟨[38,88,89,90,91,92],_,_,_,_,⟨L3 false h (l.getD k n9) f1,rfl,rfl,by kernel_rfl⟩,?_⟩)
      conv=>whnf
      unfold B6 at kk
      (repeat' ((first|refine aU fun hh=>?_|refine aV fun hh=>?_|refine aS (fun hh=>?_) fun hh=>?_|refine kR ?_|fail)<;>conv=>whnf))
      (refine Or.inr ⟨[],[],by kernel_rfl,?_⟩;(conv=>whnf);refine ⟨[38,88,89,90,91,92],_,_,_,_,⟨rh false h (l.getD k n9) ⟨k0,k1,k2,k3,k4,k5⟩,rfl,rfl,by kernel_rfl⟩,?_⟩)
      conv=>whnf
      (repeat' ((first|refine aU fun hh=>?_|refine aV fun hh=>?_|refine aS (fun hh=>?_) fun hh=>?_|refine kR ?_|fail)<;>conv=>whnf))
      refine ⟨(k + 1,dg b (l.getD k n9),y6 h (l.getD k n9),false),?_⟩
      conv=>whnf
      refine kK ⟨⟨?_,?_⟩,?_,?_,rfl⟩
      ·show l.length - (k + 1) < l.length - k;omega
      ·exact O3 hI cD _ J false (fun z=>by rw [hN];exact dY z)
      ·show _=[i64 ((k + 1:Nat):Int)]
       rw [L9 _ (by omega) (by omega)];rfl
      ·show _=vW (dg b (l.getD k n9)) false (y6 h (l.getD k n9))
       rw [hN];rfl
     ·have c:=mP b o (l.getD k n9) zD e
      conv=>whnf
      (repeat' ((first|refine aU fun hh=>?_|refine aV fun hh=>?_|refine aS (fun hh=>?_) fun hh=>?_|refine kR ?_|((try refine Or.inl ?_;conv=>whnf);(try refine ⟨false,?_⟩;conv=>whnf);refine ⟨_,by exact c,?_⟩)|fail)<;>conv=>whnf))
      refine ⟨(k + 1,b,h,false),?_⟩
      conv=>whnf
      refine kK ⟨⟨?_,?_⟩,?_,rfl,rfl⟩
      ·show l.length - (k + 1) < l.length - k;omega
      ·exact ⟨cD,I,dY,by show h.entries.length<=k + 1;omega,fun i=>by have:=h5 i;show (h.k9.getD i []).length<=k + 1;omega⟩
      ·show _=[i64 ((k + 1:Nat):Int)]
       rw [L9 _ (by omega) (by omega)];rfl
    ·(conv=>whnf)
     have nx:=I.nx
     (repeat' ((first|refine aU fun hh=>?_|refine aV fun hh=>?_|refine aS (fun hh=>?_) fun hh=>?_|refine kR ?_|fail)<;>conv=>whnf))
     refine Or.inr ⟨Nat,[110],[],[],fun i=>[i64 i],fun _=>[],fun _=>[],fun i=>b.log.length - i,fun i=>i<=b.log.length,?_⟩
     conv=>whnf
     refine ⟨⟨0,?_⟩,?_⟩
     ·(conv=>whnf)
      exact kK ⟨Nat.zero_le _,rfl,rfl,rfl⟩
     intro i hi
     by_cases Ji:i < b.log.length
     ·obtain ⟨q1,q2,q3,q4,q5,q6,q7,q8,q9⟩:=uf I (i:=Int.toNat (i:Int)) Ji
      exfalso
      have z:=dY rfl
      rw [z] at eC
      have eC:0=b.a7.length:=eC
      have z2:=q3.1
      omega
     ·have nl:=I.g.nl
      have kp:=I.g.kp
      conv=>whnf
      (repeat' ((first|refine aU fun hh=>?_|refine aV fun hh=>?_|refine aS (fun hh=>?_) fun hh=>?_|refine kR ?_|fail)<;>conv=>whnf))
      all_goals rfl
   ·by_cases cD:k < l.length
    ·have LZ:=hl.2 k cD
     have zD:(l.getD k n9).j8.length < 2 ^ 20:=by omega
     by_cases e:zd b (l.getD k n9)=0
     ·have c:=qS b o (l.getD k n9) zD e
      obtain ⟨J,f1,f2,f3,f5⟩:=qY I e
      by_cases k0:B6 (l.getD k n9)=0
      ·have kk:B6 (l.getD (Int.toNat (k:Int)) n9)=0:=k0
       have hN:y6 h (l.getD k n9)=⟨h.roles++[(l.getD k n9).I4],h.authors,h.gauges,h.k9,h.active,h.entries⟩:=by unfold y6;  rw [if_pos k0]
       conv=>whnf
       (repeat' ((first|refine aU fun hh=>?_|refine aV fun hh=>?_|refine aS (fun hh=>?_) fun hh=>?_|refine kR ?_|((try refine Or.inl ?_;conv=>whnf);(try refine ⟨false,?_⟩;conv=>whnf);refine ⟨_,by exact c,?_⟩)|fail)<;>conv=>whnf))
       (refine Or.inr ⟨[],[],by kernel_rfl,?_⟩;(conv=>whnf);refine ⟨[38,88,89,90,91,92],_,_,_,_,⟨L3 true h (l.getD k n9) f1,rfl,rfl,by kernel_rfl⟩,?_⟩)
       conv=>whnf
       unfold B6 at kk
       (repeat' ((first|refine aU fun hh=>?_|refine aV fun hh=>?_|refine aS (fun hh=>?_) fun hh=>?_|refine kR ?_|fail)<;>conv=>whnf))
       (refine Or.inr ⟨[],[96],by kernel_rfl,?_⟩;(conv=>whnf);refine ⟨[38,88,89,90,91,92],_,_,_,_,⟨ra true h (l.getD k n9) k0 (by omega),rfl,rfl,by kernel_rfl⟩,?_⟩)
       conv=>whnf
       (repeat' ((first|refine aU fun hh=>?_|refine aV fun hh=>?_|refine aS (fun hh=>?_) fun hh=>?_|refine kR ?_|fail)<;>conv=>whnf))
       refine ⟨(k + 1,dg b (l.getD k n9),y6 h (l.getD k n9),true),?_⟩
       conv=>whnf
       refine kK ⟨⟨?_,?_⟩,?_,?_,rfl⟩
       ·show l.length - (k + 1) < l.length - k;omega
       ·exact O3 hI cD _ J true (fun z=>by cases z)
       ·show _=[i64 ((k + 1:Nat):Int)]
        rw [L9 _ (by omega) (by omega)];rfl
       ·show _=vW (dg b (l.getD k n9)) true (y6 h (l.getD k n9))
        rw [hN];rfl
      by_cases k1:B6 (l.getD k n9)=1
      ·have kk:B6 (l.getD (Int.toNat (k:Int)) n9)=1:=k1
       have hN:y6 h (l.getD k n9)=⟨h.roles,h.authors++[(l.getD k n9).b8],h.gauges++[(l.getD k n9).o6],h.k9++[[]],h.active,h.entries⟩:=by unfold y6;rw [if_neg k0];rw [if_pos k1]
       conv=>whnf
       (repeat' ((first|refine aU fun hh=>?_|refine aV fun hh=>?_|refine aS (fun hh=>?_) fun hh=>?_|refine kR ?_|((try refine Or.inl ?_;conv=>whnf);(try refine ⟨false,?_⟩;conv=>whnf);refine ⟨_,by exact c,?_⟩)|fail)<;>conv=>whnf))
       (refine Or.inr ⟨[],[],by kernel_rfl,?_⟩;(conv=>whnf);refine ⟨[38,88,89,90,91,92],_,_,_,_,⟨L3 true h (l.getD k n9) f1,rfl,rfl,by kernel_rfl⟩,?_⟩)
       conv=>whnf
       unfold B6 at kk
       (repeat' ((first|refine aU fun hh=>?_|refine aV fun hh=>?_|refine aS (fun hh=>?_) fun hh=>?_|refine kR ?_|fail)<;>conv=>whnf))
       (refine Or.inr ⟨[],[96,97,98],by kernel_rfl,?_⟩;(conv=>whnf);refine ⟨[38,88,89,90,91,92],_,_,_,_,⟨ri true h (l.getD k n9) k1 dY (by omega) (by omega) (by omega),rfl,rfl,by kernel_rfl⟩,?_⟩)
       conv=>whnf
       (repeat' ((first|refine aU fun hh=>?_|refine aV fun hh=>?_|refine aS (fun hh=>?_) fun hh=>?_|refine kR ?_|fail)<;>conv=>whnf))
       refine ⟨(k + 1,dg b (l.getD k n9),y6 h (l.getD k n9),true),?_⟩
       conv=>whnf
       refine kK ⟨⟨?_,?_⟩,?_,?_,rfl⟩
       ·show l.length - (k + 1) < l.length - k;omega
       ·exact O3 hI cD _ J true (fun z=>by cases z)
       ·show _=[i64 ((k + 1:Nat):Int)]
        rw [L9 _ (by omega) (by omega)];rfl
       ·show _=vW (dg b (l.getD k n9)) true (y6 h (l.getD k n9))
        rw [hN];rfl
      by_cases k2:B6 (l.getD k n9)=2
      ·have kk:B6 (l.getD (Int.toNat (k:Int)) n9)=2:=k2
       have hN:y6 h (l.getD k n9)=⟨h.roles,h.authors,h.gauges,h.k9.set (l.getD k n9).a8.toNat (Y3 (h.k9.getD (l.getD k n9).a8.toNat []) (l.getD k n9).b8),h.active,h.entries⟩:=by unfold y6;rw [if_neg k0];rw [if_neg k1];rw [if_pos k2]
       have vY:=f1 (by omega)
       have FH:=Co (f2 k2).1 (f2 k2).2
       have Mb:∀ v ∈ h.k9.getD (l.getD k n9).a8.toNat [],(Lit.int .i64 v).wf=true:=fun v hv=>by
        have hi:(l.getD k n9).a8.toNat < b.a7.length:=by omega
        have z:=T6 ((cI I.g hi).2.1 v ((I.am _ hi v).1 hv)).2
        exact Co z.1 (by omega)
       conv=>whnf
       (repeat' ((first|refine aU fun hh=>?_|refine aV fun hh=>?_|refine aS (fun hh=>?_) fun hh=>?_|refine kR ?_|((try refine Or.inl ?_;conv=>whnf);(try refine ⟨false,?_⟩;conv=>whnf);refine ⟨_,by exact c,?_⟩)|fail)<;>conv=>whnf))
       (refine Or.inr ⟨[],[],by kernel_rfl,?_⟩;(conv=>whnf);refine ⟨[38,88,89,90,91,92],_,_,_,_,⟨L3 true h (l.getD k n9) f1,rfl,rfl,by kernel_rfl⟩,?_⟩)
       conv=>whnf
       unfold B6 at kk
       (repeat' ((first|refine aU fun hh=>?_|refine aV fun hh=>?_|refine aS (fun hh=>?_) fun hh=>?_|refine kR ?_|fail)<;>conv=>whnf))
       (refine Or.inr ⟨[],[],by kernel_rfl,?_⟩;(conv=>whnf);refine ⟨[38,88,89,90,91,92],_,_,_,_,⟨vV h (l.getD k n9) k2 vY.1 (by omega) Mb FH,rfl,rfl,by kernel_rfl⟩,?_⟩)
       conv=>whnf
       (repeat' ((first|refine aU fun hh=>?_|refine aV fun hh=>?_|refine aS (fun hh=>?_) fun hh=>?_|refine kR ?_|fail)<;>conv=>whnf))
       refine ⟨(k + 1,dg b (l.getD k n9),y6 h (l.getD k n9),true),?_⟩
       conv=>whnf
       refine kK ⟨⟨?_,?_⟩,?_,?_,rfl⟩
       ·show l.length - (k + 1) < l.length - k;omega
       ·exact O3 hI cD _ J true (fun z=>by cases z)
       ·show _=[i64 ((k + 1:Nat):Int)]
        rw [L9 _ (by omega) (by omega)];rfl
       ·show _=vW (dg b (l.getD k n9)) true (y6 h (l.getD k n9))
        rw [hN];rfl
      by_cases k3:B6 (l.getD k n9)=3
      ·have kk:B6 (l.getD (Int.toNat (k:Int)) n9)=3:=k3
       have hN:y6 h (l.getD k n9)=⟨h.roles,h.authors,h.gauges,h.k9,(l.getD k n9).a8,h.entries⟩:=by unfold y6;rw [if_neg k0];rw [if_neg k1];rw [if_neg k2];rw [if_pos k3]
       have vY:=f1 (by omega)
       have hT:=f3 k3
       conv=>whnf
       (repeat' ((first|refine aU fun hh=>?_|refine aV fun hh=>?_|refine aS (fun hh=>?_) fun hh=>?_|refine kR ?_|((try refine Or.inl ?_;conv=>whnf);(try refine ⟨false,?_⟩;conv=>whnf);refine ⟨_,by exact c,?_⟩)|fail)<;>conv=>whnf))
       (refine Or.inr ⟨[],[],by kernel_rfl,?_⟩;(conv=>whnf);refine ⟨[38,88,89,90,91,92],_,_,_,_,⟨L3 true h (l.getD k n9) f1,rfl,rfl,by kernel_rfl⟩,?_⟩)
       conv=>whnf
       unfold B6 at kk
       (repeat' ((first|refine aU fun hh=>?_|refine aV fun hh=>?_|refine aS (fun hh=>?_) fun hh=>?_|refine kR ?_|fail)<;>conv=>whnf))
       (refine Or.inr ⟨[],[],by kernel_rfl,?_⟩;(conv=>whnf);refine ⟨[38,88,89,90,91,92],_,_,_,_,⟨iw h (l.getD k n9).a8 hT (by omega) (by have:=h5 (l.getD k n9).a8.toNat;omega) (by omega),rfl,rfl,by kernel_rfl⟩,?_⟩)
       conv=>whnf
       (repeat' ((first|refine aU fun hh=>?_|refine aV fun hh=>?_|refine aS (fun hh=>?_) fun hh=>?_|refine kR ?_|fail)<;>conv=>whnf))
       (refine Or.inr ⟨[],[],by kernel_rfl,?_⟩;(conv=>whnf);refine ⟨[38,88,89,90,91,92],_,_,_,_,⟨zx true h (l.getD k n9) k3,rfl,rfl,by kernel_rfl⟩,?_⟩)
       conv=>whnf
       (repeat' ((first|refine aU fun hh=>?_|refine aV fun hh=>?_|refine aS (fun hh=>?_) fun hh=>?_|refine kR ?_|fail)<;>conv=>whnf))
       refine ⟨(k + 1,dg b (l.getD k n9),y6 h (l.getD k n9),true),?_⟩
       conv=>whnf
       refine kK ⟨⟨?_,?_⟩,?_,?_,rfl⟩
       ·show l.length - (k + 1) < l.length - k;omega
       ·exact O3 hI cD _ J true (fun z=>by cases z)
       ·show _=[i64 ((k + 1:Nat):Int)]
        rw [L9 _ (by omega) (by omega)];rfl
       ·show _=vW (dg b (l.getD k n9)) true (y6 h (l.getD k n9))
        rw [hN];rfl
      by_cases k4:B6 (l.getD k n9)=4
      ·have kk:B6 (l.getD (Int.toNat (k:Int)) n9)=4:=k4
       have hN:y6 h (l.getD k n9)=⟨h.roles,h.authors,h.gauges,h.k9,-1,h.entries⟩:=by unfold y6;rw [if_neg k0];rw [if_neg k1];rw [if_neg k2];rw [if_neg k3];rw [if_pos k4]
       conv=>whnf
       (repeat' ((first|refine aU fun hh=>?_|refine aV fun hh=>?_|refine aS (fun hh=>?_) fun hh=>?_|refine kR ?_|((try refine Or.inl ?_;conv=>whnf);(try refine ⟨false,?_⟩;conv=>whnf);refine ⟨_,by exact c,?_⟩)|fail)<;>conv=>whnf))
       (refine Or.inr ⟨[],[],by kernel_rfl,?_⟩;(conv=>whnf);refine ⟨[38,88,89,90,91,92],_,_,_,_,⟨L3 true h (l.getD k n9) f1,rfl,rfl,by kernel_rfl⟩,?_⟩)
       conv=>whnf
       unfold B6 at kk
       (repeat' ((first|refine aU fun hh=>?_|refine aV fun hh=>?_|refine aS (fun hh=>?_) fun hh=>?_|refine kR ?_|fail)<;>conv=>whnf))
       (refine Or.inr ⟨[],[],by kernel_rfl,?_⟩;(conv=>whnf);refine ⟨[38,88,89,90,91,92],_,_,_,_,⟨rb true h (l.getD k n9) k4,rfl,rfl,by kernel_rfl⟩,?_⟩)
       conv=>whnf
       (repeat' ((first|refine aU fun hh=>?_|refine aV fun hh=>?_|refine aS (fun hh=>?_) fun hh=>?_|refine kR ?_|fail)<;>conv=>whnf))
       refine ⟨(k + 1,dg b (l.getD k n9),y6 h (l.getD k n9),true),?_⟩
       conv=>whnf
       refine kK ⟨⟨?_,?_⟩,?_,?_,rfl⟩
       ·show l.length - (k + 1) < l.length - k;omega
       ·exact O3 hI cD _ J true (fun z=>by cases z)
       ·show _=[i64 ((k + 1:Nat):Int)]
        rw [L9 _ (by omega) (by omega)];rfl
       ·show _=vW (dg b (l.getD k n9)) true (y6 h (l.getD k n9))
        rw [hN];rfl
      by_cases k5:B6 (l.getD k n9)=5
      ·have kk:B6 (l.getD (Int.toNat (k:Int)) n9)=5:=k5
       have hN:y6 h (l.getD k n9)=⟨h.roles,h.authors,h.gauges,h.k9,h.active,h.entries++[h.active]⟩:=by unfold y6;rw [if_neg k0];rw [if_neg k1];rw [if_neg k2];rw [if_neg k3];rw [if_neg k4];rw [if_pos k5]
       have Ma:=f5 k5
       conv=>whnf
       (repeat' ((first|refine aU fun hh=>?_|refine aV fun hh=>?_|refine aS (fun hh=>?_) fun hh=>?_|refine kR ?_|((try refine Or.inl ?_;conv=>whnf);(try refine ⟨false,?_⟩;conv=>whnf);refine ⟨_,by exact c,?_⟩)|fail)<;>conv=>whnf))
       (refine Or.inr ⟨[],[],by kernel_rfl,?_⟩;(conv=>whnf);refine ⟨[38,88,89,90,91,92],_,_,_,_,⟨L3 true h (l.getD k n9) f1,rfl,rfl,by kernel_rfl⟩,?_⟩)
       conv=>whnf
       unfold B6 at kk
       (repeat' ((first|refine aU fun hh=>?_|refine aV fun hh=>?_|refine aS (fun hh=>?_) fun hh=>?_|refine kR ?_|fail)<;>conv=>whnf))
       (refine Or.inr ⟨[],[96],by kernel_rfl,?_⟩;(conv=>whnf);refine ⟨[38,88,89,90,91,92],_,_,_,_,⟨rf true h (l.getD k n9) k5 (by omega),rfl,rfl,by kernel_rfl⟩,?_⟩)
       conv=>whnf
       (repeat' ((first|refine aU fun hh=>?_|refine aV fun hh=>?_|refine aS (fun hh=>?_) fun hh=>?_|refine kR ?_|fail)<;>conv=>whnf))
       refine ⟨(k + 1,dg b (l.getD k n9),y6 h (l.getD k n9),true),?_⟩
       conv=>whnf
       refine kK ⟨⟨?_,?_⟩,?_,?_,rfl⟩
       ·show l.length - (k + 1) < l.length - k;omega
       ·exact O3 hI cD _ J true (fun z=>by cases z)
       ·show _=[i64 ((k + 1:Nat):Int)]
        rw [L9 _ (by omega) (by omega)];rfl
       ·show _=vW (dg b (l.getD k n9)) true (y6 h (l.getD k n9))
        rw [hN];rfl
      have kk:¬B6 (l.getD (Int.toNat (k:Int)) n9)=0/\¬B6 (l.getD (Int.toNat (k:Int)) n9)=1/\¬B6 (l.getD (Int.toNat (k:Int)) n9)=2/\¬B6 (l.getD (Int.toNat (k:Int)) n9)=3/\¬B6 (l.getD (Int.toNat (k:Int)) n9)=4/\¬B6 (l.getD (Int.toNat (k:Int)) n9)=5:=⟨k0,k1,k2,k3,k4,k5⟩
      have hN:y6 h (l.getD k n9)=h:=by unfold y6;rw [if_neg k0,if_neg k1,if_neg k2,if_neg k3,if_neg k4,if_neg k5]
      conv=>whnf
      (repeat' ((first|refine aU fun hh=>?_|refine aV fun hh=>?_|refine aS (fun hh=>?_) fun hh=>?_|refine kR ?_|((try refine Or.inl ?_;conv=>whnf);(try refine ⟨false,?_⟩;conv=>whnf);refine ⟨_,by exact c,?_⟩)|fail)<;>conv=>whnf))
      (refine Or.inr ⟨[],[],by kernel_rfl,?_⟩;(conv=>whnf);refine ⟨[38,88,89,90,91,92],_,_,_,_,⟨L3 true h (l.getD k n9) f1,rfl,rfl,by kernel_rfl⟩,?_⟩)
      conv=>whnf
      unfold B6 at kk
      (repeat' ((first|refine aU fun hh=>?_|refine aV fun hh=>?_|refine aS (fun hh=>?_) fun hh=>?_|refine kR ?_|fail)<;>conv=>whnf))
      (refine Or.inr ⟨[],[],by kernel_rfl,?_⟩;(conv=>whnf);refine ⟨[38,88,89,90,91,92],_,_,_,_,⟨rh true h (l.getD k n9) ⟨k0,k1,k2,k3,k4,k5⟩,rfl,rfl,by kernel_rfl⟩,?_⟩)
      conv=>whnf
      (repeat' ((first|refine aU fun hh=>?_|refine aV fun hh=>?_|refine aS (fun hh=>?_) fun hh=>?_|refine kR ?_|fail)<;>conv=>whnf))
      refine ⟨(k + 1,dg b (l.getD k n9),y6 h (l.getD k n9),true),?_⟩
      conv=>whnf
      refine kK ⟨⟨?_,?_⟩,?_,?_,rfl⟩
      ·show l.length - (k + 1) < l.length - k;omega
      ·exact O3 hI cD _ J true (fun z=>by cases z)
      ·show _=[i64 ((k + 1:Nat):Int)]
       rw [L9 _ (by omega) (by omega)];rfl
      ·show _=vW (dg b (l.getD k n9)) true (y6 h (l.getD k n9))
       rw [hN];rfl
     ·have c:=mP b o (l.getD k n9) zD e
      conv=>whnf
      (repeat' ((first|refine aU fun hh=>?_|refine aV fun hh=>?_|refine aS (fun hh=>?_) fun hh=>?_|refine kR ?_|((try refine Or.inl ?_;conv=>whnf);(try refine ⟨false,?_⟩;conv=>whnf);refine ⟨_,by exact c,?_⟩)|fail)<;>conv=>whnf))
      refine ⟨(k + 1,b,h,true),?_⟩
      conv=>whnf
      refine kK ⟨⟨?_,?_⟩,?_,rfl,rfl⟩
      ·show l.length - (k + 1) < l.length - k;omega
      ·exact ⟨cD,I,dY,by show h.entries.length<=k + 1;omega,fun i=>by have:=h5 i;show (h.k9.getD i []).length<=k + 1;omega⟩
      ·show _=[i64 ((k + 1:Nat):Int)]
       rw [L9 _ (by omega) (by omega)];rfl
    ·(conv=>whnf)
     have nx:=I.nx
     (repeat' ((first|refine aU fun hh=>?_|refine aV fun hh=>?_|refine aS (fun hh=>?_) fun hh=>?_|refine kR ?_|fail)<;>conv=>whnf))
     refine Or.inr ⟨Nat,[110],[],[],fun i=>[i64 i],fun _=>[],fun _=>[],fun i=>b.log.length - i,fun i=>i<=b.log.length,?_⟩
     conv=>whnf
     refine ⟨⟨0,?_⟩,?_⟩
     ·(conv=>whnf)
      exact kK ⟨Nat.zero_le _,rfl,rfl,rfl⟩
     intro i hi
     by_cases Ji:i < b.log.length
     ·obtain ⟨q1,q2,q3,q4,q5,q6,q7,q8,q9⟩:=uf I (i:=Int.toNat (i:Int)) Ji
      have me:=Y5 (h.gauges.getD (b.log.getD (Int.toNat (i:Int)) o8).recipe.toNat dV) (b.log.getD (Int.toNat (i:Int)) o8).j8 (R4 (o.p _))
      rw [q6,q7] at me
      have rp:=mM b o (b.log.getD (Int.toNat (i:Int)) o8).seq
      have hc:=kM.2 I.g
      unfold DT DS at rp
      rw [if_pos hc,if_pos hc,if_pos q8,if_pos q8,q9] at rp
      have Mz:=q3.1
      have nl:=I.g.nl
      have kp:=I.g.kp
      have g1:=congrArg K4 q5
      have g2:=congrArg J2 q5
      have g3:=congrArg (fun z:H4=>(K7 z).1.1) q5
      have g4:=congrArg (fun z:H4=>(K7 z).1.2) q5
      have g5:=congrArg (fun z:H4=>(K7 z).2.1) q5
      have g6:=congrArg (fun z:H4=>(K7 z).2.2) q5
      have g7:=congrArg (fun z:H4=>z.1.2.1) q5
      have g8:=congrArg (fun z:H4=>z.1.2.2) q5
      have g9:=congrArg (fun z:H4=>z.2.1) q5
      have MA:=congrArg (fun z:H4=>z.2.2) q5
      conv=>whnf
      (repeat' ((first|refine aU fun hh=>?_|refine aV fun hh=>?_|refine aS (fun hh=>?_) fun hh=>?_|refine kT ?_|fail)<;>conv=>whnf))
      refine ⟨_,_,yG (ids:=[38,88,89,90,91,92]) (iw h (b.log.getD (Int.toNat (i:Int)) o8).recipe q3 (by omega) (by have:=h5 (b.log.getD (Int.toNat (i:Int)) o8).recipe.toNat;omega) (by omega)) rfl rfl rfl rfl rfl (by kernel_rfl),?_⟩
      conv=>whnf
      (repeat' ((first|refine aU fun hh=>?_|refine aV fun hh=>?_|refine aS (fun hh=>?_) fun hh=>?_|refine kT ?_|((try refine Or.inl ?_;conv=>whnf);(try refine ⟨false,?_⟩;conv=>whnf);refine ⟨_,by first|exact me|exact rp,?_⟩)|fail)<;>conv=>whnf))
      ·exfalso
       rcases hh with z|z|z|z|z|z|z|z|z|z|z<;>first|exact z (by omega)|cases z
      refine ⟨i + 1,?_⟩
      conv=>whnf
      refine kK ⟨⟨?_,?_⟩,?_,rfl,rfl⟩
      ·show b.log.length - (i + 1) < b.log.length - i;omega
      ·show i + 1<=b.log.length;omega
      ·rw [L9 _ (by omega) (by omega)];rfl
     ·have nl:=I.g.nl
      have kp:=I.g.kp
      conv=>whnf
      (repeat' ((first|refine aU fun hh=>?_|refine aV fun hh=>?_|refine aS (fun hh=>?_) fun hh=>?_|refine kR ?_|fail)<;>conv=>whnf))
      all_goals rfl
  ·have lt:=zB l hl
   refine pF Tryz.func3 ?_
   conv=>whnf
   (repeat' ((first|refine u6 ?_|refine u7 ?_|((try refine Or.inl ?_;conv=>whnf);(try refine ⟨false,?_⟩;conv=>whnf);refine ⟨_,by first|exact al|exact nw|exact lt,?_⟩)|refine lD ?_|refine lN ?_|refine kL ?_|fail);conv=>whnf))
   all_goals rfl
 ·rw [if_neg hk,if_neg hk] at nw
  refine pF Tryz.func3 ?_
  conv=>whnf
  (repeat' ((first|refine u6 ?_|refine u7 ?_|((try refine Or.inl ?_;conv=>whnf);(try refine ⟨false,?_⟩;conv=>whnf);refine ⟨_,by first|exact al|exact nw,?_⟩)|refine lD ?_|refine lN ?_|refine kL ?_|fail);conv=>whnf))
  all_goals rfl

end Go.Proofs.Tryz.My
