/- Helper lemmas. -/
import Derived.Test.YtdpnpdjnaimgaaaGreatMzWuA
import Derived.Test.YtdpnpdjnaimgaaaGreatMzWxR
import Derived.Test.YtdpnpdjnaimgaaaGreatMzWxS
set_option linter.unusedVariables false
set_option linter.unusedSimpArgs false
set_option maxRecDepth 100000
set_option maxHeartbeats 0
namespace Go.Proofs.Tryz.My
open Go Go.Ev
theorem ld (o:r8):∀ (l:List r8) (b:G4) (w:n9),E3 b w (l++[o])=mS (E3 b w l) (N3 w l) o
 | [],_,_=>rfl
 | x :: l,b,w=>ld o l (mS b w x) (Q6 w x)
theorem Pq (b:G4) (w:n9) (o:r8):(mS b w o).gauges.length<=b.gauges.length + 1/\(mS b w o).pieces.length<=b.pieces.length + 1:=by
 unfold mS
 split
 ·unfold DH iu
  split
  ·exact ⟨by show (b.gauges++[o.b9]).length<=_;simp,Nat.le_succ _⟩
  ·split
   ·exact ⟨Nat.le_succ _,Nat.le_succ _⟩
   ·split
    ·exact ⟨Nat.le_succ _,Nat.le_succ _⟩
    ·split
     ·exact ⟨Nat.le_succ _,Nat.le_succ _⟩
     ·split
      ·split
       ·exact ⟨Nat.le_succ _,by show (b.pieces++[_]).length<=_;simp⟩
       ·exact ⟨Nat.le_succ _,by show (b.pieces++[_]).length<=_;simp⟩
      ·exact ⟨Nat.le_succ _,Nat.le_succ _⟩
 ·exact ⟨Nat.le_succ _,Nat.le_succ _⟩
theorem bK:∀ (l:List r8) (b:G4) (w:n9),(E3 b w l).gauges.length<=b.gauges.length + l.length/\(E3 b w l).pieces.length<=b.pieces.length + l.length
 | [],_,_=>⟨Nat.le_refl _,Nat.le_refl _⟩
 | x :: l,b,w=>by
  have h:=bK l (mS b w x) (Q6 w x)
  have k:=Pq b w x
  have e:(x :: l).length=l.length + 1:=rfl
  rw [e]
  exact ⟨Nat.le_trans h.1 (by omega),Nat.le_trans h.2 (by omega)⟩
abbrev kG:Nat:=16 + 65536 * (1 + 24 + 4096 * 10)
abbrev kP:Nat:=17 + 65536 * (1 + 24 + 4096 * 12)
abbrev kO:Nat:=18 + 65536 * (1 + 24 + 4096 * 16)
theorem mX (l:A5) (os:List r8) (h:J3 l=0) (hle:os.length<=500) (hk:∀ i,pz (os.getD i B7)) (hv:os.all B2=true):PW Tryz.prog 47 [jP l,cG os] [] (.tup [.ptr 0 0 0 0,.bool true]) (XZ (E3 (H9 l) (I8 l) os) (N3 (I8 l) os)):=by
 have c1:=mV l h
 have cs:=W7
 have t0:=dx h
 have vo:∀ k,k < os.length->B2 (os.getD k B7)=true:=fun k hk=>by
  rw [x9 hk]
  exact List.all_eq_true.1 hv _ (List.getElem_mem hk)
 have tk:∀ k,Told l (N3 (I8 l) (os.take k)) (E3 (H9 l) (I8 l) (os.take k)):=fun k=>aK t0 fun o ho=>List.all_eq_true.1 hv _ (List.mem_of_mem_take ho)
 have bl:=fun k=>bK (os.take k) (H9 l) (I8 l)
 have le:(E3 (H9 l) (I8 l) os).n7.length<=(E3 (H9 l) (I8 l) os).pieces.length:=by
  have t:=(aK (os:=os) t0 fun o ho=>List.all_eq_true.1 hv _ ho).le
  omega
 generalize SK:I8 l=w0 at *
 refine pW Tryz.func47 ⟨by kernel_rfl,?_⟩
 conv=>whnf
 (repeat' ((first|refine aU fun hh=>?_|refine aV fun hh=>?_|refine aS (fun hh=>?_) fun hh=>?_|refine kR ?_|((try refine Or.inl ?_;conv=>whnf);(try refine ⟨false,?_⟩;conv=>whnf);refine ⟨_,by first|exact c1|exact cs,?_⟩)|fail)<;>conv=>whnf))
 refine Or.inr ⟨Nat,[27],[24,6,16,17,18],[(kG,⟨x8,59,10,ao,eG⟩),(kP,⟨G2,113,29,A1,uk⟩),(kO,⟨V5,83,5,K4,bE⟩)],fun k=>[i64 k],fun k=>[tq 16 17 18 (E3 (H9 l) w0 (os.take k)),.cells 42 (eW (N3 w0 (os.take k))),tp (E3 (H9 l) w0 (os.take k)),yi (E3 (H9 l) w0 (os.take k)),DY (E3 (H9 l) w0 (os.take k))],fun k=>[.none,.none,.none],fun k=>os.length - k,fun k=>k<=os.length,?_⟩
 conv=>whnf
 refine ⟨⟨0,?_⟩,?_⟩
 ·(conv=>whnf)
  exact kK ⟨Nat.zero_le _,rfl,rfl,rfl⟩
 intro k Pl
 conv=>whnf
 refine ⟨fun q=>?_,fun q=>?_⟩
 ·have q:=of_decide_eq_true q
  have L7:k < os.length:=by omega
  have t:=tk k
  have bk:=bl k
  have sw:=fS (os.getD k B7) (os.take k) w0
  have sb:=ld (os.getD k B7) (os.take k) (H9 l) w0
  rw [<- bJ L7] at sw sb
  have hs:Mc (E3 (H9 l) w0 (os.take k)):=by
   have e1:(H9 l).gauges.length=0:=rfl
   have e2:(H9 l).pieces.length=0:=rfl
   have e3:=t.le
   rw [e1,e2,List.length_take] at bk
   exact ⟨by omega,by omega,by omega⟩
  have ho:=vo k L7
  have c2:=mT (N3 w0 (os.take k)) t.gw (os.getD k B7) ho (hk k).t (hk k).n (hk k).r
  have Ur:1<=(os.getD k B7).kind/\(os.getD k B7).kind<=10:=by
   unfold B2 at ho
   simp only [Bool.and_eq_true,decide_eq_true_eq] at ho
   exact ho.1.1
  clear tk bl bk le
  generalize N3 w0 (os.take k)=u at t sw sb c2
  generalize E3 (H9 l) w0 (os.take k)=b at t sb hs
  by_cases g1:K0 u (os.getD k B7)=0/\(os.getD k B7).kind=2
  ·have cr:=Mg t (os.getD k B7) hs g1.1 g1.2
   conv=>whnf
   (repeat' ((first|refine aU fun hh=>?_|refine aV fun hh=>?_|refine aS (fun hh=>?_) fun hh=>?_|refine kT ?_|((try refine Or.inl ?_;conv=>whnf);(try refine ⟨false,?_⟩;conv=>whnf);refine ⟨_,by exact c2,?_⟩)|fail)<;>conv=>whnf))
   all_goals
    (refine Or.inr ⟨[],[53,54],by kernel_rfl,?_⟩;(conv=>whnf);refine ⟨[24,16,17,18],_,_,_,_,⟨cr,rfl,rfl,by kernel_rfl⟩,?_⟩)
    conv=>whnf
    (repeat' ((first|refine aU fun hh=>?_|refine aV fun hh=>?_|refine aS (fun hh=>?_) fun hh=>?_|refine kT ?_|fail)<;>conv=>whnf))
    refine ⟨k + 1,?_⟩
    conv=>whnf
    refine kK ⟨⟨?_,?_⟩,?_,?_,rfl⟩
    ·show os.length - (k + 1) < os.length - k;omega
    ·show k + 1<=os.length;omega
    ·rw [C7 _ (by omega) (by omega)];rfl
    ·show _=[tq 16 17 18 (E3 (H9 l) w0 (os.take (k + 1))),Row.cells 42 (eW (N3 w0 (os.take (k + 1)))),tp (E3 (H9 l) w0 (os.take (k + 1))),yi (E3 (H9 l) w0 (os.take (k + 1))),DY (E3 (H9 l) w0 (os.take (k + 1)))]
     rw [sw,sb]<;>rfl
  ·by_cases g2:K0 u (os.getD k B7)=0/\(os.getD k B7).kind=4
   ·have cr:=Mf (w:=u) (b:=b) (os.getD k B7) hs g2.1 g2.2
    conv=>whnf
    (repeat' ((first|refine aU fun hh=>?_|refine aV fun hh=>?_|refine aS (fun hh=>?_) fun hh=>?_|refine kT ?_|((try refine Or.inl ?_;conv=>whnf);(try refine ⟨false,?_⟩;conv=>whnf);refine ⟨_,by exact c2,?_⟩)|fail)<;>conv=>whnf))
    (refine Or.inr ⟨[],[53,54],by kernel_rfl,?_⟩;(conv=>whnf);refine ⟨[24,16,17,18],_,_,_,_,⟨cr,rfl,rfl,by kernel_rfl⟩,?_⟩)
    conv=>whnf
    (repeat' ((first|refine aU fun hh=>?_|refine aV fun hh=>?_|refine aS (fun hh=>?_) fun hh=>?_|refine kT ?_|fail)<;>conv=>whnf))
    refine ⟨k + 1,?_⟩
    conv=>whnf
    refine kK ⟨⟨?_,?_⟩,?_,?_,rfl⟩
    ·show os.length - (k + 1) < os.length - k;omega
    ·show k + 1<=os.length;omega
    ·rw [C7 _ (by omega) (by omega)];rfl
    ·show _=[tq 16 17 18 (E3 (H9 l) w0 (os.take (k + 1))),Row.cells 42 (eW (N3 w0 (os.take (k + 1)))),tp (E3 (H9 l) w0 (os.take (k + 1))),yi (E3 (H9 l) w0 (os.take (k + 1))),DY (E3 (H9 l) w0 (os.take (k + 1)))]
     rw [sw,sb]<;>rfl
   ·have cr:=Me t (os.getD k B7) Ur hs (fun q=>q.2.elim (fun e=>g1 ⟨q.1,e⟩) (fun e=>g2 ⟨q.1,e⟩))
    conv=>whnf
    (repeat' ((first|refine aU fun hh=>?_|refine aV fun hh=>?_|refine aS (fun hh=>?_) fun hh=>?_|refine kT ?_|((try refine Or.inl ?_;conv=>whnf);(try refine ⟨false,?_⟩;conv=>whnf);refine ⟨_,by exact c2,?_⟩)|fail)<;>conv=>whnf))
    (refine Or.inr ⟨[],[53],by kernel_rfl,?_⟩;(conv=>whnf);refine ⟨[24,16,17,18],_,_,_,_,⟨cr,rfl,rfl,by kernel_rfl⟩,?_⟩)
    conv=>whnf
    (repeat' ((first|refine aU fun hh=>?_|refine aV fun hh=>?_|refine aS (fun hh=>?_) fun hh=>?_|refine kT ?_|fail)<;>conv=>whnf))
    refine ⟨k + 1,?_⟩
    conv=>whnf
    refine kK ⟨⟨?_,?_⟩,?_,?_,rfl⟩
    ·show os.length - (k + 1) < os.length - k;omega
    ·show k + 1<=os.length;omega
    ·rw [C7 _ (by omega) (by omega)];rfl
    ·show _=[tq 16 17 18 (E3 (H9 l) w0 (os.take (k + 1))),Row.cells 42 (eW (N3 w0 (os.take (k + 1)))),tp (E3 (H9 l) w0 (os.take (k + 1))),yi (E3 (H9 l) w0 (os.take (k + 1))),DY (E3 (H9 l) w0 (os.take (k + 1)))]
     rw [sw,sb]<;>rfl
 ·have q:=of_decide_eq_false q
  have ek:os.take k=os:=List.take_of_length_le (by omega)
  rw [ek]
  clear tk bl
  generalize E3 (H9 l) w0 os=b at le ⊢
  conv=>whnf
  (repeat' ((first|refine aU fun hh=>?_|refine aV fun hh=>?_|refine aS (fun hh=>?_) fun hh=>?_|refine kT ?_|fail)<;>conv=>whnf))
  refine ⟨[24,16,17,18],by kernel_rfl,?_⟩
  conv=>whnf
  refine ⟨?_,rfl⟩
  show AV.tup [.ptr 24 0 0 0,.bool (decide ((b.n7.length:Int)<=(b.pieces.length:Nat)))]=_
  rw [decide_eq_true (by omega)]
  rfl
theorem aQ (l:A5) (os:List r8) (h:¬J3 l=0):PC Tryz.prog 47 [jP l,cG os] (.tup [.nilp,.bool true]):=by
 have c1:=je l h
 generalize J3 l=e at *
 refine pF Tryz.func47 ?_
 conv=>whnf
 (repeat' ((first|refine aU fun hh=>?_|refine aV fun hh=>?_|refine aS (fun hh=>?_) fun hh=>?_|refine kR ?_|((try refine Or.inl ?_;conv=>whnf);(try refine ⟨false,?_⟩;conv=>whnf);refine ⟨_,by exact c1,?_⟩)|fail)<;>conv=>whnf))
 all_goals rfl
theorem Y4 (l:A5) (os:List r8) (h:J3 l=0) (hle:os.length<=500) (hk:∀ i,pz (os.getD i B7)) (hv:¬os.all B2=true):PC Tryz.prog 47 [jP l,cG os] (.tup [.nilp,.bool true]):=by
 have c1:=mV l h
 have cs:=W7
 have t0:=dx h
 have bl:=fun k=>bK (os.take k) (H9 l) (I8 l)
 generalize SK:I8 l=w0 at *
 refine pF Tryz.func47 ?_
 conv=>whnf
 (repeat' ((first|refine aU fun hh=>?_|refine aV fun hh=>?_|refine aS (fun hh=>?_) fun hh=>?_|refine kR ?_|((try refine Or.inl ?_;conv=>whnf);(try refine ⟨false,?_⟩;conv=>whnf);refine ⟨_,by first|exact c1|exact cs,?_⟩)|fail)<;>conv=>whnf))
 refine Or.inr ⟨Nat,[27],[24,6,16,17,18],[(kG,⟨x8,59,10,ao,eG⟩),(kP,⟨G2,113,29,A1,uk⟩),(kO,⟨V5,83,5,K4,bE⟩)],fun k=>[i64 k],fun k=>[tq 16 17 18 (E3 (H9 l) w0 (os.take k)),.cells 42 (eW (N3 w0 (os.take k))),tp (E3 (H9 l) w0 (os.take k)),yi (E3 (H9 l) w0 (os.take k)),DY (E3 (H9 l) w0 (os.take k))],fun k=>[.none,.none,.none],fun k=>os.length - k,fun k=>k<=os.length/\(os.take k).all B2=true,?_⟩
 conv=>whnf
 refine ⟨⟨0,?_⟩,?_⟩
 ·(conv=>whnf)
  exact kK ⟨⟨Nat.zero_le _,rfl⟩,rfl,rfl,rfl⟩
 intro k hkI
 obtain ⟨Pl,VG⟩:=hkI
 conv=>whnf
 refine ⟨fun q=>?_,fun q=>?_⟩
 ·have q:=of_decide_eq_true q
  have L7:k < os.length:=by omega
  have t:Told l (N3 w0 (os.take k)) (E3 (H9 l) w0 (os.take k)):=aK t0 fun o ho=>List.all_eq_true.1 VG _ ho
  have gk:=t.gw
  have bk:=bl k
  have sw:=fS (os.getD k B7) (os.take k) w0
  have sb:=ld (os.getD k B7) (os.take k) (H9 l) w0
  rw [<- bJ L7] at sw sb
  have hs:Mc (E3 (H9 l) w0 (os.take k)):=by
   have e1:(H9 l).gauges.length=0:=rfl
   have e2:(H9 l).pieces.length=0:=rfl
   have e3:=t.le
   rw [e1,e2,List.length_take] at bk
   exact ⟨by omega,by omega,by omega⟩
  by_cases ho:B2 (os.getD k B7)=true
  ·have SC:(os.take (k + 1)).all B2=true:=by rw [bJ L7,List.all_append,VG,List.all_cons,List.all_nil,ho];rfl
   have c2:=mT (N3 w0 (os.take k)) t.gw (os.getD k B7) ho (hk k).t (hk k).n (hk k).r
   have Ur:1<=(os.getD k B7).kind/\(os.getD k B7).kind<=10:=by
    unfold B2 at ho
    simp only [Bool.and_eq_true,decide_eq_true_eq] at ho
    exact ho.1.1
   clear bl bk
   generalize N3 w0 (os.take k)=u at t sw sb c2
   generalize E3 (H9 l) w0 (os.take k)=b at t sb hs
   by_cases g1:K0 u (os.getD k B7)=0/\(os.getD k B7).kind=2
   ·have cr:=Mg t (os.getD k B7) hs g1.1 g1.2
    conv=>whnf
    (repeat' ((first|refine aU fun hh=>?_|refine aV fun hh=>?_|refine aS (fun hh=>?_) fun hh=>?_|refine kT ?_|((try refine Or.inl ?_;conv=>whnf);(try refine ⟨false,?_⟩;conv=>whnf);refine ⟨_,by exact c2,?_⟩)|fail)<;>conv=>whnf))
    all_goals
     (refine Or.inr ⟨[],[53,54],by kernel_rfl,?_⟩;(conv=>whnf);refine ⟨[24,16,17,18],_,_,_,_,⟨cr,rfl,rfl,by kernel_rfl⟩,?_⟩)
     conv=>whnf
     (repeat' ((first|refine aU fun hh=>?_|refine aV fun hh=>?_|refine aS (fun hh=>?_) fun hh=>?_|refine kT ?_|fail)<;>conv=>whnf))
     refine ⟨k + 1,?_⟩
     conv=>whnf
     refine kK ⟨⟨?_,?_,SC⟩,?_,?_,rfl⟩
     ·show os.length - (k + 1) < os.length - k;omega
     ·show k + 1<=os.length;omega
     ·rw [C7 _ (by omega) (by omega)];rfl
     ·show _=[tq 16 17 18 (E3 (H9 l) w0 (os.take (k + 1))),Row.cells 42 (eW (N3 w0 (os.take (k + 1)))),tp (E3 (H9 l) w0 (os.take (k + 1))),yi (E3 (H9 l) w0 (os.take (k + 1))),DY (E3 (H9 l) w0 (os.take (k + 1)))]
      rw [sw,sb]<;>rfl
   ·by_cases g2:K0 u (os.getD k B7)=0/\(os.getD k B7).kind=4
    ·have cr:=Mf (w:=u) (b:=b) (os.getD k B7) hs g2.1 g2.2
     conv=>whnf
     (repeat' ((first|refine aU fun hh=>?_|refine aV fun hh=>?_|refine aS (fun hh=>?_) fun hh=>?_|refine kT ?_|((try refine Or.inl ?_;conv=>whnf);(try refine ⟨false,?_⟩;conv=>whnf);refine ⟨_,by exact c2,?_⟩)|fail)<;>conv=>whnf))
     (refine Or.inr ⟨[],[53,54],by kernel_rfl,?_⟩;(conv=>whnf);refine ⟨[24,16,17,18],_,_,_,_,⟨cr,rfl,rfl,by kernel_rfl⟩,?_⟩)
     conv=>whnf
     (repeat' ((first|refine aU fun hh=>?_|refine aV fun hh=>?_|refine aS (fun hh=>?_) fun hh=>?_|refine kT ?_|fail)<;>conv=>whnf))
     refine ⟨k + 1,?_⟩
     conv=>whnf
     refine kK ⟨⟨?_,?_,SC⟩,?_,?_,rfl⟩
     ·show os.length - (k + 1) < os.length - k;omega
     ·show k + 1<=os.length;omega
     ·rw [C7 _ (by omega) (by omega)];rfl
     ·show _=[tq 16 17 18 (E3 (H9 l) w0 (os.take (k + 1))),Row.cells 42 (eW (N3 w0 (os.take (k + 1)))),tp (E3 (H9 l) w0 (os.take (k + 1))),yi (E3 (H9 l) w0 (os.take (k + 1))),DY (E3 (H9 l) w0 (os.take (k + 1)))]
      rw [sw,sb]<;>rfl
    ·have cr:=Me t (os.getD k B7) Ur hs (fun q=>q.2.elim (fun e=>g1 ⟨q.1,e⟩) (fun e=>g2 ⟨q.1,e⟩))
     conv=>whnf
     (repeat' ((first|refine aU fun hh=>?_|refine aV fun hh=>?_|refine aS (fun hh=>?_) fun hh=>?_|refine kT ?_|((try refine Or.inl ?_;conv=>whnf);(try refine ⟨false,?_⟩;conv=>whnf);refine ⟨_,by exact c2,?_⟩)|fail)<;>conv=>whnf))
     (refine Or.inr ⟨[],[53],by kernel_rfl,?_⟩;(conv=>whnf);refine ⟨[24,16,17,18],_,_,_,_,⟨cr,rfl,rfl,by kernel_rfl⟩,?_⟩)
     conv=>whnf
     (repeat' ((first|refine aU fun hh=>?_|refine aV fun hh=>?_|refine aS (fun hh=>?_) fun hh=>?_|refine kT ?_|fail)<;>conv=>whnf))
     refine ⟨k + 1,?_⟩
     conv=>whnf
     refine kK ⟨⟨?_,?_,SC⟩,?_,?_,rfl⟩
     ·show os.length - (k + 1) < os.length - k;omega
     ·show k + 1<=os.length;omega
     ·rw [C7 _ (by omega) (by omega)];rfl
     ·show _=[tq 16 17 18 (E3 (H9 l) w0 (os.take (k + 1))),Row.cells 42 (eW (N3 w0 (os.take (k + 1)))),tp (E3 (H9 l) w0 (os.take (k + 1))),yi (E3 (H9 l) w0 (os.take (k + 1))),DY (E3 (H9 l) w0 (os.take (k + 1)))]
      rw [sw,sb]<;>rfl
  ·have c2:=eY (N3 w0 (os.take k)) gk (os.getD k B7) ho (hk k).t (hk k).n (hk k).r
   have c3:=ug (os.getD k B7) (hk k).t (hk k).n
   have e3:B2 (os.getD k B7)=false:=by simpa using ho
   rw [e3] at c3
   clear bl bk sw sb t
   generalize N3 w0 (os.take k)=u at *
   generalize E3 (H9 l) w0 (os.take k)=b at *
   conv=>whnf
   (repeat' ((first|refine aU fun hh=>?_|refine aV fun hh=>?_|refine aS (fun hh=>?_) fun hh=>?_|refine kT ?_|((try refine Or.inl ?_;conv=>whnf);(try refine ⟨false,?_⟩;conv=>whnf);refine ⟨_,by first|exact c2|exact c3,?_⟩)|fail)<;>conv=>whnf))
   all_goals rfl
 ·have q:=of_decide_eq_false q
  have ek:os.take k=os:=List.take_of_length_le (by omega)
  rw [ek] at VG
  exact absurd VG hv
def SD (os:List r8):Prop:=(∀ o,o ∈ os->IG o.b9/\0<=o.kind/\(0<=o.j9/\o.j9<=255))/\os.length<=maxLen
theorem fU {os:List r8} (hI:SD os) (hL:O3 os=false) (h2:os.length<=200) (i:Nat):pz (os.getD i B7):=by
 by_cases hi:i < os.length
 ·have hg:Z6 (os.getD i B7)=false:=by
   unfold O3 at hL
   rw [Bool.or_eq_false_iff] at hL
   have:=List.any_eq_false.1 hL.1 (os.getD i B7) (by rw [List.take_of_length_le (by omega),x9 hi];exact List.getElem_mem hi)
   simpa using this
  have hr:=(hI.1 (os.getD i B7) (by rw [x9 hi];exact List.getElem_mem hi)).2.2
  unfold Z6 at hg
  have hg:=of_decide_eq_false hg
  exact ⟨by omega,by omega,hr⟩
 ·have e:os.getD i B7=B7:=by simp [List.getD,List.getElem?_eq_none (Nat.le_of_not_lt hi)]
  rw [e];exact ⟨by decide,by decide,by decide⟩
def ti (N x:Int):Bool:=decide (N < x) || decide (x < -N)
theorem Mm (n:List Int) (g:x8) (hn:n.length < 2 ^ 40) (hN : -1000000<=D9 g/\D9 g<=1000000):PC Tryz.prog 49 [C8 n,Ta g] (.bool (!n.any (ti (D9 g)))):=by
 have w1:IntKind.i64.wrap (0 - D9 g) = -D9 g:=(C7 _ (by omega) (by omega)).trans (by omega)
 refine pF Tryz.func49 ?_
 conv=>whnf
 refine Or.inr ⟨Nat,[9],[],[],fun k=>[i64 k],fun _=>[],fun _=>[],fun k=>n.length - k,fun k=>k<=n.length/\∀ i,i < k->ti (D9 g) (n.getD i 0)=false,?_⟩
 conv=>whnf
 refine ⟨⟨0,?_⟩,?_⟩
 ·(conv=>whnf)
  exact kK ⟨⟨Nat.zero_le _,fun j hj=>absurd hj (Nat.not_lt_zero j)⟩,rfl,rfl,rfl⟩
 rintro k ⟨hk,hq⟩
 conv=>whnf
 refine ⟨fun q=>?_,fun q=>?_⟩
 ·have q:=of_decide_eq_true q
  have L7:k < n.length:=by omega
  have SE:ti (D9 g) (n.getD k 0)=true->AV.bool false=AV.bool (!n.any (ti (D9 g))):=fun e=>by
   have:n.any (ti (D9 g))=true:=List.any_eq_true.2 ⟨n.getD k 0,by rw [x9 L7];exact List.getElem_mem L7,e⟩
   rw [this];rfl
  have hd:ti (D9 g) (n.getD k 0)=(decide (D9 g < n.getD k 0) || decide (n.getD k 0 < IntKind.i64.wrap (0 - D9 g))):=by rw [w1];rfl
  rw [hd] at SE
  conv=>whnf
  (repeat' ((first|refine aU fun hh=>?_|refine aV fun hh=>?_|refine aS (fun hh=>?_) fun hh=>?_|refine kT ?_|fail)<;>conv=>whnf))
  ·have e:decide (D9 g < n.getD k 0)=true:=decide_eq_true (by assumption)
   exact SE (by rw [e];rfl)
  ·have e:decide (n.getD k 0 < IntKind.i64.wrap (0 - D9 g))=true:=decide_eq_true (by assumption)
   exact SE (by rw [e];simp)
  ·have a1:decide (D9 g < n.getD k 0)=false:=decide_eq_false (by assumption)
   have a2:decide (n.getD k 0 < IntKind.i64.wrap (0 - D9 g))=false:=decide_eq_false (by assumption)
   refine ⟨k + 1,?_⟩
   conv=>whnf
   refine kK ⟨⟨?_,?_,fun i hi=>?_⟩,?_,rfl,rfl⟩
   ·show n.length - (k + 1) < n.length - k;omega
   ·show k + 1<=n.length;omega
   ·by_cases e:i=k
    ·subst e;rw [hd,a1,a2];rfl
    ·exact hq i (by omega)
   ·rw [C7 _ (by omega) (by omega)];rfl
 ·have q:=of_decide_eq_false q
  have e:n.any (ti (D9 g))=false:=List.any_eq_false.2 fun x hx=>by
   obtain ⟨i,hi,e⟩:=List.getElem_of_mem hx
   have:=hq i (by omega)
   rw [x9 hi,e] at this
   rw [this];decide
  rw [e]
  conv=>whnf
  rfl
theorem Iq {n:List Int} {N:Int} (h:n.any (ti N)=false) (i:Nat) (hi:i < n.length) : -N<=n.getD i 0/\n.getD i 0<=N:=by
 have:=List.any_eq_false.1 h (n.getD i 0) (by rw [x9 hi];exact List.getElem_mem hi)
 unfold ti at this
 simp only [Bool.or_eq_true,decide_eq_true_eq,not_or] at this
 omega
theorem ym (l:A5) (os:List r8) (f0:BY l) (f1:SD os):PC Tryz.prog 8 [jP l,cG os] (.bool true):=by
 have al:=V6
 have cl:=jE os
 by_cases hg:O3 os=false/\os.length<=200
 ·obtain ⟨hL,h2⟩:=hg
  rw [hL] at cl
  have hk:=fU f1 hL h2
  by_cases hl:J3 l=0
  ·by_cases hv:os.all B2=true
   ·have ct:=mX l os hl (by omega) hk hv
    have t:=aK (os:=os) (dx hl) fun o ho=>List.all_eq_true.1 hv _ ho
    have bl:=(bK os (H9 l) (I8 l)).2
    have e2:(H9 l).pieces.length=0:=rfl
    rw [e2] at bl
    generalize N3 (I8 l) os=w at ct t
    generalize E3 (H9 l) (I8 l) os=b at ct t bl
    have le:=t.le
    refine pF Tryz.func8 ?_
    conv=>whnf
    (repeat' ((first|refine aU fun hh=>?_|refine aV fun hh=>?_|refine aS (fun hh=>?_) fun hh=>?_|refine kR ?_|((try refine Or.inl ?_;conv=>whnf);(try refine ⟨false,?_⟩;conv=>whnf);refine ⟨_,by first|exact al|exact cl,?_⟩)|fail)<;>conv=>whnf))
    (refine Or.inr ⟨[],[28,31,32,33],by kernel_rfl,?_⟩;(conv=>whnf);refine ⟨[],_,_,_,_,⟨ct,rfl,rfl,by kernel_rfl⟩,?_⟩)
    conv=>whnf
    (repeat' ((first|refine aU fun hh=>?_|refine aV fun hh=>?_|refine aS (fun hh=>?_) fun hh=>?_|refine kR ?_|fail)<;>conv=>whnf))
    refine Or.inr ⟨Nat,[49],[],[],fun k=>[i64 k],fun _=>[],fun _=>[],fun k=>b.n7.length - k,fun k=>k<=b.n7.length,?_⟩
    conv=>whnf
    refine ⟨⟨0,?_⟩,?_⟩
    ·(conv=>whnf)
     exact kK ⟨Nat.zero_le _,rfl,rfl,rfl⟩
    intro k wx
    conv=>whnf
    refine ⟨fun q=>?_,fun q=>?_⟩
    ·have q:=of_decide_eq_true q
     have L7:k < b.n7.length:=by omega
     have Mv:k < b.pieces.length:=by omega
     have yu:Int.toNat (k:Int) < b.n7.length:=L7
     have hpi:Int.toNat (k:Int) < b.pieces.length:=Mv
     have o:fR l k (b.n7.getD (Int.toNat (k:Int)) K4) (b.pieces.getD (Int.toNat (k:Int)) A1):=t.oc k L7
     have pk:qi l w.l9.next (b.pieces.getD (Int.toNat (k:Int)) A1):=t.pc k Mv
     generalize hP:b.pieces.getD (Int.toNat (k:Int)) A1=P at o pk
     have pl:=M0 pk.ob.1
     have UF:=pk.ob.2.1
     have gn : -1000000<=D9 P.b9/\D9 P.b9<=1000000∨¬P.o6=1:=by
      rcases pk.rc with ⟨_,r⟩|⟨_,r,_⟩
      ·exact .inr (by omega)
      ·have:=(bz r).2.1
       exact .inl (by omega)
     by_cases hx:(b.n7.getD (Int.toNat (k:Int)) K4).out=true
     ·(conv=>whnf)
      (repeat' ((first|refine aU fun hh=>?_|refine aV fun hh=>?_|refine aS (fun hh=>?_) fun hh=>?_|refine kT ?_|fail)<;>conv=>whnf))
      all_goals (try (exact absurd ((show (b.n7.getD (Int.toNat (k:Int)) K4).out=false by assumption).symm.trans hx) (by decide)))
      all_goals
       refine ⟨k + 1,?_⟩
       conv=>whnf
       refine kK ⟨⟨?_,?_⟩,?_,rfl,rfl⟩
       ·show b.n7.length - (k + 1) < b.n7.length - k;omega
       ·show k + 1<=b.n7.length;omega
       ·rw [C7 _ (by omega) (by omega)];rfl
     ·have hx2:(b.n7.getD (Int.toNat (k:Int)) K4).out=false:=by simpa using hx
      have v1:(b.n7.getD (Int.toNat (k:Int)) K4).o6=1:=Decidable.byContradiction fun e=>by have:=(o.nt e).1;rw [hx2] at this;cases this
      have v2:P.o6=1:=by
       have:=o.vr
       rw [v1] at this
       unfold ov at this
       split at this
       ·cases this
       ·exact this.symm
      have i1:=o.id
      have sq1:=o.sq
      have gn : -1000000<=D9 P.b9/\D9 P.b9<=1000000:=by
       rcases gn with r|r
       ·exact r
       ·exact absurd v2 r
      obtain ⟨r1,r2,r3,r4⟩:0<=P.seq/\S6 P.b9=true/\(F8 P.b9 (H4 P.ord.tru P.ord.a8)).2.2=0/\(F8 P.b9 (H4 P.ord.tru P.ord.a8)).2.1=1:=by
       rcases pk.rc with ⟨_,r⟩|⟨r,r',r'',r3⟩
       ·rw [v2] at r;cases r
       ·exact ⟨r.1,r',r'',by rw [r3];exact v2⟩
      have c1:=bA (ki P.b9 0) P.ord.tru (by omega)
      have c2:=Mm P.ord.a8 P.b9 (by omega) gn
      have law:(!P.ord.a8.any (ti (D9 P.b9)))=true->(F8 (ki P.b9 0) P.ord.tru).2.2=0/\(F8 (ki P.b9 0) P.ord.tru).2.1=1:=fun e =>
       HT pk.ob.1 UF (fun i hi=>Iq (by simpa using e) i hi) r3 r4
      subst hP
      generalize (!(b.pieces.getD (Int.toNat (k:Int)) A1).ord.a8.any (ti (D9 (b.pieces.getD (Int.toNat (k:Int)) A1).b9)))=Q at c2 law
      generalize (F8 (ki (b.pieces.getD (Int.toNat (k:Int)) A1).b9 0) (b.pieces.getD (Int.toNat (k:Int)) A1).ord.tru).2.2=e at c1 law
      generalize (F8 (ki (b.pieces.getD (Int.toNat (k:Int)) A1).b9 0) (b.pieces.getD (Int.toNat (k:Int)) A1).ord.tru).2.1=v at c1 law
      cases Q
      ·clear law
       conv=>whnf
       (repeat' ((first|refine aU fun hh=>?_|refine aV fun hh=>?_|refine aS (fun hh=>?_) fun hh=>?_|refine kT ?_|((try refine Or.inl ?_;conv=>whnf);(try refine ⟨false,?_⟩;conv=>whnf);refine ⟨_,by first|exact c1|exact c2,?_⟩)|fail)<;>conv=>whnf))
       all_goals
        refine ⟨k + 1,?_⟩
        conv=>whnf
        refine kK ⟨⟨?_,?_⟩,?_,rfl,rfl⟩
        ·show b.n7.length - (k + 1) < b.n7.length - k;omega
        ·show k + 1<=b.n7.length;omega
        ·rw [C7 _ (by omega) (by omega)];rfl
      ·obtain ⟨a06,a07⟩:=law rfl
       conv=>whnf
       (repeat' ((first|refine aU fun hh=>?_|refine aV fun hh=>?_|refine aS (fun hh=>?_) fun hh=>?_|refine kT ?_|((try refine Or.inl ?_;conv=>whnf);(try refine ⟨false,?_⟩;conv=>whnf);refine ⟨_,by first|exact c1|exact c2,?_⟩)|fail)<;>conv=>whnf))
       all_goals
        refine ⟨k + 1,?_⟩
        conv=>whnf
        refine kK ⟨⟨?_,?_⟩,?_,rfl,rfl⟩
        ·show b.n7.length - (k + 1) < b.n7.length - k;omega
        ·show k + 1<=b.n7.length;omega
        ·rw [C7 _ (by omega) (by omega)];rfl
    ·(conv=>whnf)
     (repeat' ((first|refine aU fun hh=>?_|refine aV fun hh=>?_|refine aS (fun hh=>?_) fun hh=>?_|refine kR ?_|fail)<;>conv=>whnf))
     all_goals rfl
   ·have ct:=Y4 l os hl (by omega) hk hv
    refine pF Tryz.func8 ?_
    conv=>whnf
    (repeat' ((first|refine aU fun hh=>?_|refine aV fun hh=>?_|refine aS (fun hh=>?_) fun hh=>?_|refine kR ?_|((try refine Or.inl ?_;conv=>whnf);(try refine ⟨false,?_⟩;conv=>whnf);refine ⟨_,by first|exact al|exact cl|exact ct,?_⟩)|fail)<;>conv=>whnf))
    all_goals rfl
  ·have ct:=aQ l os hl
   refine pF Tryz.func8 ?_
   conv=>whnf
   (repeat' ((first|refine aU fun hh=>?_|refine aV fun hh=>?_|refine aS (fun hh=>?_) fun hh=>?_|refine kR ?_|((try refine Or.inl ?_;conv=>whnf);(try refine ⟨false,?_⟩;conv=>whnf);refine ⟨_,by first|exact al|exact cl|exact ct,?_⟩)|fail)<;>conv=>whnf))
   all_goals rfl
 ·have wK:O3 os=true∨(O3 os=false/\¬os.length<=200):=by
   cases e:O3 os with
   | true=>exact .inl rfl
   | false=>exact .inr ⟨rfl,fun q=>hg ⟨e,q⟩⟩
  rcases wK with e|⟨e,e2⟩
  ·rw [e] at cl
   refine pF Tryz.func8 ?_
   conv=>whnf
   (repeat' ((first|refine aU fun hh=>?_|refine aV fun hh=>?_|refine aS (fun hh=>?_) fun hh=>?_|refine kR ?_|((try refine Or.inl ?_;conv=>whnf);(try refine ⟨false,?_⟩;conv=>whnf);refine ⟨_,by first|exact al|exact cl,?_⟩)|fail)<;>conv=>whnf))
   all_goals rfl
  ·rw [e] at cl
   refine pF Tryz.func8 ?_
   conv=>whnf
   (repeat' ((first|refine aU fun hh=>?_|refine aV fun hh=>?_|refine aS (fun hh=>?_) fun hh=>?_|refine kR ?_|((try refine Or.inl ?_;conv=>whnf);(try refine ⟨false,?_⟩;conv=>whnf);refine ⟨_,by first|exact al|exact cl,?_⟩)|fail)<;>conv=>whnf))
   all_goals rfl

end Go.Proofs.Tryz.My
