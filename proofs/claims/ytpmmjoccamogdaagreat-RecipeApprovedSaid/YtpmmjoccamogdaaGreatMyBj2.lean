/- Helper lemmas. -/
import Derived.Test.YtpmmjoccamogdaaGreatMyBj1
set_option linter.unusedVariables false
set_option linter.unusedSimpArgs false
set_option maxRecDepth 100000
set_option maxHeartbeats 0
namespace Go.Proofs.Tryz.My
open Go Go.Ev
def qZ (st:Bool) (l:List (List Int)):Row:=match st with
 | true => .opq (Y4 72 l)
 | false => .vec 72 1 0 eI []
def zw (a b c d e:Nat) (n:Int):Row := .cells 38 [.own a,.own b,.own c,.own d,i64 n,.own e]
def T7 (st:Bool) (h:G5):List Row:=[zw 1 2 3 4 5 h.active,.vec 5 1 0 e8 h.roles,.vec 3 1 0 eI h.authors,.vec 44 10 dV eG h.gauges,qZ st h.k9,.vec 3 1 0 eI h.entries]
theorem L3 (st:Bool) (h:G5) (a:M9) (hk:B6 a=2∨B6 a=3->0<=a.a8/\a.a8 < h.authors.length):PW Tryz.prog 8 [.ptr 0 0 0 0,wo a] (T7 st h) (.bool true) (T7 st h):=by
 unfold B6 at hk
 cases st
 all_goals
  refine pW Tryz.func8 ⟨by kernel_rfl,?_⟩
  conv=>whnf
  (repeat' ((first|refine aU fun hh=>?_|refine aV fun hh=>?_|refine aS (fun hh=>?_) fun hh=>?_|refine kR ?_|fail)<;>conv=>whnf))
  all_goals
   refine ⟨[],by kernel_rfl,?_⟩
   conv=>whnf
   first|exact ⟨rfl,rfl⟩|exact ⟨congrArg AV.bool (decide_eq_true (by omega)),rfl⟩
theorem ra (st:Bool) (h:G5) (a:M9) (hk:B6 a=0) (hl:h.roles.length < 1000):PW Tryz.prog 10 [.ptr 0 0 0 0,wo a] (T7 st h) (.tup [])
  [zw 6 2 3 4 5 h.active,.none,.vec 3 1 0 eI h.authors,.vec 44 10 dV eG h.gauges,qZ st h.k9,.vec 3 1 0 eI h.entries,.vec 5 1 0 e8 (h.roles++[a.I4])]:=by
 unfold B6 at hk
 cases st
 all_goals
  refine pW Tryz.func10 ⟨by kernel_rfl,?_⟩
  conv=>whnf
  (repeat' ((first|refine aU fun hh=>?_|refine aV fun hh=>?_|refine aS (fun hh=>?_) fun hh=>?_|refine kR ?_|fail)<;>conv=>whnf))
  refine ⟨⟨Int,1,0,e8,h.roles⟩,[a.I4],rfl,rfl,⟨rfl,rfl⟩,?_,?_,fun y _=>⟨rfl,rfl,rfl⟩,?_⟩
  ·show (h.roles.length + 1) * 1<=_;omega
  ·show h.roles.length + 1<=_;omega
  conv=>whnf
  (repeat' ((first|refine aU fun hh=>?_|refine aV fun hh=>?_|refine aS (fun hh=>?_) fun hh=>?_|refine kR ?_|fail)<;>conv=>whnf))
  refine ⟨[17],by kernel_rfl,?_⟩
  conv=>whnf
  first|exact ⟨rfl,rfl⟩
theorem zx (st:Bool) (h:G5) (a:M9) (hk:B6 a=3):PW Tryz.prog 10 [.ptr 0 0 0 0,wo a] (T7 st h) (.tup []) (T7 st ⟨h.roles,h.authors,h.gauges,h.k9,a.a8,h.entries⟩):=by
 unfold B6 at hk
 cases st
 all_goals
  refine pW Tryz.func10 ⟨by kernel_rfl,?_⟩
  conv=>whnf
  (repeat' ((first|refine aU fun hh=>?_|refine aV fun hh=>?_|refine aS (fun hh=>?_) fun hh=>?_|refine kR ?_|fail)<;>conv=>whnf))
  refine ⟨[],by kernel_rfl,?_⟩
  conv=>whnf
  first|exact ⟨rfl,rfl⟩
theorem rb (st:Bool) (h:G5) (a:M9) (hk:B6 a=4):PW Tryz.prog 10 [.ptr 0 0 0 0,wo a] (T7 st h) (.tup []) (T7 st ⟨h.roles,h.authors,h.gauges,h.k9,-1,h.entries⟩):=by
 unfold B6 at hk
 cases st
 all_goals
  refine pW Tryz.func10 ⟨by kernel_rfl,?_⟩
  conv=>whnf
  (repeat' ((first|refine aU fun hh=>?_|refine aV fun hh=>?_|refine aS (fun hh=>?_) fun hh=>?_|refine kR ?_|fail)<;>conv=>whnf))
  refine ⟨[],by kernel_rfl,?_⟩
  conv=>whnf
  first|exact ⟨rfl,rfl⟩
theorem rf (st:Bool) (h:G5) (a:M9) (hk:B6 a=5) (hl:h.entries.length < 1000):PW Tryz.prog 10 [.ptr 0 0 0 0,wo a] (T7 st h) (.tup [])
  [zw 1 2 3 4 6 h.active,.vec 5 1 0 e8 h.roles,.vec 3 1 0 eI h.authors,.vec 44 10 dV eG h.gauges,qZ st h.k9,.none,.vec 3 1 0 eI (h.entries++[h.active])]:=by
 unfold B6 at hk
 cases st
 all_goals
  refine pW Tryz.func10 ⟨by kernel_rfl,?_⟩
  conv=>whnf
  (repeat' ((first|refine aU fun hh=>?_|refine aV fun hh=>?_|refine aS (fun hh=>?_) fun hh=>?_|refine kR ?_|fail)<;>conv=>whnf))
  refine ⟨⟨Int,1,0,eI,h.entries⟩,[h.active],rfl,rfl,⟨rfl,rfl⟩,?_,?_,fun y _=>⟨rfl,rfl,rfl⟩,?_⟩
  ·show (h.entries.length + 1) * 8<=_;omega
  ·show h.entries.length + 1<=_;omega
  conv=>whnf
  (repeat' ((first|refine aU fun hh=>?_|refine aV fun hh=>?_|refine aS (fun hh=>?_) fun hh=>?_|refine kR ?_|fail)<;>conv=>whnf))
  refine ⟨[90],by kernel_rfl,?_⟩
  conv=>whnf
  first|exact ⟨rfl,rfl⟩
theorem rh (st:Bool) (h:G5) (a:M9) (hk:¬B6 a=0/\¬B6 a=1/\¬B6 a=2/\¬B6 a=3/\¬B6 a=4/\¬B6 a=5):PW Tryz.prog 10 [.ptr 0 0 0 0,wo a] (T7 st h) (.tup []) (T7 st h):=by
 unfold B6 at hk
 cases st
 all_goals
  refine pW Tryz.func10 ⟨by kernel_rfl,?_⟩
  conv=>whnf
  (repeat' ((first|refine aU fun hh=>?_|refine aV fun hh=>?_|refine aS (fun hh=>?_) fun hh=>?_|refine kR ?_|fail)<;>conv=>whnf))
  refine ⟨[],by kernel_rfl,?_⟩
  conv=>whnf
  first|exact ⟨rfl,rfl⟩
theorem ri (st:Bool) (h:G5) (a:M9) (hk:B6 a=1) (hs:st=false->h.k9=[]) (hl:h.authors.length < 1000) (hg:h.gauges.length < 1000) (ha:h.k9.length < 1000):PW Tryz.prog 10 [.ptr 0 0 0 0,wo a] (T7 st h) (.tup [])
  [zw 1 6 7 8 5 h.active,.vec 5 1 0 e8 h.roles,.none,.none,.none,.vec 3 1 0 eI h.entries,.vec 3 1 0 eI (h.authors++[a.b8]),.vec 44 10 dV eG (h.gauges++[a.o6]),qZ true (h.k9++[[]])]:=by
 unfold B6 at hk
 cases st
 all_goals
  refine pW Tryz.func10 ⟨by kernel_rfl,?_⟩
  conv=>whnf
  (repeat' ((first|refine aU fun hh=>?_|refine aV fun hh=>?_|refine aS (fun hh=>?_) fun hh=>?_|refine kR ?_|fail)<;>conv=>whnf))
  refine ⟨⟨Int,1,0,eI,h.authors⟩,[a.b8],rfl,rfl,⟨rfl,rfl⟩,?_,?_,fun y _=>⟨rfl,rfl,rfl⟩,?_⟩
  ·show (h.authors.length + 1) * 8<=_;omega
  ·show h.authors.length + 1<=_;omega
  conv=>whnf
  (repeat' ((first|refine aU fun hh=>?_|refine aV fun hh=>?_|refine aS (fun hh=>?_) fun hh=>?_|refine kR ?_|fail)<;>conv=>whnf))
  refine ⟨⟨H4,10,dV,eG,h.gauges⟩,[a.o6],rfl,rfl,⟨rfl,rfl⟩,?_,?_,fun y _=>⟨rfl,rfl,rfl⟩,?_⟩
  ·show (h.gauges.length + 1) * 80<=_;omega
  ·show h.gauges.length + 1<=_;omega
  conv=>whnf
  (repeat' ((first|refine aU fun hh=>?_|refine aV fun hh=>?_|refine aS (fun hh=>?_) fun hh=>?_|refine kR ?_|fail)<;>conv=>whnf))
  refine ⟨_,vx rfl rfl (by kernel_rfl),?_⟩
  rintro _ ⟨c,rfl⟩
  conv=>whnf
  (repeat' ((first|refine aU fun hh=>?_|refine aV fun hh=>?_|refine aS (fun hh=>?_) fun hh=>?_|refine kR ?_|fail)<;>conv=>whnf))
  (refine ⟨_,og (l:=h.k9) (dm:=49) (show Tryz.prog.underlying 36=some (.slice 72) by kernel_rfl) (by kernel_rfl) rfl rfl rfl rfl rfl (by kernel_rfl) rfl rfl (fun β F w z=>by first|exact z|(rw [hs rfl];exact yB z)) (fun z=>by cases z) rfl rfl (by kernel_rfl) (by omega),?_⟩)
  rintro _ rfl
  conv=>whnf
  (repeat' ((first|refine aU fun hh=>?_|refine aV fun hh=>?_|refine aS (fun hh=>?_) fun hh=>?_|refine kR ?_|fail)<;>conv=>whnf))
  refine ⟨[30,41,51],by kernel_rfl,?_⟩
  conv=>whnf
  first|exact ⟨rfl,rfl⟩
theorem vT (h:G5) (a:M9) (hk:B6 a=2) (n:Nat) (hn:a.a8=n) (h1:n < h.k9.length) (hw:∀ v ∈ h.k9.getD n [],(Lit.int .i64 v).wf=true) (hu:(Lit.int .i64 a.b8).wf=true) (cs:List Nat) :
  PW Tryz.prog 10 [.ptr 0 0 0 0,wo a] ((T7 true h).set 4 (.opq (J8 72 h.k9 cs))) (.tup []) ((T7 true h).set 4 (.opq (J8 72 (h.k9.set n (Y3 (h.k9.getD n []) a.b8)) cs))):=by
 obtain ⟨kind,b8,a8,I4,o6,j8⟩:=a
 simp only at hn hu hk ⊢
 subst hn
 unfold B6 at hk
 refine pW Tryz.func10 ⟨by kernel_rfl,?_⟩
 conv=>whnf
 (repeat' ((first|refine aU fun hh=>?_|refine aV fun hh=>?_|refine aS (fun hh=>?_) fun hh=>?_|refine kR ?_|fail)<;>conv=>whnf))
 refine ⟨_,_,sN (l:=h.k9) (cs:=cs) (i:=n) (show Tryz.prog.underlying 36=some (.slice 72) by kernel_rfl) (by kernel_rfl) rfl rfl rfl rfl h1,?_⟩
 conv=>whnf
 (repeat' ((first|refine aU fun hh=>?_|refine aV fun hh=>?_|refine aS (fun hh=>?_) fun hh=>?_|refine kR ?_|fail)<;>conv=>whnf))
 refine ⟨_,_,yD (l:=h.k9) (cs:=cs) (i:=n) rfl (show Tryz.prog.underlying 72=some (.map 3 4) by kernel_rfl) rfl rfl h1,?_⟩
 conv=>whnf
 (repeat' ((first|refine aU fun hh=>?_|refine aV fun hh=>?_|refine aS (fun hh=>?_) fun hh=>?_|refine kR ?_|fail)<;>conv=>whnf))
 refine ⟨_,_,sM (id:=97) (l:=h.k9) (cs:=cs) (i:=n) rfl (show Tryz.prog.underlying 72=some (.map 3 4) by kernel_rfl) (by kernel_rfl) rfl rfl rfl rfl h1 rfl hw hu,?_⟩
 conv=>whnf
 (repeat' ((first|refine aU fun hh=>?_|refine aV fun hh=>?_|refine aS (fun hh=>?_) fun hh=>?_|refine kR ?_|fail)<;>conv=>whnf))
 refine ⟨[],by kernel_rfl,?_⟩
 conv=>whnf
 first|exact ⟨rfl,rfl⟩
theorem zy (h:G5) (a:M9) (hk:B6 a=2) (n:Nat) (hn:a.a8=n) (h1:n < h.k9.length) (hw:∀ v ∈ h.k9.getD n [],(Lit.int .i64 v).wf=true) (hu:(Lit.int .i64 a.b8).wf=true) :
  PW Tryz.prog 10 [.ptr 0 0 0 0,wo a] (T7 true h) (.tup []) (T7 true ⟨h.roles,h.authors,h.gauges,h.k9.set n (Y3 (h.k9.getD n []) a.b8),h.active,h.entries⟩) :=
 PW.exo (k:=4) (ins:=T7 true h) (l5:=T7 true h) (o:=Y4 72 h.k9) (o':=Y4 72 (h.k9.set n (Y3 (h.k9.getD n []) a.b8))) (oi:=fun cs=>J8 72 h.k9 cs) (oi':=fun cs=>J8 72 (h.k9.set n (Y3 (h.k9.getD n []) a.b8)) cs)
  (fun _ _ _ z=>z) (fun cs _ _ _ z=>⟨cs,z⟩) (fun cs=>vT h a hk n hn h1 hw hu cs) (show 4 < 6 by decide) (show 4 < 6 by decide)
theorem iS {α:Type} [DecidableEq α]:∀ {s L:List α},s.Nodup->(∀ j,j ∈ s->j ∈ L)->s.length<=L.length
 | [],_,_,_=>Nat.zero_le _
 | a :: s,L,h,hs=>by
  have h:=List.nodup_cons.1 h
  have ha:=hs a (by simp)
  have:=iS (L:=L.erase a) h.2 (fun j hj=>(List.mem_erase_of_ne (fun (e:j=a)=>h.1 (e ▸ hj))).2 (hs j (by simp [hj])))
  rw [List.length_erase_of_mem ha] at this
  have:=List.length_pos_of_mem ha
  simp only [List.length_cons]
  omega
theorem BH {s:List Int} {j:Nat} (h:j < s.length):s.getD j 0 ∈ s:=by
 rw [List.getD,List.getElem?_eq_getElem h,Option.getD_some];exact List.getElem_mem h
theorem BI {s:List Int} {u:Int} (h:u ∈ s):∃ j,j < s.length/\s.getD j 0=u:=by
 obtain ⟨j,hj,e⟩:=List.getElem_of_mem h
 exact ⟨j,hj,by rw [List.getD,List.getElem?_eq_getElem hj,Option.getD_some];exact e⟩
def rj (h:G5) (s:List Int) (seen:List Nat):Nat:=(seen.filter fun j=>decide (h.roles.getD (s.getD j 0).toNat 0=3)).length
theorem rk (h:G5) (n:Nat) (hT:Ew h n) (h1:n < h.k9.length) (ha:(h.k9.getD n []).length < 1000) (Cb:h.roles.length < 1000) (cs:List Nat) :
  PW Tryz.prog 9 [.ptr 0 0 0 0,i64 n] ((T7 true h).set 4 (.opq (J8 72 h.k9 cs))) (.bool true) ((T7 true h).set 4 (.opq (J8 72 h.k9 cs))):=by
 obtain ⟨⟨t1,t2⟩,t3,t4,u0,t5,t6⟩:=hT
 rw [show ((n:Nat):Int).toNat=n from rfl] at t3 t4 t5
 refine pW Tryz.func9 ⟨by kernel_rfl,?_⟩
 conv=>whnf
 (repeat' ((first|refine aU fun hh=>?_|refine aV fun hh=>?_|refine aS (fun hh=>?_) fun hh=>?_|refine kR ?_|fail)<;>conv=>whnf))
 refine ⟨_,qw (l:=h.k9) (cs:=cs) (i:=n) (show Tryz.prog.underlying 36=some (.slice 72) by kernel_rfl) (by kernel_rfl) rfl rfl rfl rfl h1,?_⟩
 rintro _ rfl
 conv=>whnf
 (repeat' ((first|refine aU fun hh=>?_|refine aV fun hh=>?_|refine aS (fun hh=>?_) fun hh=>?_|refine kR ?_|fail)<;>conv=>whnf))
 refine ⟨_,vz (l:=h.k9) (cs:=cs) (i:=n) rfl (show Tryz.prog.underlying 72=some (.map 3 4) by kernel_rfl) rfl rfl h1,?_⟩
 rintro _ rfl
 conv=>whnf
 (repeat' ((first|refine aU fun hh=>?_|refine aV fun hh=>?_|refine aS (fun hh=>?_) fun hh=>?_|refine kR ?_|fail)<;>conv=>whnf))
 refine ⟨_,sJ (id:=85) (l:=h.k9) (cs:=cs) (i:=n) rfl rfl (by kernel_rfl) (show Tryz.prog.underlying 72=some (.map 3 4) by kernel_rfl) rfl rfl h1 rfl,?_⟩
 rintro _ rfl
 conv=>whnf
 have Mv:h.roles.length < 1000:=Cb
 refine Or.inr ⟨List Nat,[5,6],[26],[],fun seen=>[i64 (seen.length:Nat),i64 (rj h (h.k9.getD n []) seen:Nat)],fun seen=>[.opq (mD (cs.getD n 0) (h.k9.getD n []).length seen)],fun _=>[],fun seen=>(h.k9.getD n []).length - seen.length,fun seen=>seen.Nodup/\∀ j,j ∈ seen->j < (h.k9.getD n []).length,?_⟩
 conv=>whnf
 refine ⟨⟨[],?_⟩,?_⟩
 ·(conv=>whnf)
  exact kK ⟨⟨.nil,fun j hj=>absurd hj (List.not_mem_nil)⟩,rfl,rfl,rfl⟩
 rintro seen ⟨Y6,u2⟩
 have LV:rj h (h.k9.getD n []) seen<=seen.length:=List.length_filter_le _ _
 have uA:seen.length<=(h.k9.getD n []).length:=by
  have:=iS Y6 (L:=List.range (h.k9.getD n []).length) (fun j hj=>List.mem_range.2 (u2 j hj))
  rwa [List.length_range] at this
 conv=>whnf
 refine ⟨_,vy (id:=85) (l:=h.k9) (cs:=cs) (i:=n) (seen:=seen) rfl rfl rfl h1 rfl rfl,?_⟩
 rintro _ (⟨ez,rfl⟩|⟨j,hj,Kf,rfl⟩)
 ·have BK:(h.k9.getD n []).length<=seen.length:=by
   have:=iS (s:=List.range (h.k9.getD n []).length) List.nodup_range (L:=seen) (fun j hj=>ez j (List.mem_range.1 hj))
   rwa [List.length_range] at this
  have hq:0 < rj h (h.k9.getD n []) seen:=by
   obtain ⟨j,hj,e⟩:=BI t5
   exact List.length_pos_of_mem (List.mem_filter.2 ⟨ez j hj,decide_eq_true (by rw [e];exact t6)⟩)
  conv=>whnf
  (repeat' ((first|refine aU fun hh=>?_|refine aV fun hh=>?_|refine aS (fun hh=>?_) fun hh=>?_|refine kR ?_|fail)<;>conv=>whnf))
  all_goals
   refine ⟨[],by kernel_rfl,?_⟩
   conv=>whnf
   first|exact ⟨rfl,rfl⟩|exact ⟨congrArg AV.bool (decide_eq_true (by omega)),rfl⟩
 ·have hm:(h.k9.getD n []).getD j 0 ∈ h.k9.getD n []:=BH hj
  obtain ⟨⟨k1,k2⟩,k3,k4⟩:=t3 _ hm
  have Mw:¬(h.k9.getD n []).getD j 0=h.authors.getD (Int.toNat (n:Int)) 0:=k3
  have LW:seen.length < (h.k9.getD n []).length:=by
   have Jg:(j :: seen).Nodup:=List.nodup_cons.2 ⟨Kf,Y6⟩
   have:=iS Jg (L:=List.range (h.k9.getD n []).length) (fun i hi=>List.mem_range.2 ((List.mem_cons.1 hi).elim (fun q=>q ▸ hj) (u2 i)))
   rw [List.length_range,List.length_cons] at this
   omega
  have hI:(seen++[j]).Nodup/\∀ i,i ∈ seen++[j]->i < (h.k9.getD n []).length:=by
   refine ⟨?_,fun i hi=>?_⟩
   ·rw [List.nodup_append]
    refine ⟨Y6,by simp,fun a ha b hb=>?_⟩
    rw [List.mem_singleton] at hb
    rintro rfl
    exact Kf (hb ▸ ha)
   ·rcases List.mem_append.1 hi with q|q
    ·exact u2 i q
    ·rw [List.mem_singleton] at q
     rw [q];exact hj
  have hc:rj h (h.k9.getD n []) (seen++[j])=rj h (h.k9.getD n []) seen + if h.roles.getD ((h.k9.getD n []).getD j 0).toNat 0=3 then 1 else 0:=by
   unfold rj
   rw [List.filter_append,List.length_append]
   congr 1
   by_cases q:h.roles.getD ((h.k9.getD n []).getD j 0).toNat 0=3
   ·rw [if_pos q];show (match decide _ with|true=>[j]|false=>[]).length=1;rw [decide_eq_true q];rfl
   ·rw [if_neg q];show (match decide _ with|true=>[j]|false=>[]).length=0;rw [decide_eq_false q];rfl
  conv=>whnf
  refine ⟨_,sQ (id:=85) (l:=h.k9) (cs:=cs) (i:=n) (seen:=seen) (j:=j) rfl rfl rfl h1 rfl rfl hj,?_⟩
  rintro _ rfl
  conv=>whnf
  generalize hu:(h.k9.getD n []).getD j 0=u at *
  (repeat' ((first|refine aU fun hh=>?_|refine aV fun hh=>?_|refine aS (fun hh=>?_) fun hh=>?_|refine kT ?_|fail)<;>conv=>whnf))
  all_goals
   refine ⟨seen++[j],?_⟩
   conv=>whnf
   refine kK ⟨⟨?_,hI⟩,?_,rfl,rfl⟩
   ·show (h.k9.getD n []).length - (seen++[j]).length < (h.k9.getD n []).length - seen.length
    rw [List.length_append,List.length_singleton];omega
   ·show _=[i64 ((seen++[j]).length:Nat),i64 (rj h (h.k9.getD n []) (seen++[j]):Nat)]
    rw [List.length_append,List.length_singleton,hc,L9 ((seen.length:Int) + 1) (by omega) (by omega)]
    first
    | (rw [L9 ((rj h (h.k9.getD n []) seen:Int) + 1) (by omega) (by omega),if_pos (by assumption)];rfl)
    | (rw [if_neg (by assumption)];rfl)
theorem sV (h:G5) (n:Nat) (hT:Ew h n) (h1:n < h.k9.length) (ha:(h.k9.getD n []).length < 1000) (Cb:h.roles.length < 1000) :
  PW Tryz.prog 9 [.ptr 0 0 0 0,i64 n] (T7 true h) (.bool true) (T7 true h) :=
 PW.exo (k:=4) (ins:=T7 true h) (l5:=T7 true h) (o:=Y4 72 h.k9) (o':=Y4 72 h.k9) (oi:=fun cs=>J8 72 h.k9 cs) (oi':=fun cs=>J8 72 h.k9 cs)
  (fun _ _ _ z=>z) (fun cs _ _ _ z=>⟨cs,z⟩) (fun cs=>rk h n hT h1 ha Cb cs) (show 4 < 6 by decide) (show 4 < 6 by decide)

end Go.Proofs.Tryz.My
