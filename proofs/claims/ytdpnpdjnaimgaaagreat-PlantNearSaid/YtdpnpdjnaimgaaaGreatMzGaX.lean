/- Helper lemmas. -/
import Derived.Test.YtdpnpdjnaimgaaaGreatMzGpA
import Derived.Test.YtdpnpdjnaimgaaaGreatMzEaA
import Derived.Test.YtdpnpdjnaimgaaaGreatMzRfC
set_option linter.unusedVariables false
set_option linter.unusedSimpArgs false
set_option maxRecDepth 100000
set_option maxHeartbeats 0
namespace Go.Proofs.Tryz.My
open Go Go.Ev
theorem X8 (lo hi n:Int):PC Tryz.prog 87 [i64 lo,i64 hi,i64 n] (.bool (D1 n lo hi)):=by
 refine pF Tryz.func87 ?_
 conv=>whnf
 refine ⟨fun h=>?_,fun h=>?_⟩<;>((conv=>whnf);simp_all [-decide_eq_true_eq,-decide_eq_false_iff_not,D1])
theorem kh (fX:Nat) (p:Int->Bool) (hp:∀ n,PC Tryz.prog fX [i64 n] (.bool (p n))) (l:List Int) (hl:l.length < 2 ^ 40):PC Tryz.prog 138 [C8 l,.fn (.func fX) [] []] (i64 (uG p l)):=by
 refine pF Tryz.func138 ?_
 conv=>whnf
 refine Or.inr ⟨Nat,[8],[],[],fun k=>[i64 k],fun _=>[],fun _=>[],fun k=>l.length - k,fun k=>k<=l.length/\∀ i,i < k->p (l.getD i 0)=false,?_⟩
 conv=>whnf
 refine ⟨⟨0,?_⟩,?_⟩
 ·(conv=>whnf)
  exact kK ⟨by simp,rfl,rfl,rfl⟩
 ·intro k hk
  conv=>whnf
  refine ⟨fun h=>?_,fun h=>?_⟩
  ·have h:=of_decide_eq_true h
   conv=>whnf
   refine ⟨⟨by omega,by omega⟩,?_⟩
   conv=>whnf
   (first|(refine Or.inl ?_;(conv=>whnf);refine ⟨_,hp _,?_⟩)|refine ⟨_,hp _,?_⟩)
   conv=>whnf
   refine ⟨fun h2=>?_,fun h2=>?_⟩
   ·(conv=>whnf)
    exact congrArg i64 (pX _ 0 l k (by omega) h2 hk.2).symm
   ·refine ⟨k + 1,?_⟩
    conv=>whnf
    refine kK ⟨⟨?_,?_,?_⟩,?_,rfl,rfl⟩
    ·show l.length - (k + 1) < l.length - k;omega
    ·omega
    ·intro i hi
     by_cases e:i=k
     ·subst e;exact h2
     ·exact hk.2 i (by omega)
    ·rw [C7 _ (by omega) (by omega)];rfl
  ·have h:=of_decide_eq_false h
   conv=>whnf
   exact congrArg i64 (lS _ 0 l fun i hi=>hk.2 i (by omega)).symm
theorem bt (fX:Nat) (p:Int->Bool) (hp:∀ n,PC Tryz.prog fX [i64 n] (.bool (p n))) (l:List Int) (hl:l.length < 2 ^ 40):PC Tryz.prog 84 [C8 l,.fn (.func fX) [] []] (.bool (l.any p)):=by
 refine pF Tryz.func84 ?_
 conv=>whnf
 (first|(refine Or.inl ?_;(conv=>whnf);refine ⟨_,kh fX p hp l hl,?_⟩)|refine ⟨_,kh fX p hp l hl,?_⟩)
 conv=>whnf
 rw [pY]
theorem zR (l:List Int) (h0:l≠[]) (hl:l.length < 2 ^ 30):PW Tryz.prog 129 [C8 l] [] (.own 0) [.vec 3 1 0 eI l]:=by
 refine pW Tryz.func129 ⟨by kernel_rfl,?_⟩
 conv=>whnf
 intro b hb
 conv=>whnf
 refine ⟨fun h=>absurd (hb h) h0,fun h=>?_⟩
 conv=>whnf
 refine ⟨⟨Int,1,0,eI,[]⟩,l,rfl,⟨rfl,rfl⟩,rfl,?_,?_,fun y _=>⟨rfl,rfl,rfl⟩,?_⟩
 ·show (0 + l.length) * 8<=_;omega
 ·show 0 + l.length<=_;omega
 conv=>whnf
 refine ⟨[7],by kernel_rfl,?_⟩
 conv=>whnf
 exact ⟨rfl,rfl⟩
def Dd (n:Int):Bool := !D1 n 0 255
theorem nG (n:Int):PC Tryz.prog 86 [i64 n] (.bool (Dd n)):=by
 refine pF Tryz.func86 ?_
 conv=>whnf
 (first|(refine Or.inl ?_;(conv=>whnf);refine ⟨_,X8 0 255 n,?_⟩)|refine ⟨_,X8 0 255 n,?_⟩)
 conv=>whnf
 rfl
def L2 (l:List Int):Bool:=D1 l.length 2 64 && !l.any Dd
theorem cE (l:List Int) (hl:l.length < 2 ^ 40):PC Tryz.prog 46 [C8 l] (i64 (if L2 l then 0 else 50)):=by
 refine pF Tryz.func46 ?_
 conv=>whnf
 (repeat' ((first|refine aU fun hh=>?_|refine aV fun hh=>?_|refine aS (fun hh=>?_) fun hh=>?_|refine kR ?_|((try refine Or.inl ?_;conv=>whnf);(try refine ⟨false,?_⟩;conv=>whnf);refine ⟨_,by first|exact X8 2 64 l.length|exact bt _ Dd nG l hl,?_⟩)|fail)<;>conv=>whnf))
 all_goals simp_all [L2]
def Ks (x:Int):Int:=if 255 < (if 0 > x then 0 else x) then 255 else (if 0 > x then 0 else x)
def bu (p:List Int) (f:Nat->Int) (k:Nat):List Int:=(List.range p.length).map fun i=>if i < k then f i else p.getD i 0
theorem R3 (p:List Int) (f:Nat->Int) (k:Nat):(bu p f k).length=p.length:=by simp [bu]
theorem uY (p:List Int) (f:Nat->Int) (k i:Nat) (h:i < p.length):(bu p f k).getD i 0=if i < k then f i else p.getD i 0:=by simp [bu,List.getD,h]
theorem uZ (p:List Int) (f:Nat->Int):bu p f 0=p:=by
 refine List.ext_getElem (by simp [bu]) fun i h1 h2=>?_
 simp [bu,List.getD,h2]
theorem vc (p:List Int) (f:Nat->Int) (k:Nat):(bu p f k).set k (f k)=bu p f (k + 1):=by
 refine List.ext_getElem (by simp [bu]) fun i h1 h2=>?_
 simp only [bu,List.getElem_set,List.getElem_map,List.getElem_range]
 by_cases e:k=i
 ·subst e;simp
 ·simp only [e,if_false]
  by_cases h:i < k
  ·simp [h,show i < k + 1 by omega]
  ·simp [h,show ¬ i < k + 1 by omega]
theorem zT (p:List Int) (f:Nat->Int):bu p f p.length=(List.range p.length).map f:=by
 refine List.ext_getElem (by simp [bu]) fun i h1 h2=>?_
 simp [bu] at h1 ⊢
 intro h;omega
theorem zU {l:List Int} {q:Int->Bool} (h:l.any q=false) (i:Nat) (hi:i < l.length):q (l.getD i 0)=false:=by
 have:=List.any_eq_false.1 h (l.getD i 0) (by simp [List.getD,hi])
 simpa using this
theorem rO {l:List Int} (h:l.any Dd=false) (i:Nat) (hi:i < l.length):0<=l.getD i 0/\l.getD i 0<=255:=by
 have:=zU h i hi
 simp only [Dd,D1,Bool.not_eq_false',Bool.and_eq_true,decide_eq_true_eq] at this
 exact this
theorem M0 {p:List Int} (h:L2 p=true):2<=p.length/\p.length<=64:=by
 simp only [L2,D1,Bool.and_eq_true,decide_eq_true_eq] at h;omega
theorem zV {p:List Int} (h:L2 p=true):p.any Dd=false:=by
 simp only [L2,Bool.and_eq_true] at h
 simpa using h.2
def rP (n:Nat) (a d:Int):List (List AV):=(List.range (N5 n a d)).map fun (k:Nat)=>[i64 (a + d * k)]
theorem zW (n:Nat) (a d:Int) (k:Nat):(rP n a d)[k]? = if k < N5 n a d then some [i64 (a + d * k)] else none:=by
 unfold rP
 rw [List.getElem?_map]
 by_cases h:k < N5 n a d<;>simp [h]
theorem NO (n:Nat) (a d:Int) (ha:0<=a) (hn:a < n) (hl:n < 2 ^ 40) (hd:hC d):SQ Tryz.prog 316 [.pt [i64 a] 0,.pt [i64 n] 0,.pt [i64 d] 0] (rP n a d):=by
 have hs:N5 n a d<=n:=by unfold N5;rcases hd with rfl|rfl<;>simp<;>omega
 have step:∀ k:Nat,(k < N5 n a d↔0<=a + d * k/\a + d * k < n)/\(a + d * k + d=a + d * ((k + 1:Nat):Int)):=by
  intro k
  constructor
  ·unfold N5
   rcases hd with rfl|rfl<;>simp<;>omega
  ·rcases hd with rfl|rfl<;>omega
 have Y8:=zW n a d
 have hlen:(rP n a d).length=N5 n a d:=by simp [rP]
 generalize rP n a d=xs at *
 generalize N5 n a d=m at *
 refine oU hm Tryz.func316 (by kernel_rfl) ⟨by kernel_rfl,fun l=>?_⟩
 conv=>whnf
 refine Or.inr ⟨Nat,[5],[22],[],fun k=>[i64 (a + d * k)],fun k=>[.ctr l xs k false],fun _=>[],fun k=>m - k,fun k=>k<=m,?_⟩
 conv=>whnf
 refine ⟨⟨0,?_⟩,?_⟩
 ·(conv=>whnf)
  refine kK ⟨Nat.zero_le _,?_,rfl,rfl⟩
  show [i64 a]=[i64 (a + d * ((0:Nat):Int))]
  simp
 ·intro k hk
  have st:=step k
  conv=>whnf
  refine ⟨fun h=>?_,fun h=>?_⟩
  ·have h:=of_decide_eq_true h
   conv=>whnf
   refine ⟨fun h2=>?_,fun h2=>?_⟩
   ·have h2:=of_decide_eq_true h2
    have Xq:=st.1.2 ⟨h,h2⟩
    conv=>whnf
    refine ⟨⟨rfl,by exact (Y8 k).trans (by rw [if_pos Xq];rfl),by kernel_rfl⟩,?_,?_⟩
    ·(conv=>whnf)
     refine ⟨k + 1,?_⟩
     conv=>whnf
     refine kK ⟨⟨Nat.sub_lt_sub_left (by omega) (Nat.lt_succ_self k),by omega⟩,?_,rfl,rfl⟩
     rw [C7 _ (by rcases hd with rfl|rfl<;>omega) (by rcases hd with rfl|rfl<;>omega),st.2]
    ·(conv=>whnf)
     intro h;cases h
   ·have h2:=of_decide_eq_false h2
    conv=>whnf
    intro _
    rw [hlen]
    have:=mt st.1.1 (fun k=>h2 k.2)
    omega
  ·have h:=of_decide_eq_false h
   conv=>whnf
   intro _
   rw [hlen]
   have:=mt st.1.1 (fun k=>h k.1)
   omega
theorem GJ (p:List Int) (thr a a8:Int) (hl:p.length < 2 ^ 40):PC Tryz.prog 247 [C8 p,i64 thr,i64 a,i64 a8] (i64 (if L2 p then (if dF p thr a a8 then 0 else 2) else 50)):=by
 have c1:=cE p hl
 have hw:IntKind.i64.wrap ((p.length:Int) - 1)=(p.length:Int) - 1:=C7 _ (by omega) (by omega)
 cases hp:L2 p
 ·rw [hp] at c1
  refine pF Tryz.func247 ?_
  conv=>whnf
  (repeat' ((first|refine aU fun hh=>?_|refine aV fun hh=>?_|refine aS (fun hh=>?_) fun hh=>?_|refine kR ?_|((try refine Or.inl ?_;conv=>whnf);(try refine ⟨false,?_⟩;conv=>whnf);refine ⟨_,by exact c1,?_⟩)|fail)<;>conv=>whnf))
  all_goals simp
 rw [hp] at c1
 refine pF Tryz.func247 ?_
 conv=>whnf
 (repeat' ((first|refine aU fun hh=>?_|refine aV fun hh=>?_|refine aS (fun hh=>?_) fun hh=>?_|refine kR ?_|((try refine Or.inl ?_;conv=>whnf);(try refine ⟨false,?_⟩;conv=>whnf);refine ⟨_,by first|exact c1|exact X8 _ _ _,?_⟩)|fail)<;>conv=>whnf))
 all_goals (first|(simp_all [dF,D1];done)|(simp_all [dF,D1];intros;omega))
theorem jr {p:List Int} (h:L2 p=true):rK p:=fun i hi=>rO (zV h) i hi
theorem ag {p:List Int} {thr a a8:Int} (h:dF p thr a a8=true):1<=thr/\thr<=255/\0<=a/\a < p.length/\0<=a8/\a8<=64:=by
 simp only [dF,Bool.and_eq_true,decide_eq_true_eq] at h
 omega
theorem NP (n:Int) (a d:Int):PC Tryz.prog 286 [i64 n,i64 a,i64 d] (.fn (.func 316) [] [.pt [i64 a] 0,.pt [i64 n] 0,.pt [i64 d] 0]):=by
 refine pF Tryz.func286 ?_
 conv=>whnf
theorem k7 (n:Int):PC Tryz.prog 92 [i64 n] (fr (n,1)):=by
 refine pF Tryz.func92 ?_
 conv=>whnf
 (repeat' ((first|refine aU fun hh=>?_|refine aV fun hh=>?_|refine aS (fun hh=>?_) fun hh=>?_|refine kR ?_|fail)<;>conv=>whnf))
set_option maxHeartbeats 1000000
theorem rQ (p:List Int) (thr a d:Int) (hp:rK p) (hl:p.length<=64) (ha:0<=a) (hn:a < p.length) (hd:hC d) (t1:1<=thr) (t2:thr<=255) :
  PC Tryz.prog 248 [C8 p,i64 thr,i64 a,i64 d] (.tup [fr (Da p thr a d).1,.bool (Da p thr a d).2]):=by
 have sq:=NO p.length a d ha hn (by omega) hd
 have Y8:=zW p.length a d
 have hlen:(rP p.length a d).length=N5 p.length a d:=by simp [rP]
 have Kt:∀ x ∈ rP p.length a d,cW x=true/\x.length=1:=by
  intro x hx
  obtain ⟨k,_,rfl⟩:=List.mem_map.1 hx
  exact ⟨by kernel_rfl,rfl⟩
 have SO:∀ k x,(rP p.length a d)[k]? = some x->k < N5 p.length a d/\x=[i64 (a + d * (k:Int))]:=by
  intro k x hx
  rw [Y8] at hx
  by_cases De:k < N5 p.length a d
  ·rw [if_pos De] at hx
   exact ⟨De,(Option.some.inj hx).symm⟩
  ·rw [if_neg De] at hx;cases hx
 refine pF Tryz.func248 ?_
 conv=>whnf
 (repeat' ((first|refine aU fun hh=>?_|refine aV fun hh=>?_|refine aS (fun hh=>?_) fun hh=>?_|refine kR ?_|((try refine Or.inl ?_;conv=>whnf);(try refine ⟨false,?_⟩;conv=>whnf);refine ⟨_,by exact NP _ _ _,?_⟩)|fail)<;>conv=>whnf))
 refine ⟨rP p.length a d,[],fun _=>[],fun k=>k<=N5 p.length a d/\∀ j,j < k->R9 p a d j < thr,⟨sq,Kt⟩,?_⟩
 refine ⟨by kernel_rfl,?_⟩
 refine ⟨?_,?_⟩
 ·(conv=>whnf)
  exact kK ⟨⟨Nat.zero_le _,fun j hj=>absurd hj (Nat.not_lt_zero j)⟩,rfl,rfl,rfl⟩
 refine ⟨?_,?_⟩
 ·with_reducible refine uL SO ?_
  intro k De hk
  have oJ:=mj ha hn hd De
  conv=>whnf
  (repeat' (first|(refine ⟨by kernel_rfl,?_⟩;(conv=>whnf))|(refine And.intro (a:=_/\_) ⟨by omega,by omega⟩ ?_;(conv=>whnf))))
  refine ⟨fun h=>?_,fun h=>?_⟩
  ·have h:=of_decide_eq_true h
   conv=>whnf
   refine ⟨⟨⟨by omega,fun j hj=>?_⟩,rfl⟩,by kernel_rfl⟩
   by_cases e:j=k
   ·subst e;exact h
   ·exact hk.2 j (by omega)
  ·have h:=of_decide_eq_false h
   conv=>whnf
   refine ⟨fun h2=>?_,fun h2=>?_⟩
   ·have h2:=of_decide_eq_true h2
    obtain rfl:k=0:=by rcases hd with rfl|rfl<;>omega
    have hb:=bU (J1.2 ⟨De,Int.not_lt.1 h,hk.2⟩)
    conv=>whnf
    (first|(refine Or.inl ?_;(conv=>whnf);refine ⟨_,k7 _,?_⟩)|refine ⟨_,k7 _,?_⟩)
    conv=>whnf
    rw [hb]
    simp [E7,Q4,GH (show -4611686018427387903<=a by omega) (show a<=4611686018427387903 by omega)]
   ·have h2:=of_decide_eq_false h2
    obtain ⟨m,rfl⟩:∃ m,k=m + 1:=⟨k - 1,by rcases hd with rfl|rfl<;>omega⟩
    have hb:=bU (J1.2 ⟨De,Int.not_lt.1 h,hk.2⟩)
    have hm:=mj ha hn hd (k:=m) (by omega)
    have wd:IntKind.i64.wrap (a + d * ((m + 1:Nat):Int) - d)=a + d * (m:Int):=by rw [C7 _ (by rcases hd with rfl|rfl<;>omega) (by rcases hd with rfl|rfl<;>omega)];rcases hd with rfl|rfl<;>omega
    conv=>whnf
    rw [wd]
    (repeat' (first|(refine ⟨by kernel_rfl,?_⟩;(conv=>whnf))|(refine And.intro (a:=_/\_) ⟨by omega,by omega⟩ ?_;(conv=>whnf))))
    have hv:=J1.2 ⟨De,Int.not_lt.1 h,hk.2⟩
    have b1:=mn hp ha hn hd De
    have b2:=mn hp ha hn hd (k:=m) (by omega)
    have b3:=hk.2 m (by omega)
    have b4:thr<=R9 p a d (m + 1):=Int.not_lt.1 h
    have pB:E7 p thr a d (m + 1)=(M9 ((a + d * (m:Int)) * (R9 p a d (m + 1) - R9 p a d m) + d * (thr - R9 p a d m)) (R9 p a d (m + 1) - R9 p a d m)).1:=rfl
    have w1:IntKind.i64.wrap (thr - p.getD (a + d * (m:Int)).toNat 0)=thr - R9 p a d m:=C7 (thr - R9 p a d m) (by omega) (by omega)
    have w2:IntKind.i64.wrap (p.getD (a + d * ((m + 1:Nat):Int)).toNat 0 - p.getD (a + d * (m:Int)).toNat 0)=R9 p a d (m + 1) - R9 p a d m:=C7 (R9 p a d (m + 1) - R9 p a d m) (by omega) (by omega)
    have w3:IntKind.i64.wrap (d * (thr - R9 p a d m))=d * (thr - R9 p a d m):=C7 _ (by rcases hd with rfl|rfl<;>omega) (by rcases hd with rfl|rfl<;>omega)
    have n1 : -255<=d * (thr - R9 p a d m)/\d * (thr - R9 p a d m)<=255:=by rcases hd with rfl|rfl<;>omega
    rw [w1,w2,w3]
    have cm:=Nv (d * (thr - R9 p a d m)) (R9 p a d (m + 1) - R9 p a d m) (by unfold G7;omega) (by unfold G7;omega)
    have Ux:=Kq (w:=a + d * (m:Int)) (N:=d * (thr - R9 p a d m)) (s:=R9 p a d (m + 1) - R9 p a d m) (by omega) (by omega) (by omega) (by omega) (by omega) (by omega)
    have Nh:=dW (n:=d * (thr - R9 p a d m)) (d:=R9 p a d (m + 1) - R9 p a d m) (by omega) (by omega) (by omega) (by omega)
    have ca:=Ra (a + d * (m:Int),1) (M9 (d * (thr - R9 p a d m)) (R9 p a d (m + 1) - R9 p a d m)).1
    have YK:oZ lZ (a + d * (m:Int),1) (M9 (d * (thr - R9 p a d m)) (R9 p a d (m + 1) - R9 p a d m)).1=M9 ((a + d * (m:Int)) * (R9 p a d (m + 1) - R9 p a d m) + d * (thr - R9 p a d m)) (R9 p a d (m + 1) - R9 p a d m):=by
     unfold oZ
     rw [nF (by omega) (by omega),Nh.1]
     exact Ux
    rw [YK] at ca
    rw [hb,pB]
    clear Ux Nh YK pB w1 w2 w3 n1 b1 b2 b3 b4 hv
    generalize M9 ((a + d * (m:Int)) * (R9 p a d (m + 1) - R9 p a d m) + d * (thr - R9 p a d m)) (R9 p a d (m + 1) - R9 p a d m)=R at *
    generalize M9 (d * (thr - R9 p a d m)) (R9 p a d (m + 1) - R9 p a d m)=M at *
    (first|(refine Or.inl ?_;(conv=>whnf);refine ⟨_,cm,?_⟩)|refine ⟨_,cm,?_⟩)
    conv=>whnf
    (repeat' (first|(refine ⟨by kernel_rfl,?_⟩;(conv=>whnf))|(refine And.intro (a:=_/\_) ⟨by omega,by omega⟩ ?_;(conv=>whnf))))
    (first|(refine Or.inl ?_;(conv=>whnf);refine ⟨_,k7 _,?_⟩)|refine ⟨_,k7 _,?_⟩)
    conv=>whnf
    (first|(refine Or.inl ?_;(conv=>whnf);refine ⟨_,ca,?_⟩)|refine ⟨_,ca,?_⟩)
    conv=>whnf
    (repeat' (first|(refine ⟨by kernel_rfl,?_⟩;(conv=>whnf))|(refine And.intro (a:=_/\_) ⟨by omega,by omega⟩ ?_;(conv=>whnf))))
 ·with_reducible refine zw ?_
  intro hk
  rw [hlen] at hk
  have hb:=rM (mh.2 hk.2)
  conv=>whnf
  rw [hb]
theorem Rb (x:Int):Ks x=aE x:=by unfold Ks aE;split<;>split<;>(try split)<;>(try split)<;>omega
theorem Df (p:List Int) (b:Int):(List.range p.length).map (fun i=>aE (p.getD i 0 + b))=C6 p b:=by
 refine List.ext_getElem (by simp [C6]) fun i h1 h2=>?_
 simp at h1
 simp [C6,List.getD,h1]
theorem iS (b:Int):PC Tryz.prog 249 [i64 b] (.fn (.func 289) [] [.pt [i64 b] 0]):=by
 refine pF Tryz.func249 ?_
 conv=>whnf
theorem vd (p:List Int) (b:Int) (h0:p≠[]) (hl:p.length < 2 ^ 30) (hp:rK p) (b1 : -64<=b) (b2:b<=64):PW Tryz.prog 289 [C8 p,.pt [i64 b] 0] [] (.own 0) [.vec 3 1 0 eI (C6 p b)]:=by
 refine pW Tryz.func289 ⟨by kernel_rfl,?_⟩
 conv=>whnf
 (refine Or.inr ⟨[],[8],by kernel_rfl,?_⟩;(conv=>whnf);refine ⟨[],_,_,_,_,⟨zR p h0 hl,rfl,rfl,by kernel_rfl⟩,?_⟩)
 conv=>whnf
 refine Or.inr ⟨Nat,[11],[8],[],fun k=>[i64 k],fun k=>[.vec 3 1 0 eI (bu p (fun i=>aE (p.getD i 0 + b)) k)],fun _=>[],fun k=>p.length - k,fun k=>k<=p.length,?_⟩
 conv=>whnf
 refine ⟨⟨0,?_⟩,?_⟩
 ·(conv=>whnf)
  refine kK ⟨Nat.zero_le _,rfl,?_,rfl⟩
  show [Row.vec 3 1 0 eI p]=[Row.vec 3 1 0 eI (bu p _ 0)]
  rw [uZ]
 ·intro k hk
  conv=>whnf
  refine ⟨fun h=>?_,fun h=>?_⟩
  ·have h:=of_decide_eq_true h
   have a1:=hp k (by omega)
   conv=>whnf
   refine ⟨⟨by omega,by rw [R3];omega⟩,?_⟩
   conv=>whnf
   refine ⟨by rw [R3];omega,?_⟩
   conv=>whnf
   refine ⟨⟨by omega,by rw [R3];omega⟩,?_⟩
   conv=>whnf
   refine ⟨aE (p.getD k 0 + b),?_,by rw [R3];omega,?_⟩
   ·have e1:(bu p (fun i=>aE (p.getD i 0 + b)) k).getD (Int.toNat (k:Int)) 0=p.getD k 0:=by
     show (bu p _ k).getD k 0=_
     rw [uY p _ k k (by omega)];simp
    rw [e1,C7 (p.getD k 0 + b) (by omega) (by omega),<- Rb]
    rfl
   conv=>whnf
   refine ⟨k + 1,?_⟩
   conv=>whnf
   refine kK ⟨⟨Nat.sub_lt_sub_left (by omega) (Nat.lt_succ_self k),by omega⟩,?_,?_,rfl⟩
   ·rw [C7 _ (by omega) (by omega)];rfl
   ·show [Row.vec _ 1 0 eI ((bu p _ k).set k (aE (p.getD k 0 + b)))]=_
    rw [show (bu p (fun i=>aE (p.getD i 0 + b)) k).set k (aE (p.getD k 0 + b))=_ from vc p (fun i=>aE (p.getD i 0 + b)) k]
  ·have h:=of_decide_eq_false h
   obtain rfl:k=p.length:=by omega
   conv=>whnf
   refine ⟨[8],by kernel_rfl,?_⟩
   conv=>whnf
   refine ⟨rfl,?_⟩
   show [Row.vec _ 1 0 eI (bu p _ p.length)]=_
   rw [zT,Df]
   rfl

end Go.Proofs.Tryz.My
