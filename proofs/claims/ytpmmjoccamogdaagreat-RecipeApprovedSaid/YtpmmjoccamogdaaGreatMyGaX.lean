/- Helper lemmas. -/
import Derived.Test.YtpmmjoccamogdaaGreatMyGpA
import Derived.Test.YtpmmjoccamogdaaGreatMyEaA
import Derived.Test.YtpmmjoccamogdaaGreatMyRfC
set_option linter.unusedVariables false
set_option linter.unusedSimpArgs false
set_option maxRecDepth 100000
set_option maxHeartbeats 0
namespace Go.Proofs.Tryz.My
open Go Go.Ev
theorem N9 (lo hi n:Int):PC Tryz.prog 46 [i64 lo,i64 hi,i64 n] (.bool (A0 n lo hi)):=by
 refine pF Tryz.func46 ?_
 conv=>whnf
 refine ⟨fun h=>?_,fun h=>?_⟩<;>((conv=>whnf);simp_all [-decide_eq_true_eq,-decide_eq_false_iff_not,A0])
theorem du (bk:Nat) (p:Int->Bool) (hp:∀ n,PC Tryz.prog bk [i64 n] (.bool (p n))) (l:List Int) (hl:l.length < 2 ^ 40):PC Tryz.prog 89 [I7 l,.fn (.func bk) [] []] (i64 (mf p l)):=by
 refine pF Tryz.func89 ?_
 conv=>whnf
 refine Or.inr ⟨Nat,[8],[],[],fun k=>[i64 k],fun _=>[],fun _=>[],fun k=>l.length - k,fun k=>k<=l.length/\∀ i,i < k->p (l.getD i 0)=false,?_⟩
 conv=>whnf
 refine ⟨⟨0,?_⟩,?_⟩
 ·(conv=>whnf)
  exact kK ⟨by simp,rfl,rfl,rfl⟩
 ·intro k hk
  conv=>whnf
  refine ⟨fun h=>?_,fun h=>?_⟩
  ·have h:=of_decide_eq_true h
   conv=>whnf
   refine ⟨⟨by omega,by omega⟩,?_⟩
   conv=>whnf
   (first|(refine Or.inl ?_;(conv=>whnf);refine ⟨_,hp _,?_⟩)|refine ⟨_,hp _,?_⟩)
   conv=>whnf
   refine ⟨fun h2=>?_,fun h2=>?_⟩
   ·(conv=>whnf)
    exact congrArg i64 (iL _ 0 l k (by omega) h2 hk.2).symm
   ·refine ⟨k + 1,?_⟩
    conv=>whnf
    refine kK ⟨⟨?_,?_,?_⟩,?_,rfl,rfl⟩
    ·show l.length - (k + 1) < l.length - k;omega
    ·omega
    ·intro i hi
     by_cases e:i=k
     ·subst e;exact h2
     ·exact hk.2 i (by omega)
    ·rw [L9 _ (by omega) (by omega)];rfl
  ·have h:=of_decide_eq_false h
   conv=>whnf
   exact congrArg i64 (eU _ 0 l fun i hi=>hk.2 i (by omega)).symm
theorem gz (bk:Nat) (p:Int->Bool) (hp:∀ n,PC Tryz.prog bk [i64 n] (.bool (p n))) (l:List Int) (hl:l.length < 2 ^ 40):PC Tryz.prog 71 [I7 l,.fn (.func bk) [] []] (.bool (l.any p)):=by
 refine pF Tryz.func71 ?_
 conv=>whnf
 (first|(refine Or.inl ?_;(conv=>whnf);refine ⟨_,du bk p hp l hl,?_⟩)|refine ⟨_,du bk p hp l hl,?_⟩)
 conv=>whnf
 rw [iM]
theorem yr (l:List Int) (h0:l≠[]) (hl:l.length < 2 ^ 30):PW Tryz.prog 38 [I7 l] [] (.own 0) [.vec 3 1 0 eI l]:=by
 refine pW Tryz.func38 ⟨by kernel_rfl,?_⟩
 conv=>whnf
 intro b hb
 conv=>whnf
 refine ⟨fun h=>absurd (hb h) h0,fun h=>?_⟩
 conv=>whnf
 refine ⟨⟨Int,1,0,eI,[]⟩,l,rfl,⟨rfl,rfl⟩,rfl,?_,?_,fun y _=>⟨rfl,rfl,rfl⟩,?_⟩
 ·show (0 + l.length) * 8<=_;omega
 ·show 0 + l.length<=_;omega
 conv=>whnf
 refine ⟨[7],by kernel_rfl,?_⟩
 conv=>whnf
 exact ⟨rfl,rfl⟩
def vo (n:Int):Bool := !A0 n 0 255
theorem gA (n:Int):PC Tryz.prog 109 [i64 n] (.bool (vo n)):=by
 refine pF Tryz.func109 ?_
 conv=>whnf
 (first|(refine Or.inl ?_;(conv=>whnf);refine ⟨_,N9 0 255 n,?_⟩)|refine ⟨_,N9 0 255 n,?_⟩)
 conv=>whnf
 rfl
def P6 (l:List Int):Bool:=A0 l.length 2 64 && !l.any vo
theorem iG (l:List Int) (hl:l.length < 2 ^ 40):PC Tryz.prog 100 [I7 l] (i64 (if P6 l then 0 else 50)):=by
 refine pF Tryz.func100 ?_
 conv=>whnf
 (repeat' ((first|refine aU fun hh=>?_|refine aV fun hh=>?_|refine aS (fun hh=>?_) fun hh=>?_|refine kR ?_|((try refine Or.inl ?_;conv=>whnf);(try refine ⟨false,?_⟩;conv=>whnf);refine ⟨_,by first|exact N9 2 64 l.length|exact gz _ vo gA l hl,?_⟩)|fail)<;>conv=>whnf))
 all_goals simp_all [P6]
def FU (x:Int):Int:=if 255 < (if 0 > x then 0 else x) then 255 else (if 0 > x then 0 else x)
def ay (p:List Int) (f:Nat->Int) (k:Nat):List Int:=(List.range p.length).map fun i=>if i < k then f i else p.getD i 0
theorem ab (p:List Int) (f:Nat->Int) (k:Nat):(ay p f k).length=p.length:=by simp [ay]
theorem vp (p:List Int) (f:Nat->Int) (k i:Nat) (h:i < p.length):(ay p f k).getD i 0=if i < k then f i else p.getD i 0:=by simp [ay,List.getD,h]
theorem vr (p:List Int) (f:Nat->Int):ay p f 0=p:=by
 refine List.ext_getElem (by simp [ay]) fun i h1 h2=>?_
 simp [ay,List.getD,h2]
theorem vu (p:List Int) (f:Nat->Int) (k:Nat):(ay p f k).set k (f k)=ay p f (k + 1):=by
 refine List.ext_getElem (by simp [ay]) fun i h1 h2=>?_
 simp only [ay,List.getElem_set,List.getElem_map,List.getElem_range]
 by_cases e:k=i
 ·subst e;simp
 ·simp only [e,if_false]
  by_cases h:i < k
  ·simp [h,show i < k + 1 by omega]
  ·simp [h,show ¬ i < k + 1 by omega]
theorem yu (p:List Int) (f:Nat->Int):ay p f p.length=(List.range p.length).map f:=by
 refine List.ext_getElem (by simp [ay]) fun i h1 h2=>?_
 simp [ay] at h1 ⊢
 intro h;omega
theorem yw {l:List Int} {q:Int->Bool} (h:l.any q=false) (i:Nat) (hi:i < l.length):q (l.getD i 0)=false:=by
 have:=List.any_eq_false.1 h (l.getD i 0) (by simp [List.getD,hi])
 simpa using this
theorem sG {l:List Int} (h:l.any vo=false) (i:Nat) (hi:i < l.length):0<=l.getD i 0/\l.getD i 0<=255:=by
 have:=yw h i hi
 simp only [vo,A0,Bool.not_eq_false',Bool.and_eq_true,decide_eq_true_eq] at this
 exact this
theorem aX {p:List Int} (h:P6 p=true):2<=p.length/\p.length<=64:=by
 simp only [P6,A0,Bool.and_eq_true,decide_eq_true_eq] at h;omega
theorem yx {p:List Int} (h:P6 p=true):p.any vo=false:=by
 simp only [P6,Bool.and_eq_true] at h
 simpa using h.2
def kf (n:Nat) (a d:Int):List (List AV):=(List.range (G1 n a d)).map fun (k:Nat)=>[i64 (a + d * k)]
theorem qt (n:Nat) (a d:Int) (k:Nat):(kf n a d)[k]? = if k < G1 n a d then some [i64 (a + d * k)] else none:=by
 unfold kf
 rw [List.getElem?_map]
 by_cases h:k < G1 n a d<;>simp [h]
theorem Bg (n:Nat) (a d:Int) (ha:0<=a) (hn:a < n) (hl:n < 2 ^ 40) (hd:im d):SQ Tryz.prog 110 [.pt [i64 a] 0,.pt [i64 n] 0,.pt [i64 d] 0] (kf n a d):=by
 have hs:G1 n a d<=n:=by unfold G1;rcases hd with rfl|rfl<;>simp<;>omega
 have step:∀ k:Nat,(k < G1 n a d↔0<=a + d * k/\a + d * k < n)/\(a + d * k + d=a + d * ((k + 1:Nat):Int)):=by
  intro k
  constructor
  ·unfold G1
   rcases hd with rfl|rfl<;>simp<;>omega
  ·rcases hd with rfl|rfl<;>omega
 have ao:=qt n a d
 have hlen:(kf n a d).length=G1 n a d:=by simp [kf]
 generalize kf n a d=xs at *
 generalize G1 n a d=m at *
 refine pU hm Tryz.func110 (by kernel_rfl) ⟨by kernel_rfl,fun l=>?_⟩
 conv=>whnf
 refine Or.inr ⟨Nat,[5],[22],[],fun k=>[i64 (a + d * k)],fun k=>[.ctr l xs k false],fun _=>[],fun k=>m - k,fun k=>k<=m,?_⟩
 conv=>whnf
 refine ⟨⟨0,?_⟩,?_⟩
 ·(conv=>whnf)
  refine kK ⟨Nat.zero_le _,?_,rfl,rfl⟩
  show [i64 a]=[i64 (a + d * ((0:Nat):Int))]
  simp
 ·intro k hk
  have st:=step k
  conv=>whnf
  refine ⟨fun h=>?_,fun h=>?_⟩
  ·have h:=of_decide_eq_true h
   conv=>whnf
   refine ⟨fun h2=>?_,fun h2=>?_⟩
   ·have h2:=of_decide_eq_true h2
    have LL:=st.1.2 ⟨h,h2⟩
    conv=>whnf
    refine ⟨⟨rfl,by exact (ao k).trans (by rw [if_pos LL];rfl),by kernel_rfl⟩,?_,?_⟩
    ·(conv=>whnf)
     refine ⟨k + 1,?_⟩
     conv=>whnf
     refine kK ⟨⟨Nat.sub_lt_sub_left (by omega) (Nat.lt_succ_self k),by omega⟩,?_,rfl,rfl⟩
     rw [L9 _ (by rcases hd with rfl|rfl<;>omega) (by rcases hd with rfl|rfl<;>omega),st.2]
    ·(conv=>whnf)
     intro h;cases h
   ·have h2:=of_decide_eq_false h2
    conv=>whnf
    intro _
    rw [hlen]
    have:=mt st.1.1 (fun k=>h2 k.2)
    omega
  ·have h:=of_decide_eq_false h
   conv=>whnf
   intro _
   rw [hlen]
   have:=mt st.1.1 (fun k=>h k.1)
   omega
theorem vw (p:List Int) (thr a j9:Int) (hl:p.length < 2 ^ 40):PC Tryz.prog 90 [I7 p,i64 thr,i64 a,i64 j9] (i64 (if P6 p then (if gx p thr a j9 then 0 else 2) else 50)):=by
 have c1:=iG p hl
 have hw:IntKind.i64.wrap ((p.length:Int) - 1)=(p.length:Int) - 1:=L9 _ (by omega) (by omega)
 cases hp:P6 p
 ·rw [hp] at c1
  refine pF Tryz.func90 ?_
  conv=>whnf
  (repeat' ((first|refine aU fun hh=>?_|refine aV fun hh=>?_|refine aS (fun hh=>?_) fun hh=>?_|refine kR ?_|((try refine Or.inl ?_;conv=>whnf);(try refine ⟨false,?_⟩;conv=>whnf);refine ⟨_,by exact c1,?_⟩)|fail)<;>conv=>whnf))
  all_goals simp
 rw [hp] at c1
 refine pF Tryz.func90 ?_
 conv=>whnf
 (repeat' ((first|refine aU fun hh=>?_|refine aV fun hh=>?_|refine aS (fun hh=>?_) fun hh=>?_|refine kR ?_|((try refine Or.inl ?_;conv=>whnf);(try refine ⟨false,?_⟩;conv=>whnf);refine ⟨_,by first|exact c1|exact N9 _ _ _,?_⟩)|fail)<;>conv=>whnf))
 all_goals (first|(simp_all [gx,A0];done)|(simp_all [gx,A0];intros;omega))
theorem gB {p:List Int} (h:P6 p=true):jY p:=fun i hi=>sG (yx h) i hi
theorem mE {p:List Int} {thr a j9:Int} (h:gx p thr a j9=true):1<=thr/\thr<=255/\0<=a/\a < p.length/\0<=j9/\j9<=64:=by
 simp only [gx,Bool.and_eq_true,decide_eq_true_eq] at h
 omega
theorem Bh (n:Int) (a d:Int):PC Tryz.prog 101 [i64 n,i64 a,i64 d] (.fn (.func 110) [] [.pt [i64 a] 0,.pt [i64 n] 0,.pt [i64 d] 0]):=by
 refine pF Tryz.func101 ?_
 conv=>whnf
theorem aY (n:Int):PC Tryz.prog 28 [i64 n] (fr (n,1)):=by
 refine pF Tryz.func28 ?_
 conv=>whnf
 (repeat' ((first|refine aU fun hh=>?_|refine aV fun hh=>?_|refine aS (fun hh=>?_) fun hh=>?_|refine kR ?_|fail)<;>conv=>whnf))
set_option maxHeartbeats 1000000
theorem kh (p:List Int) (thr a d:Int) (hp:jY p) (hl:p.length<=64) (ha:0<=a) (hn:a < p.length) (hd:im d) (t1:1<=thr) (t2:thr<=255) :
  PC Tryz.prog 91 [I7 p,i64 thr,i64 a,i64 d] (.tup [fr (sB p thr a d).1,.bool (sB p thr a d).2]):=by
 have sq:=Bg p.length a d ha hn (by omega) hd
 have ao:=qt p.length a d
 have hlen:(kf p.length a d).length=G1 p.length a d:=by simp [kf]
 have FV:∀ x ∈ kf p.length a d,Y7 x=true/\x.length=1:=by
  intro x hx
  obtain ⟨k,_,rfl⟩:=List.mem_map.1 hx
  exact ⟨by kernel_rfl,rfl⟩
 have Gx:∀ k x,(kf p.length a d)[k]? = some x->k < G1 p.length a d/\x=[i64 (a + d * (k:Int))]:=by
  intro k x hx
  rw [ao] at hx
  by_cases Bi:k < G1 p.length a d
  ·rw [if_pos Bi] at hx
   exact ⟨Bi,(Option.some.inj hx).symm⟩
  ·rw [if_neg Bi] at hx;cases hx
 refine pF Tryz.func91 ?_
 conv=>whnf
 (repeat' ((first|refine aU fun hh=>?_|refine aV fun hh=>?_|refine aS (fun hh=>?_) fun hh=>?_|refine kR ?_|((try refine Or.inl ?_;conv=>whnf);(try refine ⟨false,?_⟩;conv=>whnf);refine ⟨_,by exact Bh _ _ _,?_⟩)|fail)<;>conv=>whnf))
 refine ⟨kf p.length a d,[],fun _=>[],fun k=>k<=G1 p.length a d/\∀ j,j < k->L0 p a d j < thr,⟨sq,FV⟩,?_⟩
 refine ⟨by kernel_rfl,?_⟩
 refine ⟨?_,?_⟩
 ·(conv=>whnf)
  exact kK ⟨⟨Nat.zero_le _,fun j hj=>absurd hj (Nat.not_lt_zero j)⟩,rfl,rfl,rfl⟩
 refine ⟨?_,?_⟩
 ·with_reducible refine vc Gx ?_
  intro k Bi hk
  have fK:=fo ha hn hd Bi
  conv=>whnf
  (repeat' (first|(refine ⟨by kernel_rfl,?_⟩;(conv=>whnf))|(refine And.intro (a:=_/\_) ⟨by omega,by omega⟩ ?_;(conv=>whnf))))
  refine ⟨fun h=>?_,fun h=>?_⟩
  ·have h:=of_decide_eq_true h
   conv=>whnf
   refine ⟨⟨⟨by omega,fun j hj=>?_⟩,rfl⟩,by kernel_rfl⟩
   by_cases e:j=k
   ·subst e;exact h
   ·exact hk.2 j (by omega)
  ·have h:=of_decide_eq_false h
   conv=>whnf
   refine ⟨fun h2=>?_,fun h2=>?_⟩
   ·have h2:=of_decide_eq_true h2
    obtain rfl:k=0:=by rcases hd with rfl|rfl<;>omega
    have hb:=U6 (G2.2 ⟨Bi,Int.not_lt.1 h,hk.2⟩)
    conv=>whnf
    (first|(refine Or.inl ?_;(conv=>whnf);refine ⟨_,aY _,?_⟩)|refine ⟨_,aY _,?_⟩)
    conv=>whnf
    rw [hb]
    simp [C8,J1,vm (show -4611686018427387903<=a by omega) (show a<=4611686018427387903 by omega)]
   ·have h2:=of_decide_eq_false h2
    obtain ⟨m,rfl⟩:∃ m,k=m + 1:=⟨k - 1,by rcases hd with rfl|rfl<;>omega⟩
    have hb:=U6 (G2.2 ⟨Bi,Int.not_lt.1 h,hk.2⟩)
    have hm:=fo ha hn hd (k:=m) (by omega)
    have wd:IntKind.i64.wrap (a + d * ((m + 1:Nat):Int) - d)=a + d * (m:Int):=by rw [L9 _ (by rcases hd with rfl|rfl<;>omega) (by rcases hd with rfl|rfl<;>omega)];rcases hd with rfl|rfl<;>omega
    conv=>whnf
    rw [wd]
    (repeat' (first|(refine ⟨by kernel_rfl,?_⟩;(conv=>whnf))|(refine And.intro (a:=_/\_) ⟨by omega,by omega⟩ ?_;(conv=>whnf))))
    have hv:=G2.2 ⟨Bi,Int.not_lt.1 h,hk.2⟩
    have b1:=fq hp ha hn hd Bi
    have b2:=fq hp ha hn hd (k:=m) (by omega)
    have b3:=hk.2 m (by omega)
    have b4:thr<=L0 p a d (m + 1):=Int.not_lt.1 h
    have iy:C8 p thr a d (m + 1)=(F6 ((a + d * (m:Int)) * (L0 p a d (m + 1) - L0 p a d m) + d * (thr - L0 p a d m)) (L0 p a d (m + 1) - L0 p a d m)).1:=rfl
    have w1:IntKind.i64.wrap (thr - p.getD (a + d * (m:Int)).toNat 0)=thr - L0 p a d m:=L9 (thr - L0 p a d m) (by omega) (by omega)
    have w2:IntKind.i64.wrap (p.getD (a + d * ((m + 1:Nat):Int)).toNat 0 - p.getD (a + d * (m:Int)).toNat 0)=L0 p a d (m + 1) - L0 p a d m:=L9 (L0 p a d (m + 1) - L0 p a d m) (by omega) (by omega)
    have w3:IntKind.i64.wrap (d * (thr - L0 p a d m))=d * (thr - L0 p a d m):=L9 _ (by rcases hd with rfl|rfl<;>omega) (by rcases hd with rfl|rfl<;>omega)
    have n1 : -255<=d * (thr - L0 p a d m)/\d * (thr - L0 p a d m)<=255:=by rcases hd with rfl|rfl<;>omega
    rw [w1,w2,w3]
    have cm:=AH (d * (thr - L0 p a d m)) (L0 p a d (m + 1) - L0 p a d m) (by unfold K6;omega) (by unfold K6;omega)
    have FX:=yn (w:=a + d * (m:Int)) (N:=d * (thr - L0 p a d m)) (s:=L0 p a d (m + 1) - L0 p a d m) (by omega) (by omega) (by omega) (by omega) (by omega) (by omega)
    have Ar:=aa (n:=d * (thr - L0 p a d m)) (d:=L0 p a d (m + 1) - L0 p a d m) (by omega) (by omega) (by omega) (by omega)
    have ca:=DC (a + d * (m:Int),1) (F6 (d * (thr - L0 p a d m)) (L0 p a d (m + 1) - L0 p a d m)).1
    have JX:iq eZ (a + d * (m:Int),1) (F6 (d * (thr - L0 p a d m)) (L0 p a d (m + 1) - L0 p a d m)).1=F6 ((a + d * (m:Int)) * (L0 p a d (m + 1) - L0 p a d m) + d * (thr - L0 p a d m)) (L0 p a d (m + 1) - L0 p a d m):=by
     unfold iq
     rw [gu (by omega) (by omega),Ar.1]
     exact FX
    rw [JX] at ca
    rw [hb,iy]
    clear FX Ar JX iy w1 w2 w3 n1 b1 b2 b3 b4 hv
    generalize F6 ((a + d * (m:Int)) * (L0 p a d (m + 1) - L0 p a d m) + d * (thr - L0 p a d m)) (L0 p a d (m + 1) - L0 p a d m)=R at *
    generalize F6 (d * (thr - L0 p a d m)) (L0 p a d (m + 1) - L0 p a d m)=M at *
    (first|(refine Or.inl ?_;(conv=>whnf);refine ⟨_,cm,?_⟩)|refine ⟨_,cm,?_⟩)
    conv=>whnf
    (repeat' (first|(refine ⟨by kernel_rfl,?_⟩;(conv=>whnf))|(refine And.intro (a:=_/\_) ⟨by omega,by omega⟩ ?_;(conv=>whnf))))
    (first|(refine Or.inl ?_;(conv=>whnf);refine ⟨_,aY _,?_⟩)|refine ⟨_,aY _,?_⟩)
    conv=>whnf
    (first|(refine Or.inl ?_;(conv=>whnf);refine ⟨_,ca,?_⟩)|refine ⟨_,ca,?_⟩)
    conv=>whnf
    (repeat' (first|(refine ⟨by kernel_rfl,?_⟩;(conv=>whnf))|(refine And.intro (a:=_/\_) ⟨by omega,by omega⟩ ?_;(conv=>whnf))))
 ·with_reducible refine xH ?_
  intro hk
  rw [hlen] at hk
  have hb:=jZ (fj.2 hk.2)
  conv=>whnf
  rw [hb]
theorem DD (x:Int):FU x=S7 x:=by unfold FU S7;split<;>split<;>(try split)<;>(try split)<;>omega
theorem sH (p:List Int) (b:Int):(List.range p.length).map (fun i=>S7 (p.getD i 0 + b))=C6 p b:=by
 refine List.ext_getElem (by simp [C6]) fun i h1 h2=>?_
 simp at h1
 simp [C6,List.getD,h1]
theorem cB (b:Int):PC Tryz.prog 92 [i64 b] (.fn (.func 104) [] [.pt [i64 b] 0]):=by
 refine pF Tryz.func92 ?_
 conv=>whnf
theorem mF (p:List Int) (b:Int) (h0:p≠[]) (hl:p.length < 2 ^ 30) (hp:jY p) (b1 : -64<=b) (b2:b<=64):PW Tryz.prog 104 [I7 p,.pt [i64 b] 0] [] (.own 0) [.vec 3 1 0 eI (C6 p b)]:=by
 refine pW Tryz.func104 ⟨by kernel_rfl,?_⟩
 conv=>whnf
 (refine Or.inr ⟨[],[8],by kernel_rfl,?_⟩;(conv=>whnf);refine ⟨[],_,_,_,_,⟨yr p h0 hl,rfl,rfl,by kernel_rfl⟩,?_⟩)
 conv=>whnf
 refine Or.inr ⟨Nat,[11],[8],[],fun k=>[i64 k],fun k=>[.vec 3 1 0 eI (ay p (fun i=>S7 (p.getD i 0 + b)) k)],fun _=>[],fun k=>p.length - k,fun k=>k<=p.length,?_⟩
 conv=>whnf
 refine ⟨⟨0,?_⟩,?_⟩
 ·(conv=>whnf)
  refine kK ⟨Nat.zero_le _,rfl,?_,rfl⟩
  show [Row.vec 3 1 0 eI p]=[Row.vec 3 1 0 eI (ay p _ 0)]
  rw [vr]
 ·intro k hk
  conv=>whnf
  refine ⟨fun h=>?_,fun h=>?_⟩
  ·have h:=of_decide_eq_true h
   have a1:=hp k (by omega)
   conv=>whnf
   refine ⟨⟨by omega,by rw [ab];omega⟩,?_⟩
   conv=>whnf
   refine ⟨by rw [ab];omega,?_⟩
   conv=>whnf
   refine ⟨⟨by omega,by rw [ab];omega⟩,?_⟩
   conv=>whnf
   refine ⟨S7 (p.getD k 0 + b),?_,by rw [ab];omega,?_⟩
   ·have e1:(ay p (fun i=>S7 (p.getD i 0 + b)) k).getD (Int.toNat (k:Int)) 0=p.getD k 0:=by
     show (ay p _ k).getD k 0=_
     rw [vp p _ k k (by omega)];simp
    rw [e1,L9 (p.getD k 0 + b) (by omega) (by omega),<- DD]
    rfl
   conv=>whnf
   refine ⟨k + 1,?_⟩
   conv=>whnf
   refine kK ⟨⟨Nat.sub_lt_sub_left (by omega) (Nat.lt_succ_self k),by omega⟩,?_,?_,rfl⟩
   ·rw [L9 _ (by omega) (by omega)];rfl
   ·show [Row.vec _ 1 0 eI ((ay p _ k).set k (S7 (p.getD k 0 + b)))]=_
    rw [show (ay p (fun i=>S7 (p.getD i 0 + b)) k).set k (S7 (p.getD k 0 + b))=_ from vu p (fun i=>S7 (p.getD i 0 + b)) k]
  ·have h:=of_decide_eq_false h
   obtain rfl:k=p.length:=by omega
   conv=>whnf
   refine ⟨[8],by kernel_rfl,?_⟩
   conv=>whnf
   refine ⟨rfl,?_⟩
   show [Row.vec _ 1 0 eI (ay p _ p.length)]=_
   rw [yu,sH]
   rfl

end Go.Proofs.Tryz.My
