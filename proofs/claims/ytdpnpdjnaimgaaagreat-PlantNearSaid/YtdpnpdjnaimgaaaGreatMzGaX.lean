/- A helper text: contracts of functions of the program, and plain lemmas. -/
import Derived.Test.YtdpnpdjnaimgaaaGreatEvSix
import Derived.Test.YtdpnpdjnaimgaaaGreatMzExA
import Derived.Test.YtdpnpdjnaimgaaaGreatMzGpA
import Derived.Test.YtdpnpdjnaimgaaaGreatMzEaA
import Derived.Test.YtdpnpdjnaimgaaaGreatMzRfC
set_option maxRecDepth 100000
set_option maxHeartbeats 0
set_option linter.unusedVariables false
set_option linter.unusedSimpArgs false
namespace Go.Proofs.Tryz.My
open Go Go.Ev
theorem E5 (lo hi n:Int):PC Tryz.prog 87 [i64 lo,i64 hi,i64 n] (.bool (n8 n lo hi)):=by
 refine a7 hm Tryz.func87 (by kernel_rfl) ?_
 conv=>whnf
 refine ⟨fun h => ?_,fun h => ?_⟩<;>((conv=>whnf); simp_all [-decide_eq_true_eq,-decide_eq_false_iff_not,n8])
theorem a0p (fid:Nat) (p:Int->Bool) (hp:∀ n,PC Tryz.prog fid [i64 n] (.bool (p n))) (l:List Int) (hl:l.length < 2 ^ 40):PC Tryz.prog 138 [ints l,.fn (.func fid) [] []] (i64 (ixF p l)):=by
 refine a7 hm Tryz.func138 (by kernel_rfl) ?_
 conv=>whnf
 refine Or.inr ⟨Nat,[8],[],[],fun k=>[i64 k],fun _=>[],fun _=>[],fun k=>l.length - k,fun k=>k<=l.length/\∀ i,i < k->p (l.getD i 0)=false,?_⟩
 conv=>whnf
 refine ⟨⟨0,?_⟩,?_⟩
 ·(conv=>whnf)
  exact ⟨⟨by simp,rfl,rfl,rfl⟩,by kernel_rfl,by kernel_rfl⟩
 ·intro k hk
  conv=>whnf
  refine ⟨fun h => ?_,fun h => ?_⟩
  ·have h:=of_decide_eq_true h
   conv=>whnf
   refine ⟨⟨by omega,by omega⟩,?_⟩
   conv=>whnf
   (first | (refine Or.inl ?_; (conv=>whnf); refine ⟨_,hp _,?_⟩) | refine ⟨_,hp _,?_⟩)
   conv=>whnf
   refine ⟨fun h2 => ?_,fun h2 => ?_⟩
   ·(conv=>whnf)
    exact congrArg i64 (a2a _ 0 l k (by omega) h2 hk.2).symm
   ·refine ⟨k + 1,?_⟩
    conv=>whnf
    refine ⟨⟨⟨?_,?_,?_⟩,?_,rfl,rfl⟩,by kernel_rfl,by kernel_rfl⟩
    ·show l.length - (k + 1) < l.length - k; omega
    ·omega
    ·intro i hi
     by_cases e:i=k
     ·subst e; exact h2
     ·exact hk.2 i (by omega)
    ·rw [w64 _ (by omega) (by omega)]; rfl
  ·have h:=of_decide_eq_false h
   conv=>whnf
   exact congrArg i64 (a0U _ 0 l fun i hi=>hk.2 i (by omega)).symm
theorem I7 (fid:Nat) (p:Int->Bool) (hp:∀ n,PC Tryz.prog fid [i64 n] (.bool (p n))) (l:List Int) (hl:l.length < 2 ^ 40):PC Tryz.prog 84 [ints l,.fn (.func fid) [] []] (.bool (l.any p)):=by
 refine a7 hm Tryz.func84 (by kernel_rfl) ?_
 conv=>whnf
 (first | (refine Or.inl ?_; (conv=>whnf); refine ⟨_,a0p fid p hp l hl,?_⟩) | refine ⟨_,a0p fid p hp l hl,?_⟩)
 conv=>whnf
 rw [a2b]
theorem a63 (l:List Int) (h0:l≠[]) (hl:l.length < 2 ^ 30):PW Tryz.prog 129 [ints l] [] (.own 0) [.vec 3 1 0 eI l]:=by
 refine a9 hm Tryz.func129 (by kernel_rfl) ⟨by kernel_rfl,?_⟩
 conv=>whnf
 intro b hb
 conv=>whnf
 refine ⟨fun h=>absurd (hb h) h0,fun h => ?_⟩
 conv=>whnf
 refine ⟨⟨Int,1,0,eI,[]⟩,l,rfl,⟨rfl,rfl⟩,rfl,?_,?_,fun y _=>⟨rfl,rfl,rfl⟩,?_⟩
 ·show (0 + l.length) * 8<=_; omega
 ·show 0 + l.length<=_; omega
 conv=>whnf
 refine ⟨[7],by kernel_rfl,?_⟩
 conv=>whnf
 exact ⟨rfl,rfl⟩
def badV (n:Int):Bool := !n8 n 0 255
theorem a1v (n:Int):PC Tryz.prog 86 [i64 n] (.bool (badV n)):=by
 refine a7 hm Tryz.func86 (by kernel_rfl) ?_
 conv=>whnf
 (first | (refine Or.inl ?_; (conv=>whnf); refine ⟨_,E5 0 255 n,?_⟩) | refine ⟨_,E5 0 255 n,?_⟩)
 conv=>whnf
 rfl
def y8 (l:List Int):Bool:=n8 l.length 2 64 && !l.any badV
theorem F2 (l:List Int) (hl:l.length < 2 ^ 40):PC Tryz.prog 46 [ints l] (i64 (if y8 l then 0 else 50)):=by
 refine a7 hm Tryz.func46 (by kernel_rfl) ?_
 conv=>whnf
 (repeat' first|(refine ansS (fun hh=>?_) (fun hh=>?_)<;>(try simp only [ansX] at hh)<;>first|(exfalso;first|omega|(simp [*] at hh;done)|(revert hh;decide))|exact absurd (by assumption) hh|conv=>whnf)|((first|refine kR ?_|refine aB ?_|refine aL ?_|refine aN ?_|((try (refine Or.inl ?_;conv=>whnf));(try (refine ⟨false,?_⟩;conv=>whnf));refine ⟨_,by first | exact E5 2 64 l.length | exact I7 _ badV a1v l hl,?_⟩)|fail);conv=>whnf))
 all_goals simp_all [y8]
def clip (x:Int):Int:=if 255 < (if 0 > x then 0 else x) then 255 else (if 0 > x then 0 else x)
def mixL (p:List Int) (f:Nat->Int) (k:Nat):List Int:=(List.range p.length).map fun i=>if i < k then f i else p.getD i 0
theorem C2 (p:List Int) (f:Nat->Int) (k:Nat):(mixL p f k).length=p.length:=by simp [mixL]
theorem a4p (p:List Int) (f:Nat->Int) (k i:Nat) (h:i < p.length):(mixL p f k).getD i 0=if i < k then f i else p.getD i 0:=by simp [mixL,List.getD,h]
theorem a4q (p:List Int) (f:Nat->Int):mixL p f 0=p:=by
 refine List.ext_getElem (by simp [mixL]) fun i h1 h2 => ?_
 simp [mixL,List.getD,h2]
theorem a4r (p:List Int) (f:Nat->Int) (k:Nat):(mixL p f k).set k (f k)=mixL p f (k + 1):=by
 refine List.ext_getElem (by simp [mixL]) fun i h1 h2 => ?_
 simp only [mixL,List.getElem_set,List.getElem_map,List.getElem_range]
 by_cases e:k=i
 ·subst e; simp
 ·simp only [e,if_false]
  by_cases h:i < k
  ·simp [h,show i < k + 1 by omega]
  ·simp [h,show ¬ i < k + 1 by omega]
theorem a64 (p:List Int) (f:Nat->Int):mixL p f p.length=(List.range p.length).map f:=by
 refine List.ext_getElem (by simp [mixL]) fun i h1 h2 => ?_
 simp [mixL] at h1 ⊢
 intro h; omega
theorem a65 {l:List Int} {q:Int->Bool} (h:l.any q=false) (i:Nat) (hi:i < l.length):q (l.getD i 0)=false:=by
 have:=List.any_eq_false.1 h (l.getD i 0) (by simp [List.getD,hi])
 simpa using this
theorem a0E {l:List Int} (h:l.any badV=false) (i:Nat) (hi:i < l.length):0<=l.getD i 0/\l.getD i 0<=255:=by
 have:=a65 h i hi
 simp only [badV,n8,Bool.not_eq_false',Bool.and_eq_true,decide_eq_true_eq] at this
 exact this
theorem E6 {p:List Int} (h:y8 p=true):2<=p.length/\p.length<=64:=by
 simp only [y8,n8,Bool.and_eq_true,decide_eq_true_eq] at h; omega
theorem a26 {p:List Int} (h:y8 p=true):p.any badV=false:=by
 simp only [y8,Bool.and_eq_true] at h
 simpa using h.2
def wayL (n:Nat) (a d:Int):List (List AV):=(List.range (z5 n a d)).map fun (k:Nat)=>[i64 (a + d * k)]
theorem a66 (n:Nat) (a d:Int) (k:Nat):(wayL n a d)[k]? = if k < z5 n a d then some [i64 (a + d * k)] else none:=by
 unfold wayL
 rw [List.getElem?_map]
 by_cases h:k < z5 n a d<;>simp [h]
theorem b3G (n:Nat) (a d:Int) (ha:0<=a) (hn:a < n) (hl:n < 2 ^ 40) (hd:a1W d):SQ Tryz.prog 316 [.pt [i64 a] 0,.pt [i64 n] 0,.pt [i64 d] 0] (wayL n a d):=by
 have hs:z5 n a d<=n:=by unfold z5; rcases hd with rfl | rfl<;>simp<;>omega
 have step:∀ k:Nat,(k < z5 n a d↔0<=a + d * k/\a + d * k < n)/\(a + d * k + d=a + d * ((k + 1:Nat):Int)):=by
  intro k
  constructor
  ·unfold z5
   rcases hd with rfl | rfl<;>simp<;>omega
  ·rcases hd with rfl | rfl<;>omega
 have hget:=a66 n a d
 have hlen:(wayL n a d).length=z5 n a d:=by simp [wayL]
 generalize wayL n a d=xs at *
 generalize z5 n a d=m at *
 refine a1R hm Tryz.func316 (by kernel_rfl) ⟨by kernel_rfl,fun l => ?_⟩
 conv=>whnf
 refine Or.inr ⟨Nat,[5],[22],[],fun k=>[i64 (a + d * k)],fun k=>[.ctr l xs k false],fun _=>[],fun k=>m - k,fun k=>k<=m,?_⟩
 conv=>whnf
 refine ⟨⟨0,?_⟩,?_⟩
 ·(conv=>whnf)
  refine ⟨⟨Nat.zero_le _,?_,rfl,rfl⟩,by kernel_rfl,by kernel_rfl⟩
  show [i64 a]=[i64 (a + d * ((0:Nat):Int))]
  simp
 ·intro k hk
  have st:=step k
  conv=>whnf
  refine ⟨fun h => ?_,fun h => ?_⟩
  ·have h:=of_decide_eq_true h
   conv=>whnf
   refine ⟨fun h2 => ?_,fun h2 => ?_⟩
   ·have h2:=of_decide_eq_true h2
    have hkm:=st.1.2 ⟨h,h2⟩
    conv=>whnf
    refine ⟨⟨rfl,by exact (hget k).trans (by rw [if_pos hkm]; rfl),by kernel_rfl⟩,?_,?_⟩
    ·(conv=>whnf)
     refine ⟨k + 1,?_⟩
     conv=>whnf
     refine ⟨⟨⟨Nat.sub_lt_sub_left (by omega) (Nat.lt_succ_self k),by omega⟩,?_,rfl,rfl⟩,by kernel_rfl,by kernel_rfl⟩
     rw [w64 _ (by rcases hd with rfl | rfl<;>omega) (by rcases hd with rfl | rfl<;>omega),st.2]
    ·(conv=>whnf)
     intro h; cases h
   ·have h2:=of_decide_eq_false h2
    conv=>whnf
    intro _
    rw [hlen]
    have:=mt st.1.1 (fun k=>h2 k.2)
    omega
  ·have h:=of_decide_eq_false h
   conv=>whnf
   intro _
   rw [hlen]
   have:=mt st.1.1 (fun k=>h k.1)
   omega
theorem b0z (p:List Int) (thr a noise:Int) (hl:p.length < 2 ^ 40):PC Tryz.prog 247 [ints p,i64 thr,i64 a,i64 noise] (i64 (if y8 p then (if askE p thr a noise then 0 else 2) else 50)):=by
 have c1:=F2 p hl
 have hw:IntKind.i64.wrap ((p.length:Int) - 1)=(p.length:Int) - 1:=w64 _ (by omega) (by omega)
 cases hp:y8 p
 ·rw [hp] at c1
  refine a7 hm Tryz.func247 (by kernel_rfl) ?_
  conv=>whnf
  (repeat' first|(refine ansS (fun hh=>?_) (fun hh=>?_)<;>(try simp only [ansX] at hh)<;>first|(exfalso;first|omega|(simp [*] at hh;done)|(revert hh;decide))|exact absurd (by assumption) hh|conv=>whnf)|((first|refine kR ?_|refine aB ?_|refine aL ?_|refine aN ?_|((try (refine Or.inl ?_;conv=>whnf));(try (refine ⟨false,?_⟩;conv=>whnf));refine ⟨_,by exact c1,?_⟩)|fail);conv=>whnf))
  all_goals simp
 rw [hp] at c1
 refine a7 hm Tryz.func247 (by kernel_rfl) ?_
 conv=>whnf
 (repeat' first|(refine ansS (fun hh=>?_) (fun hh=>?_)<;>(try simp only [ansX] at hh)<;>first|(exfalso;first|omega|(simp [*] at hh;done)|(revert hh;decide))|exact absurd (by assumption) hh|conv=>whnf)|((first|refine kR ?_|refine aB ?_|refine aL ?_|refine aN ?_|((try (refine Or.inl ?_;conv=>whnf));(try (refine ⟨false,?_⟩;conv=>whnf));refine ⟨_,by first | exact c1 | exact E5 _ _ _,?_⟩)|fail);conv=>whnf))
 all_goals (first | (simp_all [askE,n8]; done) | (simp_all [askE,n8]; intros; omega))
theorem a1w {p:List Int} (h:y8 p=true):a23 p:=fun i hi=>a0E (a26 h) i hi
theorem a4s {p:List Int} {thr a noise:Int} (h:askE p thr a noise=true):1<=thr/\thr<=255/\0<=a/\a < p.length/\0<=noise/\noise<=64:=by
 simp only [askE,Bool.and_eq_true,decide_eq_true_eq] at h
 omega
theorem b3H (n:Int) (a d:Int):PC Tryz.prog 286 [i64 n,i64 a,i64 d] (.fn (.func 316) [] [.pt [i64 a] 0,.pt [i64 n] 0,.pt [i64 d] 0]):=by
 refine a7 hm Tryz.func286 (by kernel_rfl) ?_
 conv=>whnf
theorem R7 (n:Int):PC Tryz.prog 92 [i64 n] (fr (n,1)):=by
 refine a7 hm Tryz.func92 (by kernel_rfl) ?_
 conv=>whnf
 (repeat' first|(refine ansS (fun hh=>?_) (fun hh=>?_)<;>(try simp only [ansX] at hh)<;>first|(exfalso;first|omega|(simp [*] at hh;done)|(revert hh;decide))|exact absurd (by assumption) hh|conv=>whnf)|((first|refine kR ?_|refine aB ?_|refine aL ?_|refine aN ?_|fail);conv=>whnf))
set_option maxHeartbeats 1000000
theorem a27 (p:List Int) (thr a d:Int) (hp:a23 p) (hl:p.length<=64) (ha:0<=a) (hn:a < p.length) (hd:a1W d) (t1:1<=thr) (t2:thr<=255) :
  PC Tryz.prog 248 [ints p,i64 thr,i64 a,i64 d] (.tup [fr (brF p thr a d).1,.bool (brF p thr a d).2]):=by
 have sq:=b3G p.length a d ha hn (by omega) hd
 have hget:=a66 p.length a d
 have hlen:(wayL p.length a d).length=z5 p.length a d:=by simp [wayL]
 have hflat:∀ x ∈ wayL p.length a d,M4 x=true/\x.length=1:=by
  intro x hx
  obtain ⟨k,_,rfl⟩:=List.mem_map.1 hx
  exact ⟨by kernel_rfl,rfl⟩
 have hxs:∀ k x,(wayL p.length a d)[k]? = some x->k < z5 p.length a d/\x=[i64 (a + d * (k:Int))]:=by
  intro k x hx
  rw [hget] at hx
  by_cases hks:k < z5 p.length a d
  ·rw [if_pos hks] at hx
   exact ⟨hks,(Option.some.inj hx).symm⟩
  ·rw [if_neg hks] at hx; cases hx
 refine a7 hm Tryz.func248 (by kernel_rfl) ?_
 conv=>whnf
 (repeat' first|(refine ansS (fun hh=>?_) (fun hh=>?_)<;>(try simp only [ansX] at hh)<;>first|(exfalso;first|omega|(simp [*] at hh;done)|(revert hh;decide))|exact absurd (by assumption) hh|conv=>whnf)|((first|refine kR ?_|refine aB ?_|refine aL ?_|refine aN ?_|((try (refine Or.inl ?_;conv=>whnf));(try (refine ⟨false,?_⟩;conv=>whnf));refine ⟨_,by exact b3H _ _ _,?_⟩)|fail);conv=>whnf))
 refine ⟨wayL p.length a d,[],fun _=>[],fun k=>k<=z5 p.length a d/\∀ j,j < k->atK p a d j < thr,⟨sq,hflat⟩,?_⟩
 refine ⟨by kernel_rfl,?_⟩
 refine ⟨?_,?_⟩
 ·(conv=>whnf)
  exact ⟨⟨⟨Nat.zero_le _,fun j hj=>absurd hj (Nat.not_lt_zero j)⟩,rfl,rfl,rfl⟩,by kernel_rfl,by kernel_rfl⟩
 refine ⟨?_,?_⟩
 ·with_reducible refine a4b hxs ?_
  intro k hks hk
  have hin:=a04 ha hn hd hks
  conv=>whnf
  (repeat' (first|(refine ⟨by kernel_rfl,?_⟩; (conv=>whnf)) | (refine And.intro (a:=_/\_) ⟨by omega,by omega⟩ ?_; (conv=>whnf))))
  refine ⟨fun h => ?_,fun h => ?_⟩
  ·have h:=of_decide_eq_true h
   conv=>whnf
   refine ⟨⟨⟨by omega,fun j hj => ?_⟩,rfl⟩,by kernel_rfl⟩
   by_cases e:j=k
   ·subst e; exact h
   ·exact hk.2 j (by omega)
  ·have h:=of_decide_eq_false h
   conv=>whnf
   refine ⟨fun h2 => ?_,fun h2 => ?_⟩
   ·have h2:=of_decide_eq_true h2
    obtain rfl:k=0:=by rcases hd with rfl | rfl<;>omega
    have hb:=J5 (z6.2 ⟨hks,Int.not_lt.1 h,hk.2⟩)
    conv=>whnf
    (first | (refine Or.inl ?_; (conv=>whnf); refine ⟨_,R7 _,?_⟩) | refine ⟨_,R7 _,?_⟩)
    conv=>whnf
    rw [hb]
    simp [u5,A1,b0x (show -4611686018427387903<=a by omega) (show a<=4611686018427387903 by omega)]
   ·have h2:=of_decide_eq_false h2
    obtain ⟨m,rfl⟩:∃ m,k=m + 1:=⟨k - 1,by rcases hd with rfl | rfl<;>omega⟩
    have hb:=J5 (z6.2 ⟨hks,Int.not_lt.1 h,hk.2⟩)
    have hm:=a04 ha hn hd (k:=m) (by omega)
    have wd:IntKind.i64.wrap (a + d * ((m + 1:Nat):Int) - d)=a + d * (m:Int):=by rw [w64 _ (by rcases hd with rfl | rfl<;>omega) (by rcases hd with rfl | rfl<;>omega)]; rcases hd with rfl | rfl<;>omega
    conv=>whnf
    rw [wd]
    (repeat' (first|(refine ⟨by kernel_rfl,?_⟩; (conv=>whnf)) | (refine And.intro (a:=_/\_) ⟨by omega,by omega⟩ ?_; (conv=>whnf))))
    have hv:=z6.2 ⟨hks,Int.not_lt.1 h,hk.2⟩
    have b1:=a05 hp ha hn hd hks
    have b2:=a05 hp ha hn hd (k:=m) (by omega)
    have b3:=hk.2 m (by omega)
    have b4:thr<=atK p a d (m + 1):=Int.not_lt.1 h
    have hpl:u5 p thr a d (m + 1)=(w9 ((a + d * (m:Int)) * (atK p a d (m + 1) - atK p a d m) + d * (thr - atK p a d m)) (atK p a d (m + 1) - atK p a d m)).1:=rfl
    have w1:IntKind.i64.wrap (thr - p.getD (a + d * (m:Int)).toNat 0)=thr - atK p a d m:=w64 (thr - atK p a d m) (by omega) (by omega)
    have w2:IntKind.i64.wrap (p.getD (a + d * ((m + 1:Nat):Int)).toNat 0 - p.getD (a + d * (m:Int)).toNat 0)=atK p a d (m + 1) - atK p a d m:=w64 (atK p a d (m + 1) - atK p a d m) (by omega) (by omega)
    have w3:IntKind.i64.wrap (d * (thr - atK p a d m))=d * (thr - atK p a d m):=w64 _ (by rcases hd with rfl | rfl<;>omega) (by rcases hd with rfl | rfl<;>omega)
    have n1 : -255<=d * (thr - atK p a d m)/\d * (thr - atK p a d m)<=255:=by rcases hd with rfl | rfl<;>omega
    rw [w1,w2,w3]
    have cm:=b3p (d * (thr - atK p a d m)) (atK p a d (m + 1) - atK p a d m) (by unfold I64; omega) (by unfold I64; omega)
    have hadd:=b16 (w:=a + d * (m:Int)) (N:=d * (thr - atK p a d m)) (s:=atK p a d (m + 1) - atK p a d m) (by omega) (by omega) (by omega) (by omega) (by omega) (by omega)
    have hmk:=O9 (n:=d * (thr - atK p a d m)) (d:=atK p a d (m + 1) - atK p a d m) (by omega) (by omega) (by omega) (by omega)
    have ca:=b4L (a + d * (m:Int),1) (w9 (d * (thr - atK p a d m)) (atK p a d (m + 1) - atK p a d m)).1
    have hbo:a1X addF (a + d * (m:Int),1) (w9 (d * (thr - atK p a d m)) (atK p a d (m + 1) - atK p a d m)).1=w9 ((a + d * (m:Int)) * (atK p a d (m + 1) - atK p a d m) + d * (thr - atK p a d m)) (atK p a d (m + 1) - atK p a d m):=by
     unfold a1X
     rw [a1t (by omega) (by omega),hmk.1]
     exact hadd
    rw [hbo] at ca
    rw [hb,hpl]
    clear hadd hmk hbo hpl w1 w2 w3 n1 b1 b2 b3 b4 hv
    generalize w9 ((a + d * (m:Int)) * (atK p a d (m + 1) - atK p a d m) + d * (thr - atK p a d m)) (atK p a d (m + 1) - atK p a d m)=R at *
    generalize w9 (d * (thr - atK p a d m)) (atK p a d (m + 1) - atK p a d m)=M at *
    (first | (refine Or.inl ?_; (conv=>whnf); refine ⟨_,cm,?_⟩) | refine ⟨_,cm,?_⟩)
    conv=>whnf
    (repeat' (first|(refine ⟨by kernel_rfl,?_⟩; (conv=>whnf)) | (refine And.intro (a:=_/\_) ⟨by omega,by omega⟩ ?_; (conv=>whnf))))
    (first | (refine Or.inl ?_; (conv=>whnf); refine ⟨_,R7 _,?_⟩) | refine ⟨_,R7 _,?_⟩)
    conv=>whnf
    (first | (refine Or.inl ?_; (conv=>whnf); refine ⟨_,ca,?_⟩) | refine ⟨_,ca,?_⟩)
    conv=>whnf
    (repeat' (first|(refine ⟨by kernel_rfl,?_⟩; (conv=>whnf)) | (refine And.intro (a:=_/\_) ⟨by omega,by omega⟩ ?_; (conv=>whnf))))
 ·with_reducible refine a6H ?_
  intro hk
  rw [hlen] at hk
  have hb:=a24 (a02.2 hk.2)
  conv=>whnf
  rw [hb]
theorem b4M (x:Int):clip x=H9 x:=by unfold clip H9; split<;>split<;>(try split)<;>(try split)<;>omega
theorem a8K (p:List Int) (b:Int):(List.range p.length).map (fun i=>H9 (p.getD i 0 + b))=movL p b:=by
 refine List.ext_getElem (by simp [movL]) fun i h1 h2 => ?_
 simp at h1
 simp [movL,List.getD,h1]
theorem X9 (b:Int):PC Tryz.prog 249 [i64 b] (.fn (.func 289) [] [.pt [i64 b] 0]):=by
 refine a7 hm Tryz.func249 (by kernel_rfl) ?_
 conv=>whnf
theorem a4t (p:List Int) (b:Int) (h0:p≠[]) (hl:p.length < 2 ^ 30) (hp:a23 p) (b1 : -64<=b) (b2:b<=64):PW Tryz.prog 289 [ints p,.pt [i64 b] 0] [] (.own 0) [.vec 3 1 0 eI (movL p b)]:=by
 refine a9 hm Tryz.func289 (by kernel_rfl) ⟨by kernel_rfl,?_⟩
 conv=>whnf
 (refine Or.inr ⟨[ ],[ 8 ],by kernel_rfl,?_⟩; (conv=>whnf); refine ⟨[ ],_,_,_,_,⟨ a63 p h0 hl,rfl,rfl,by kernel_rfl⟩,?_⟩)
 conv=>whnf
 refine Or.inr ⟨Nat,[11],[8],[],fun k=>[i64 k],fun k=>[.vec 3 1 0 eI (mixL p (fun i=>H9 (p.getD i 0 + b)) k)],fun _=>[],fun k=>p.length - k,fun k=>k<=p.length,?_⟩
 conv=>whnf
 refine ⟨⟨0,?_⟩,?_⟩
 ·(conv=>whnf)
  refine ⟨⟨Nat.zero_le _,rfl,?_,rfl⟩,by kernel_rfl,by kernel_rfl⟩
  show [Row.vec 3 1 0 eI p]=[Row.vec 3 1 0 eI (mixL p _ 0)]
  rw [a4q]
 ·intro k hk
  conv=>whnf
  refine ⟨fun h => ?_,fun h => ?_⟩
  ·have h:=of_decide_eq_true h
   have a1:=hp k (by omega)
   conv=>whnf
   refine ⟨⟨by omega,by rw [C2]; omega⟩,?_⟩
   conv=>whnf
   refine ⟨by rw [C2]; omega,?_⟩
   conv=>whnf
   refine ⟨⟨by omega,by rw [C2]; omega⟩,?_⟩
   conv=>whnf
   refine ⟨H9 (p.getD k 0 + b),?_,by rw [C2]; omega,?_⟩
   ·have e1:(mixL p (fun i=>H9 (p.getD i 0 + b)) k).getD (Int.toNat (k:Int)) 0=p.getD k 0:=by
     show (mixL p _ k).getD k 0=_
     rw [a4p p _ k k (by omega)]; simp
    rw [e1,w64 (p.getD k 0 + b) (by omega) (by omega),<- b4M]
    rfl
   conv=>whnf
   refine ⟨k + 1,?_⟩
   conv=>whnf
   refine ⟨⟨⟨Nat.sub_lt_sub_left (by omega) (Nat.lt_succ_self k),by omega⟩,?_,?_,rfl⟩,by kernel_rfl,by kernel_rfl⟩
   ·rw [w64 _ (by omega) (by omega)]; rfl
   ·show [Row.vec _ 1 0 eI ((mixL p _ k).set k (H9 (p.getD k 0 + b)))]=_
    rw [show (mixL p (fun i=>H9 (p.getD i 0 + b)) k).set k (H9 (p.getD k 0 + b))=_ from a4r p (fun i=>H9 (p.getD i 0 + b)) k]
  ·have h:=of_decide_eq_false h
   obtain rfl:k=p.length:=by omega
   conv=>whnf
   refine ⟨[8],by kernel_rfl,?_⟩
   conv=>whnf
   refine ⟨rfl,?_⟩
   show [Row.vec _ 1 0 eI (mixL p _ p.length)]=_
   rw [a64,a8K]
   rfl
def firG (r:(Int×Int)×Bool):(Int×Int)×Int:=if r.2 then (r.1,0) else ((0,0),6)
def firF (p:List Int) (thr a d:Int):(Int×Int)×Int:=if y8 p then (if askE p thr a 0 then firG (brF p thr a d) else ((0,0),2)) else ((0,0),50)
def nzB (p:List Int) (noise:Int):Bool:=y8 p && askE p 1 0 noise

end Go.Proofs.Tryz.My
