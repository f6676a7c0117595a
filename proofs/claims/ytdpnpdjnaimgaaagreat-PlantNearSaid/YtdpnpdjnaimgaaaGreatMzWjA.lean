/- Helper lemmas. -/
import Derived.Test.YtdpnpdjnaimgaaaGreatMzWbA
import Derived.Test.YtdpnpdjnaimgaaaGreatEvNine
set_option linter.unusedVariables false
set_option linter.unusedSimpArgs false
set_option maxRecDepth 100000
set_option maxHeartbeats 0
namespace Go.Proofs.Tryz.My
open Go Go.Ev
abbrev eU (n:Nat):List AV:=[u64 n]
abbrev wl (l:List Nat):AV := .sl 1 0 eU l
theorem Lr (l:List Nat) (hl:l.length < 2 ^ 40):PC Tryz.prog 326 [wl l] (wl (hX l)):=by
 refine pF Tryz.func326 ?_
 conv=>whnf
 refine Or.inr ⟨Nat,[0],[],[],fun k=>[wl (l.take k)],fun _=>[],fun _=>[],fun k=>k,fun k=>k<=l.length/\∀ j,k<=j->l.getD j 0=0,?_⟩
 conv=>whnf
 refine ⟨⟨l.length,?_⟩,?_⟩
 ·(conv=>whnf)
  refine kK ⟨⟨Nat.le_refl _,fun j hj=>?_⟩,?_,rfl,rfl⟩
  ·simp [List.getD,List.getElem?_eq_none hj]
  ·show [wl l]=[wl (l.take l.length)]
   rw [List.take_length]
 rintro k ⟨hk,hz⟩
 have hlen:(l.take k).length=k:=by rw [List.length_take];omega
 have ht:=Hm hz
 by_cases k0:k=0
 ·subst k0
  conv=>whnf
  refine ⟨fun h=>absurd (of_decide_eq_true h) (by simp),fun h=>?_⟩
  conv=>whnf
  rw [ht]
  rfl
 ·obtain ⟨m,rfl⟩:∃ m,k=m + 1:=⟨k - 1,by omega⟩
  have w1:IntKind.i64.wrap (((l.take (m + 1)).length:Int) - 1)=m:=by
   rw [hlen,C7 _ (by omega) (by omega)];omega
  have eg:(l.take (m + 1)).getD (Int.toNat (m:Int)) 0=l.getD m 0:=by
   simp [List.getD,List.getElem?_take]
  conv=>whnf
  refine ⟨fun h=>?_,fun h=>absurd (of_decide_eq_false h) (by rw [hlen];omega)⟩
  conv=>whnf
  rw [w1]
  refine ⟨⟨by omega,by rw [hlen];omega⟩,?_⟩
  conv=>whnf
  rw [eg]
  refine ⟨fun q=>?_,fun q=>?_⟩
  ·have q:=of_decide_eq_true q
   conv=>whnf
   rw [w1]
   refine ⟨⟨by omega,by omega,by rw [hlen];omega⟩,?_⟩
   conv=>whnf
   refine ⟨m,?_⟩
   conv=>whnf
   refine kK ⟨⟨?_,?_,?_⟩,?_,rfl,rfl⟩
   ·show m < m + 1;omega
   ·omega
   ·intro j hj
    by_cases e:j=m
    ·subst e;omega
    ·exact hz j (by omega)
   ·show [wl (((l.take (m + 1)).drop (Int.toNat 0)).take (Int.toNat ((m:Int) - 0)))]=[wl (l.take m)]
    rw [show Int.toNat 0=0 from rfl,List.drop_zero,show Int.toNat ((m:Int) - 0)=m by omega,List.take_take,Nat.min_eq_left (by omega)]
  ·have q:=of_decide_eq_false q
   conv=>whnf
   rw [ht,Hn (l:=l.take (m + 1)) (k:=m) (by omega) hlen (by simp only [List.getD,List.getElem?_take];rw [if_pos (by omega)];exact fun z=>q (by exact_mod_cast z))]
theorem Sb (B n:Nat):vl B (List.replicate n 0)=0:=by
 induction n with
 | zero=>rfl
 | succ n ih=>rw [List.replicate_succ,vl,ih];omega
theorem OA {B:Nat} (hB:0 < B) (n:Nat):Fh B (List.replicate n 0):=fun d hd=>by
 rw [(List.mem_replicate.1 hd).2];exact hB
theorem oA {l:List Nat} {i j v:Nat}:(l.set i v).getD j 0=if i=j/\i < l.length then v else l.getD j 0:=by
 simp only [List.getD,List.getElem?_set]
 by_cases e:i=j
 ·subst e
  by_cases h:i < l.length<;>simp [h]
 ·simp [e]
theorem OB {W k x n o:Nat} {out:List Nat} (hW:2<=W) (hk:k + 1 < out.length) (ho:out.getD k 0=o) (hz:out.getD (k + 1) 0=0) :
  vl W ((out.set k ((o + x * n % W) % W)).set (k + 1) (x * n / W + (o + x * n % W) / W))=vl W out + x * n * W ^ k:=by
 have e1:=Dw (B:=W) (l:=out.set k ((o + x * n % W) % W)) (k:=k + 1) (x * n / W + (o + x * n % W) / W) (by rw [List.length_set];exact hk)
 have e2:=Dw (B:=W) (l:=out) (k:=k) ((o + x * n % W) % W) (by omega)
 rw [oA,if_neg (by omega),hz] at e1
 rw [ho] at e2
 have d1:=Nat.mod_add_div (x * n) W
 have d2:=Nat.mod_add_div (o + x * n % W) W
 generalize x * n % W=lo at *
 generalize x * n / W=hi at *
 generalize (o + lo) % W=a at *
 generalize (o + lo) / W=c at *
 rw [<- d1,Nat.pow_succ] at *
 have d2':=congrArg (· * W ^ k) d2
 simp only [Nat.add_mul] at d2'
 generalize hq:W ^ k=q at *
 have t1:(hi + c) * (q * W)=W * hi * q + W * c * q:=by
  rw [Nat.add_mul,<- Nat.mul_assoc,<- Nat.mul_assoc,Nat.mul_comm (hi * q) W,Nat.mul_comm (c * q) W,<- Nat.mul_assoc,<- Nat.mul_assoc]
 have t2:(lo + W * hi) * q=lo * q + W * hi * q:=Nat.add_mul _ _ _
 omega
theorem Ls {W x n o:Nat} (hx:x < W) (hn:n < W) (ho:o < W):x * n / W + (o + x * n % W) / W < W:=by
 have h1:x * n<=(W - 1) * (W - 1):=Nat.mul_le_mul (by omega) (by omega)
 have h2:x * n + o < W * W:=by
  have:(W - 1) * (W - 1) + W<=W * W:=by
   obtain ⟨v,rfl⟩:∃ v,W=v + 1:=⟨W - 1,by omega⟩
   simp only [Nat.add_sub_cancel,Nat.add_mul,Nat.mul_add]
   omega
  omega
 have h3:x * n / W + (o + x * n % W) / W=(x * n + o) / W:=by
  have e:x * n + o=(o + x * n % W) + W * (x * n / W):=by have:=Nat.mod_add_div (x * n) W;omega
  rw [e,Nat.add_mul_div_left _ _ (by omega),Nat.add_comm]
 rw [h3]
 exact Nat.div_lt_of_lt_mul h2
theorem DD (l:List Nat) (n:Nat) (hl:l.length < 2 ^ 19) (hd:Fh 18446744073709551616 l) (hn:n < 18446744073709551616):PC Tryz.prog 314 [wl l,u64 n] (wl (dg 18446744073709551616 (vl 18446744073709551616 l * n))):=by
 have w1:IntKind.i64.wrap ((l.length:Int) + 1)=(l.length:Int) + 1:=C7 _ (by omega) (by omega)
 refine pF Tryz.func314 ?_
 conv=>whnf
 refine ⟨Nat,0,eU,rfl,rfl,by rw [w1];omega,by rw [w1];omega,of_decide_eq_true (by kernel_rfl),?_⟩
 rw [w1,show Int.toNat ((l.length:Int) + 1)=l.length + 1 by omega]
 conv=>whnf
 refine Or.inr ⟨Nat×List Nat,[17],[],[(5,⟨Nat,265,1,0,eU⟩)],fun i=>[i64 i.1],fun _=>[],fun i=>[.vec 265 1 0 eU i.2],fun i=>l.length - i.1,fun i=>i.1<=l.length/\i.2.length=l.length + 1/\Fh 18446744073709551616 i.2/\(∀ j,i.1 < j->i.2.getD j 0=0)/\vl 18446744073709551616 i.2=vl 18446744073709551616 (l.take i.1) * n,?_⟩
 conv=>whnf
 refine ⟨⟨(0,List.replicate (l.length + 1) 0),?_⟩,?_⟩
 ·(conv=>whnf)
  refine kK ⟨⟨Nat.zero_le _,List.length_replicate,OA (by decide) _,fun j _=>?_,?_⟩,rfl,rfl,rfl⟩
  ·show (List.replicate (l.length + 1) 0).getD j 0=0
   simp only [List.getD,List.getElem?_replicate]
   split<;>rfl
  ·show vl 18446744073709551616 (List.replicate (l.length + 1) 0)=vl 18446744073709551616 (l.take 0) * n
   rw [Sb,List.take_zero];simp [vl]
 rintro ⟨k,out⟩ ⟨hk,Ms,XK,hz,hv⟩
 have hk:k<=l.length:=hk
 have Ms:out.length=l.length + 1:=Ms
 have hz:∀ j,k < j->out.getD j 0=0:=hz
 have hv:vl 18446744073709551616 out=vl 18446744073709551616 (l.take k) * n:=hv
 conv=>whnf
 refine ⟨fun h=>?_,fun h=>?_⟩
 ·have h:=of_decide_eq_true h
  have L7:k < l.length:=by
   have h:(k:Int) < l.length:=h
   omega
  have hx:=AB (B:=18446744073709551616) (by decide) hd k
  have ho:=AB (B:=18446744073709551616) (by decide) XK k
  have cl:=Ls hx hn ho
  have yH:=OB (W:=18446744073709551616) (x:=l.getD k 0) (n:=n) (by decide) (show k + 1 < out.length by omega) rfl (hz (k + 1) (by omega))
  have wk:IntKind.i64.wrap ((k:Int) + 1)=((k + 1:Nat):Int):=by rw [C7 _ (by omega) (by omega)];rfl
  conv=>whnf
  refine ⟨⟨by omega,by omega⟩,?_⟩
  conv=>whnf
  rw [show Int.toNat (k:Int)=k from rfl]
  (first|(refine Or.inl ?_;(conv=>whnf);refine ⟨_,lV _ _ hx hn,?_⟩)|refine ⟨_,lV _ _ hx hn,?_⟩)
  conv=>whnf
  have ho:out.getD k 0 < 18446744073709551616:=ho
  have ca:=zI (out.getD k 0) (l.getD k 0 * n % 18446744073709551616) 0 (by omega)
  rw [Nat.add_zero] at ca
  have cl:l.getD k 0 * n / 18446744073709551616 + (out.getD k 0 + l.getD k 0 * n % 18446744073709551616) / 18446744073709551616 < 18446744073709551616:=cl
  have wu:IntKind.u64.wrap ((l.getD k 0 * n / 18446744073709551616:Nat) + ((out.getD k 0 + l.getD k 0 * n % 18446744073709551616) / 18446744073709551616:Nat):Int)=(l.getD k 0 * n / 18446744073709551616 + (out.getD k 0 + l.getD k 0 * n % 18446744073709551616) / 18446744073709551616:Nat):=by
   rw [lT];omega
  refine ⟨⟨by show (0:Int)<=(k:Int);omega,by show (k:Int) < (out.length:Int);omega⟩,?_⟩
  conv=>whnf
  refine ⟨by show k < out.length;omega,?_⟩
  conv=>whnf
  (first|(refine Or.inl ?_;(conv=>whnf);refine ⟨_,ca,?_⟩)|refine ⟨_,ca,?_⟩)
  conv=>whnf
  refine ⟨⟨by show (0:Int)<=(k:Int);omega,by show (k:Int) < (out.length:Int);omega⟩,?_⟩
  conv=>whnf
  refine ⟨(out.getD k 0 + l.getD k 0 * n % 18446744073709551616) % 18446744073709551616,rfl,by show k < out.length;omega,?_⟩
  conv=>whnf
  have YQ:Int.toNat (IntKind.i64.wrap ((k:Int) + 1))=k + 1:=by rw [wk];rfl
  refine ⟨⟨by show (0:Int)<=IntKind.i64.wrap ((k:Int) + 1);omega,by show IntKind.i64.wrap ((k:Int) + 1) < ((out.set k _).length:Int);rw [List.length_set];omega⟩,?_⟩
  conv=>whnf
  refine ⟨l.getD k 0 * n / 18446744073709551616 + (out.getD k 0 + l.getD k 0 * n % 18446744073709551616) / 18446744073709551616,?_,?_,?_⟩
  ·show [AV.int .u64 _]=[AV.int .u64 _]
   rw [<- wu]
  ·show Int.toNat (IntKind.i64.wrap ((k:Int) + 1)) < (out.set k _).length
   rw [YQ,List.length_set];omega
  conv=>whnf
  refine ⟨(k + 1,(out.set k ((out.getD k 0 + l.getD k 0 * n % 18446744073709551616) % 18446744073709551616)).set (k + 1) (l.getD k 0 * n / 18446744073709551616 + (out.getD k 0 + l.getD k 0 * n % 18446744073709551616) / 18446744073709551616)),?_⟩
  conv=>whnf
  refine kK ⟨⟨?_,?_,?_,?_,?_,?_⟩,?_,rfl,?_⟩
  ·show l.length - (k + 1) < l.length - k;omega
  ·show k + 1<=l.length;omega
  ·show ((out.set k _).set (k + 1) _).length=_
   rw [List.length_set,List.length_set];exact Ms
  ·exact Fk (Fk XK k (Nat.mod_lt _ (by decide))) (k + 1) cl
  ·intro j hj
   have hj:k + 1 < j:=hj
   show ((out.set k _).set (k + 1) _).getD j 0=0
   rw [oA,if_neg (by omega),oA,if_neg (by omega)]
   exact hz j (by omega)
  ·show vl 18446744073709551616 ((out.set k _).set (k + 1) _)=vl 18446744073709551616 (l.take (k + 1)) * n
   rw [yH,hv,qe,Nat.add_mul]
   congr 1
   rw [Nat.mul_assoc,Nat.mul_comm n,<- Nat.mul_assoc]
  ·rw [C7 _ (by show -9223372036854775808<=(k:Int) + 1;omega) (by show (k:Int) + 1<=_;omega)];rfl
  ·show [Row.vec 265 1 0 eU ((out.set k _).set (Int.toNat (IntKind.i64.wrap ((k:Int) + 1))) _)]=_
   rw [YQ]
 ·have h:¬(k:Int) < l.length:=of_decide_eq_false h
  have ek:k=l.length:=by omega
  have ct:=Lr out (by omega)
  rw [Fi (by decide) XK] at ct
  have hv:vl 18446744073709551616 out=vl 18446744073709551616 l * n:=by rw [hv,ek,List.take_length]
  have ct:PC Tryz.prog 326 [wl out] (wl (dg 18446744073709551616 (vl 18446744073709551616 l * n))):=by rw [<- hv];exact ct
  conv=>whnf
  ((first|refine Or.inl ?_|skip);(conv=>whnf);refine ⟨true,?_⟩;(conv=>whnf);refine ⟨_,ct,?_⟩;(conv=>whnf))
  all_goals rfl
theorem HN (N n:Nat) (hl:(dg 18446744073709551616 N).length < 2 ^ 19) (hn:n < 18446744073709551616):PC Tryz.prog 314 [wl (dg 18446744073709551616 N),u64 n] (wl (dg 18446744073709551616 (N * n))):=by
 have:=DD (dg 18446744073709551616 N) n hl (xV (by decide) N) hn
 rwa [AA (by decide)] at this
theorem vB (N w:Nat) (n:Nat) (hl:∀ k,k<=n->(dg 18446744073709551616 (N * w ^ k)).length < 2 ^ 19) (hw:w < 18446744073709551616) (hn:n < 2 ^ 40):PC Tryz.prog 284 [wl (dg 18446744073709551616 N),u64 w,i64 n] (wl (dg 18446744073709551616 (N * w ^ n))):=by
 refine pF Tryz.func284 ?_
 conv=>whnf
 refine Or.inr ⟨Nat,[9,0],[],[],fun k=>[i64 k,wl (dg 18446744073709551616 (N * w ^ k))],fun _=>[],fun _=>[],fun k=>n - k,fun k=>k<=n,?_⟩
 conv=>whnf
 refine ⟨⟨0,?_⟩,?_⟩
 ·(conv=>whnf)
  refine kK ⟨Nat.zero_le _,?_,rfl,rfl⟩
  show [i64 0,wl (dg 18446744073709551616 N)]=[i64 ((0:Nat):Int),wl (dg 18446744073709551616 (N * w ^ 0))]
  rw [Nat.pow_zero,Nat.mul_one];rfl
 intro k hk
 conv=>whnf
 refine ⟨fun h=>?_,fun h=>?_⟩
 ·have h:=of_decide_eq_true h
  have ct:=HN (N * w ^ k) w (hl k hk) hw
  conv=>whnf
  (first|(refine Or.inl ?_;(conv=>whnf);refine ⟨_,ct,?_⟩)|refine ⟨_,ct,?_⟩)
  conv=>whnf
  refine ⟨k + 1,?_⟩
  conv=>whnf
  refine kK ⟨⟨?_,?_⟩,?_,rfl,rfl⟩
  ·show n - (k + 1) < n - k;omega
  ·show k + 1<=n;omega
  ·rw [C7 _ (by omega) (by omega)]
   show [i64 ((k:Int) + 1),wl (dg 18446744073709551616 (N * w ^ k * w))]=[i64 ((k + 1:Nat):Int),wl (dg 18446744073709551616 (N * w ^ (k + 1)))]
   rw [Nat.pow_succ,Nat.mul_assoc];rfl
 ·have h:=of_decide_eq_false h
  obtain rfl:k=n:=by omega
  conv=>whnf
  all_goals rfl
def jf (l:List Nat):List (List AV):=(List.range l.length).map fun (k:Nat)=>[i64 ((l.length:Int) - 1 - (k:Int)),u64 (l.getD (l.length - 1 - k) 0)]
theorem vC (l:List Nat) (k:Nat):(jf l)[k]? = if k < l.length then some [i64 ((l.length:Int) - 1 - k),u64 (l.getD (l.length - 1 - k) 0)] else none:=by
 unfold jf
 rw [List.getElem?_map]
 by_cases h:k < l.length<;>simp [h]
theorem py (l:List Nat):PC Tryz.prog 315 [wl l] (.fn (.func 327) [] [.pt [wl l] 0]):=by
 refine pF Tryz.func315 ?_
 conv=>whnf
 all_goals rfl
theorem OC (a:List Nat) (hl:a.length < 2 ^ 40):SQ Tryz.prog 327 [.pt [wl a] 0] (jf a):=by
 have Y8:=vC a
 have hlen:(jf a).length=a.length:=by simp [jf]
 generalize jf a=xs at *
 have w0:IntKind.i64.wrap ((a.length:Int) - 1)=(a.length:Int) - 1:=C7 _ (by omega) (by omega)
 refine oU hm Tryz.func327 (by kernel_rfl) ⟨by kernel_rfl,fun l=>?_⟩
 conv=>whnf
 refine Or.inr ⟨Nat,[3],[19],[],fun k=>[i64 ((a.length:Int) - 1 - k)],fun k=>[.ctr l xs k false],fun _=>[],fun k=>a.length - k,fun k=>k<=a.length,?_⟩
 conv=>whnf
 refine ⟨⟨0,?_⟩,?_⟩
 ·(conv=>whnf)
  refine kK ⟨Nat.zero_le _,?_,rfl,rfl⟩
  rw [w0]
  show [i64 ((a.length:Int) - 1)]=[i64 ((a.length:Int) - 1 - ((0:Nat):Int))]
  simp
 ·intro k hk
  conv=>whnf
  refine ⟨fun h=>?_,fun h=>?_⟩
  ·have h:=of_decide_eq_true h
   have Xq:k < a.length:=by omega
   conv=>whnf
   refine ⟨⟨by omega,by omega⟩,?_⟩
   conv=>whnf
   rw [show Int.toNat ((a.length:Int) - 1 - k)=a.length - 1 - k by omega]
   refine ⟨⟨rfl,by exact (Y8 k).trans (by rw [if_pos Xq];rfl),by kernel_rfl⟩,?_,?_⟩
   ·(conv=>whnf)
    refine ⟨k + 1,?_⟩
    conv=>whnf
    refine kK ⟨⟨Nat.sub_lt_sub_left (by omega) (Nat.lt_succ_self k),by omega⟩,?_,rfl,rfl⟩
    rw [C7 _ (by omega) (by omega)]
    show [i64 ((a.length:Int) - 1 - k - 1)]=[i64 ((a.length:Int) - 1 - ((k + 1:Nat):Int))]
    congr 2;omega
   ·(conv=>whnf)
    intro h;cases h
  ·have h:=of_decide_eq_false h
   conv=>whnf
   intro _
   rw [hlen]
   omega
theorem DE {a b:List Nat} {n:Nat}:∀ k,k<=n->(∀ j,j < k->a.getD (n - 1 - j) 0=b.getD (n - 1 - j) 0)->Le a b n=Le a b (n - k)
 | 0,_,_=>rfl
 | k + 1,hk,h=>by
  rw [DE k (by omega) fun j hj=>h j (by omega)]
  obtain ⟨m,hm⟩:∃ m,n - k=m + 1:=⟨n - k - 1,by omega⟩
  have e:=h k (Nat.lt_succ_self k)
  rw [show n - 1 - k=m by omega] at e
  rw [hm,show n - (k + 1)=m by omega,Le,if_pos e]
theorem Sc {a b:List Nat} {n k:Nat} (hk:k < n) (h:∀ j,j < k->a.getD (n - 1 - j) 0=b.getD (n - 1 - j) 0) (aW:¬a.getD (n - 1 - k) 0=b.getD (n - 1 - k) 0):Le a b n=decide (a.getD (n - 1 - k) 0 < b.getD (n - 1 - k) 0):=by
 rw [DE k (by omega) h]
 obtain ⟨m,hm⟩:∃ m,n - k=m + 1:=⟨n - k - 1,by omega⟩
 rw [show n - 1 - k=m by omega] at aW ⊢
 rw [hm,Le,if_neg aW]
theorem DF (a b:List Nat) (hl:a.length < 2 ^ 40) (hb:a.length=b.length):PC Tryz.prog 285 [wl a,wl b] (.bool (Le a b a.length)):=by
 have sq:=OC a hl
 have Y8:=vC a
 have hlen:(jf a).length=a.length:=by simp [jf]
 have Kt:∀ x ∈ jf a,cW x=true/\x.length=2:=by
  intro x hx
  obtain ⟨k,_,rfl⟩:=List.mem_map.1 hx
  exact ⟨by kernel_rfl,rfl⟩
 have SO:∀ k x,(jf a)[k]? = some x->k < a.length/\x=[i64 ((a.length:Int) - 1 - k),u64 (a.getD (a.length - 1 - k) 0)]:=by
  intro k x hx
  rw [Y8] at hx
  by_cases De:k < a.length
  ·rw [if_pos De] at hx
   exact ⟨De,(Option.some.inj hx).symm⟩
  ·rw [if_neg De] at hx;cases hx
 refine pF Tryz.func285 ?_
 conv=>whnf
 refine ⟨fun h=>absurd h (by simp [hb]),fun h=>?_⟩
 conv=>whnf
 (first|(refine Or.inl ?_;(conv=>whnf);refine ⟨_,py a,?_⟩)|refine ⟨_,py a,?_⟩)
 conv=>whnf
 refine ⟨by kernel_rfl,?_⟩
 conv=>whnf
 refine ⟨jf a,[],fun _=>[],fun k=>k<=a.length/\∀ j,j < k->a.getD (a.length - 1 - j) 0=b.getD (a.length - 1 - j) 0,⟨sq,Kt⟩,?_⟩
 refine ⟨by kernel_rfl,?_⟩
 refine ⟨?_,?_⟩
 ·(conv=>whnf)
  exact kK ⟨⟨Nat.zero_le _,fun j hj=>absurd hj (Nat.not_lt_zero j)⟩,rfl,rfl,rfl⟩
 refine ⟨?_,?_⟩
 ·with_reducible refine uL SO ?_
  intro k De hk
  conv=>whnf
  refine ⟨⟨by omega,by omega⟩,?_⟩
  conv=>whnf
  rw [show Int.toNat ((a.length:Int) - 1 - k)=a.length - 1 - k by omega]
  refine ⟨fun q=>?_,fun q=>?_⟩
  ·have q:¬a.getD (a.length - 1 - k) 0=b.getD (a.length - 1 - k) 0:=fun e=>by
    rw [e] at q;simp at q
   conv=>whnf
   refine ⟨⟨by omega,by omega⟩,?_⟩
   conv=>whnf
   rw [show Int.toNat ((a.length:Int) - 1 - k)=a.length - 1 - k by omega,Sc De hk.2 q]
   simp only [Int.ofNat_lt]
  ·have q:a.getD (a.length - 1 - k) 0=b.getD (a.length - 1 - k) 0:=by
    have q:((a.getD (a.length - 1 - k) 0:Nat):Int)=(b.getD (a.length - 1 - k) 0:Nat):=by simpa using q
    exact Int.ofNat.inj q
   conv=>whnf
   refine ⟨⟨⟨by omega,fun j hj=>?_⟩,rfl⟩,by kernel_rfl⟩
   by_cases e:j=k
   ·subst e;exact q
   ·exact hk.2 j (by omega)
 ·with_reducible refine zw ?_
  intro hk
  rw [hlen] at hk
  conv=>whnf
  rw [DE a.length (Nat.le_refl _) hk.2,Nat.sub_self]
  all_goals rfl
theorem HO (A B:Nat) (ha:(dg 18446744073709551616 A).length < 2 ^ 40) (hb:(dg 18446744073709551616 B).length < 2 ^ 40):PC Tryz.prog 285 [wl (dg 18446744073709551616 A),wl (dg 18446744073709551616 B)] (.bool (decide (A<=B))):=by
 by_cases h:(dg 18446744073709551616 A).length=(dg 18446744073709551616 B).length
 ·have c:=DF (dg 18446744073709551616 A) (dg 18446744073709551616 B) ha h
  rwa [Rr (by decide) (Nat.le_refl _) (by omega)] at c
 ·refine pF Tryz.func285 ?_
  conv=>whnf
  refine ⟨fun q=>?_,fun q=>?_⟩
  ·(conv=>whnf)
   by_cases h2:(dg 18446744073709551616 A).length < (dg 18446744073709551616 B).length
   ·have:=vx (by decide) h2
    rw [decide_eq_true (by omega),decide_eq_true (by omega)]
   ·have:=vx (B:=18446744073709551616) (a:=B) (b:=A) (by decide) (by omega)
    rw [decide_eq_false (by omega),decide_eq_false (by omega)]
  ·exfalso;simp at q;omega
def li (l:List Nat):List Int:=l.map fun (d:Nat)=>(d:Int)
structure ScI (N n:Nat) (i c:Nat) (o:List Nat):Prop where
 l:o.length=i
 d:Fh 1073741824 o
 v:vl 1073741824 o + c * 1073741824 ^ i=vl 1073741824 ((dg 1073741824 N).take i) * n
 c:c<=1073741824
 t:i=0∨1073741824 ^ (i - 1)<=N * n
theorem Sd {B n:Nat} (hB:2<=B) (h0:0 < n) (h:n < B):dg B n=[n]:=by
 rw [nW hB h0,Nat.mod_eq_of_lt h,Nat.div_eq_of_lt h,jA]
theorem HP (f w n:Nat) (XL:0 < f) (hf:f < 18446744073709551616) (hl:∀ k,k<=n->(dg 18446744073709551616 (f * w ^ k)).length < 2 ^ 19) (hw:w < 18446744073709551616) (hn:n < 2 ^ 40):PC Tryz.prog 284 [.slc 1 [[u64 f]],u64 w,i64 n] (wl (dg 18446744073709551616 (f * w ^ n))):=by
 refine (vB f w n hl hw hn).sub rfl (fun i hi=>?_) (.refl _)
 match i with
 | 0 =>
  rw [Sd (by decide) XL hf]
  exact pV.slc 1 0 eU [f]
 | 1=>exact .refl _
 | 2=>exact .refl _
 | (n + 3)=>exact .refl _
theorem XM {n:Nat} (h:n < 18446744073709551616):IntKind.u64.wrap ((n:Nat):Int)=(n:Int):=by rw [lT];omega
theorem Fq {N k n:Nat} (h:N<=2 ^ (30 + 8 * n)) (hn:n<=500):(dg 18446744073709551616 N).length<=64:=Rs (c:=64) h (by decide) (by omega)
theorem Lt {f p n k:Nat} (hf:f<=1073741824) (hp:p<=256) (hk:k<=n):f * p ^ k<=2 ^ (30 + 8 * n):=by
 have h1:p ^ k<=256 ^ k:=Nat.pow_le_pow_left hp k
 have h2:(256:Nat) ^ k<=256 ^ n:=Nat.pow_le_pow_right (by decide) hk
 have h3:f * p ^ k<=1073741824 * 256 ^ n:=Nat.mul_le_mul hf (Nat.le_trans h1 h2)
 rwa [xW] at h3
theorem HQ {f p h n k:Nat} (hf:f<=1073741824) (hp:p<=256) (hh:h<=n) (hk:k<=n - h):f * p ^ h * (256 - p) ^ k<=2 ^ (30 + 8 * n):=by
 have h0:p ^ h<=256 ^ h:=Nat.pow_le_pow_left hp h
 have h1:(256 - p) ^ k<=256 ^ k:=Nat.pow_le_pow_left (by omega) k
 have h2:f * p ^ h * (256 - p) ^ k<=1073741824 * 256 ^ h * 256 ^ k:=Nat.mul_le_mul (Nat.mul_le_mul hf h0) h1
 rw [Nat.mul_assoc 1073741824,<- Nat.pow_add] at h2
 have h3:(256:Nat) ^ (h + k)<=256 ^ n:=Nat.pow_le_pow_right (by decide) (by omega)
 have h4:=Nat.mul_le_mul_left 1073741824 h3
 rw [<- xW]
 exact Nat.le_trans h2 h4
theorem Fs (f p h n:Nat) (XL:0 < f) (hf:f<=1073741824) (hp:p<=255) (hh:h<=n) (hn:n<=500):PC Tryz.prog 283 [i64 (p:Nat),i64 (f:Nat),.pt [i64 (h:Nat)] 0,.pt [i64 (n:Nat)] 0] (wl (dg 18446744073709551616 (PO f p h n))):=by
 have c1:PC Tryz.prog 284 [.slc 1 [[.int .u64 (IntKind.u64.wrap ((f:Nat):Int))]],.int .u64 (IntKind.u64.wrap ((p:Nat):Int)),i64 (h:Nat)] (wl (dg 18446744073709551616 (f * p ^ h))):=by
  rw [XM (by omega),XM (by omega)]
  exact HP f p h XL (by omega) (fun k hk=>by have:=Fq (k:=k) (Lt (f:=f) (p:=p) (n:=n) hf (by omega) (show k<=n by omega)) hn;omega) (by omega) (by omega)
 have q1:PW Tryz.prog 284 [.own 0,.int .u64 (IntKind.u64.wrap ((p:Nat):Int)),i64 (h:Nat)] [.lit 265 1 [[.int .u64 (IntKind.u64.wrap ((f:Nat):Int))]]] (wl (dg 18446744073709551616 (f * p ^ h))) [.none] :=
  c1.toPW Tryz.func284 (by kernel_rfl) rfl (by kernel_rfl) rfl
 have w1:IntKind.i64.wrap (256 - ((p:Nat):Int))=((256 - p:Nat):Int):=by rw [C7 _ (by omega) (by omega)];omega
 have w2:IntKind.i64.wrap (((n:Nat):Int) - ((h:Nat):Int))=((n - h:Nat):Int):=by rw [C7 _ (by omega) (by omega)];omega
 have c2:PC Tryz.prog 284 [wl (dg 18446744073709551616 (f * p ^ h)),.int .u64 (IntKind.u64.wrap (IntKind.i64.wrap (256 - ((p:Nat):Int)))),i64 (IntKind.i64.wrap (((n:Nat):Int) - ((h:Nat):Int)))] (wl (dg 18446744073709551616 (PO f p h n))):=by
  rw [w1,w2,XM (by omega)]
  exact vB (f * p ^ h) (256 - p) (n - h) (fun k hk=>by have:=Fq (k:=k) (HQ (f:=f) (p:=p) (h:=h) (n:=n) hf (by omega) hh hk) hn;omega) (by omega) (by omega)
 refine pF Tryz.func283 ?_
 conv=>whnf
 refine ⟨by kernel_rfl,?_⟩
 conv=>whnf
 refine Or.inr ⟨false,[9],_,_,_,_,⟨q1,rfl,rfl,by kernel_rfl⟩,?_⟩
 conv=>whnf
 (repeat' ((first|refine aU fun hh=>?_|refine aV fun hh=>?_|refine aS (fun hh=>?_) fun hh=>?_|refine kR ?_|((try refine Or.inl ?_;conv=>whnf);(try refine ⟨false,?_⟩;conv=>whnf);refine ⟨_,by exact c2,?_⟩)|fail)<;>conv=>whnf))
 all_goals rfl
theorem DG (l:A5) (ht:kj l=true) (h n:Nat) (hh:h<=n) (Wk:1<=n) (hn:n<=500):PC Tryz.prog 246 [VC l,i64 (h:Nat),i64 (n:Nat)] (.bool (Rt l.p.toNat l.q.toNat l.al.1.toNat l.al.2.toNat h n)):=by
 obtain ⟨⟨t1,t2,t3⟩,t4⟩:=Ld.1 ht
 obtain ⟨v0,v1,v2,v3⟩:=Ok.1 t4
 have ep:((l.p.toNat:Nat):Int)=l.p:=by omega
 have eq':((l.q.toNat:Nat):Int)=l.q:=by omega
 have en:((l.al.1.toNat:Nat):Int)=l.al.1:=by omega
 have ed:((l.al.2.toNat:Nat):Int)=l.al.2:=by omega
 have c1:=Fs l.al.2.toNat l.p.toNat h n (by omega) (by omega) (by omega) hh hn
 have c2:=Fs l.al.1.toNat l.q.toNat h n (by omega) (by omega) (by omega) hh hn
 rw [ep,ed] at c1
 rw [eq',en] at c2
 have k1:=Lg (f:=l.al.2.toNat) (p:=l.p.toNat) (by omega) (by omega) hh
 have k2:=Lg (f:=l.al.1.toNat) (p:=l.q.toNat) (by omega) (by omega) hh
 have g1:=Fq (k:=0) k1 hn
 have g2:=Fq (k:=0) k2 hn
 have c3:=HO (PO l.al.2.toNat l.p.toNat h n) (PO l.al.1.toNat l.q.toNat h n) (by omega) (by omega)
 refine pF Tryz.func246 ?_
 conv=>whnf
 (repeat' ((first|refine aU fun hh=>?_|refine aV fun hh=>?_|refine aS (fun hh=>?_) fun hh=>?_|refine kR ?_|((try refine Or.inl ?_;conv=>whnf);(try refine ⟨false,?_⟩;conv=>whnf);refine ⟨_,by first|exact c1|exact c2|exact c3,?_⟩)|fail)<;>conv=>whnf))
 all_goals rfl
theorem Se:pV .tt (.bool true):=fun F w v h=>by cases h;exact .bool _
theorem vD (x y:Int):pV (.tup [.agg [i64 x,i64 y,.tt],i64 0]) (.tup [.agg [i64 x,i64 y,.bool true],i64 0]):=by
 have e:pV (.agg [i64 x,i64 y,.tt]) (.agg [i64 x,i64 y,.bool true]):=by
  refine (Y0 (xs:=[i64 x,i64 y,.tt]) (ys:=[i64 x,i64 y,.bool true]) rfl fun i hi=>?_).1
  match i with
  | 0=>exact .refl _
  | 1=>exact .refl _
  | 2=>exact Se
  | (n + 3)=>exact .refl _
 refine (Y0 (xs:=[.agg [i64 x,i64 y,.tt],i64 0]) (ys:=[.agg [i64 x,i64 y,.bool true],i64 0]) rfl fun i hi=>?_).2
 match i with
 | 0=>exact e
 | 1=>exact .refl _
 | (n + 2)=>exact .refl _
theorem qh (l:A5) (ht:kj l=true) (d:P8) (hd:Z4 d=true) (hr:¬d.rounds=500) (hit:Bool):PC Tryz.prog 194 [VC l,.agg (eQ d),.bool hit] (.tup [.agg (eQ (sQ l d hit)),i64 0]):=by
 have c1:=mQ l
 have c2:=pw 0 500 d.rounds
 have UI:=pw 0 d.rounds d.hits
 rw [ht,if_pos rfl] at c1
 have dr:=nV.1 hd
 rw [decide_eq_true (by omega)] at c2 UI
 obtain ⟨h,r,a⟩:=d
 simp only at dr hr
 have w1:IntKind.i64.wrap (r + 1)=r + 1:=C7 _ (by omega) (by omega)
 have w2:IntKind.i64.wrap (h + 1)=h + 1:=C7 _ (by omega) (by omega)
 have c3:PC Tryz.prog 246 [VC l,i64 (if hit=true then h + 1 else h),i64 (r + 1)] (.bool (Rt l.p.toNat l.q.toNat l.al.1.toNat l.al.2.toNat (if hit=true then h + 1 else h).toNat (r + 1).toNat)):=by
  have:=DG l ht (if hit=true then h + 1 else h).toNat (r + 1).toNat (by split<;>omega) (by omega) (by omega)
  rw [show (((if hit=true then h + 1 else h).toNat:Nat):Int)=(if hit=true then h + 1 else h) by split<;>omega,show (((r + 1).toNat:Nat):Int)=r + 1 by omega] at this
  exact this
 unfold sQ
 cases a
 ·simp only [Bool.false_or]
  cases hit
  ·simp only [Bool.false_eq_true,if_false] at c3 ⊢
   rw [<- w1] at c3 ⊢
   refine pF Tryz.func194 ?_
   conv=>whnf
   (repeat' ((first|refine aU fun hh=>?_|refine aV fun hh=>?_|refine aS (fun hh=>?_) fun hh=>?_|refine kR ?_|((try refine Or.inl ?_;conv=>whnf);(try refine ⟨false,?_⟩;conv=>whnf);refine ⟨_,by first|exact c1|exact c2|exact UI|exact c3,?_⟩)|fail)<;>conv=>whnf))
   all_goals rfl
  ·simp only [if_true] at c3 ⊢
   rw [<- w1,<- w2] at c3 ⊢
   refine pF Tryz.func194 ?_
   conv=>whnf
   (repeat' ((first|refine aU fun hh=>?_|refine aV fun hh=>?_|refine aS (fun hh=>?_) fun hh=>?_|refine kR ?_|((try refine Or.inl ?_;conv=>whnf);(try refine ⟨false,?_⟩;conv=>whnf);refine ⟨_,by first|exact c1|exact c2|exact UI|exact c3,?_⟩)|fail)<;>conv=>whnf))
   all_goals rfl
 ·simp only [Bool.true_or]
  cases hit
  ·simp only [Bool.false_eq_true,if_false]
   rw [<- w1]
   refine PC.sub (res := .tup [.agg [i64 h,i64 (IntKind.i64.wrap (r + 1)),.tt],i64 0]) ?_ rfl (fun i hi => .refl _) (vD _ _)
   refine pF Tryz.func194 ?_
   conv=>whnf
   (repeat' ((first|refine aU fun hh=>?_|refine aV fun hh=>?_|refine aS (fun hh=>?_) fun hh=>?_|refine kR ?_|((try refine Or.inl ?_;conv=>whnf);(try refine ⟨false,?_⟩;conv=>whnf);refine ⟨_,by first|exact c1|exact c2|exact UI|exact c3,?_⟩)|fail)<;>conv=>whnf))
   all_goals rfl
  ·simp only [if_true]
   rw [<- w1,<- w2]
   refine PC.sub (res := .tup [.agg [i64 (IntKind.i64.wrap (h + 1)),i64 (IntKind.i64.wrap (r + 1)),.tt],i64 0]) ?_ rfl (fun i hi => .refl _) (vD _ _)
   refine pF Tryz.func194 ?_
   conv=>whnf
   (repeat' ((first|refine aU fun hh=>?_|refine aV fun hh=>?_|refine aS (fun hh=>?_) fun hh=>?_|refine kR ?_|((try refine Or.inl ?_;conv=>whnf);(try refine ⟨false,?_⟩;conv=>whnf);refine ⟨_,by first|exact c1|exact c2|exact UI|exact c3,?_⟩)|fail)<;>conv=>whnf))
   all_goals rfl

end Go.Proofs.Tryz.My
