/- A helper text: contracts of functions of the program, and plain lemmas. -/
import Derived.Test.YtdpnpdjnaimgaaaGreatMzExB
set_option maxRecDepth 100000
set_option maxHeartbeats 0
set_option linter.unusedVariables false
set_option linter.unusedSimpArgs false
namespace Go.Proofs.Tryz.My
open Go Go.Ev
theorem O9 {n d:Int} (h1 : -4611686018427387903<=n) (h2:n<=4611686018427387903) (h3:0 < d) (h4:d<=4611686018427387903):b9 (w9 n d).1=true/\(w9 n d).2=0/\qv (w9 n d).1=(n:Rat) / (d:Rat):=by
 rcases I6 (n:=n) (d:=d) (by omega) with h | ⟨h,h0⟩
 ·exact h
 ·exfalso
  have hg:0 < Nat.gcd n.natAbs d.natAbs:=Nat.gcd_pos_of_pos_right _ (by omega)
  rw [I5 h3] at h
  unfold G4 at h
  have k1:n.natAbs / Nat.gcd n.natAbs d.natAbs<=4611686018427387903:=Nat.le_trans (Nat.div_le_self _ _) (by omega)
  have k2:d.natAbs / Nat.gcd n.natAbs d.natAbs<=4611686018427387903:=Nat.le_trans (Nat.div_le_self _ _) (by omega)
  simp [k1,k2] at h
theorem a8H {n d:Int} {x:Rat} {r:(Int×Int)×Int} (h:Fits x r) (hx:x=(n:Rat) / (d:Rat)) (h1 : -4611686018427387903<=n) (h2:n<=4611686018427387903) (h3:0 < d) (h4:d<=4611686018427387903):b9 r.1=true/\r.2=0/\qv r.1=x:=by
 have h5:=O9 h1 h2 h3 h4
 have h6:=I6 (n:=n) (d:=d) (by omega)
 rw [<- hx] at h6 h5
 rw [h.unique h6]
 exact h5
theorem a1t {n:Int} (h1 : -4611686018427387903<=n) (h2:n<=4611686018427387903):b9 (n,1)=true:=by
 rw [t8]
 simp only []
 refine ⟨by omega,by omega,h1,h2,?_⟩
 show Nat.gcd n.natAbs 1=1
 exact Nat.gcd_one_right _
theorem b15 (n:Int):qv (n,1)=n:=by
 unfold qv
 simp only [Rat.intCast_one]
 grind
theorem b0x {n:Int} (h1 : -4611686018427387903<=n) (h2:n<=4611686018427387903):w9 n 1=((n,1),0):=by
 have h:=I6 (n:=n) (d:=1) (by omega)
 have e:(n:Rat) / ((1:Int):Rat)=n:=by simp only [Rat.intCast_one]; grind
 rw [e] at h
 exact h.unique (.inl ⟨a1t h1 h2,rfl,b15 n⟩)
theorem b16 {w N s:Int} (hw1 : -4611686018427387903<=w) (hw2:w<=4611686018427387903) (h1 : -4611686018427387903<=N) (h2:N<=4611686018427387903) (h3:0 < s) (h4:s<=4611686018427387903):addF (w,1) (w9 N s).1=w9 (w * s + N) s:=by
 obtain ⟨v,_,q⟩:=O9 h1 h2 h3 h4
 have h:=a4k (a1t hw1 hw2) v
 rw [b15,q] at h
 have k:=I6 (n:=w * s + N) (d:=s) (by omega)
 have e:((w * s + N:Int):Rat) / (s:Rat)=(w:Rat) + (N:Rat) / (s:Rat):=by
  have:=A6 h3
  rw [Rat.intCast_add,Rat.intCast_mul]
  grind
 rw [e] at k
 exact h.unique k
def z5 (n:Nat) (a d:Int):Nat:=if d < 0 then (a + 1).toNat else ((n:Int) - a).toNat
def atK (p:List Int) (a d:Int) (k:Nat):Int:=p.getD (a + d * k).toNat 0
def brkB (p:List Int) (thr a d:Int) (k:Nat):Bool:=decide (thr<=atK p a d k)
def brk (p:List Int) (thr a d:Int):Option Nat:=(List.range (z5 p.length a d)).find? (brkB p thr a d)
theorem z6 {p:List Int} {thr a d:Int} {k:Nat}:brk p thr a d=some k↔k < z5 p.length a d/\thr<=atK p a d k/\∀ j,j < k->atK p a d j < thr:=by
 unfold brk
 rw [List.find?_range_eq_some]
 simp only [brkB,decide_eq_true_eq,List.mem_range,Bool.not_eq_true',decide_eq_false_iff_not,Int.not_le]
 constructor
 ·rintro ⟨a,b,c⟩; exact ⟨b,a,c⟩
 ·rintro ⟨a,b,c⟩; exact ⟨b,a,c⟩
theorem a02 {p:List Int} {thr a d:Int}:brk p thr a d=none↔∀ j,j < z5 p.length a d->atK p a d j < thr:=by
 unfold brk
 rw [List.find?_range_eq_none]
 simp only [brkB,Bool.not_eq_true',decide_eq_false_iff_not,Int.not_le]
def A1 (p:List Int) (thr a d:Int):Nat->Int×Int
 | 0=>(a,1)
 | k + 1=>((a + d * k) * (atK p a d (k + 1) - atK p a d k) + d * (thr - atK p a d k),atK p a d (k + 1) - atK p a d k)
def u5 (p:List Int) (thr a d:Int) (k:Nat):Int×Int:=(w9 (A1 p thr a d k).1 (A1 p thr a d k).2).1
def brF (p:List Int) (thr a d:Int):(Int×Int)×Bool :=
 match brk p thr a d with
 | none=>((0,0),false)
 | some k=>(u5 p thr a d k,true)
def N4 (c:Nat->Int) (thr:Int):Nat->Rat
 | 0=>0
 | k + 1=>(k:Rat) + ((thr - c k:Int):Rat) / ((c (k + 1) - c k:Int):Rat)
theorem a0D (c:Nat->Int) (thr:Int) (k:Nat):N4 c thr (k + 1)=(k:Rat) + ((thr - c k:Int):Rat) / ((c (k + 1) - c k:Int):Rat):=rfl
theorem a03 {c:Nat->Int} {thr:Int} {k:Nat} (h1:thr<=c (k + 1)) (h2:c k < thr):(k:Rat) < N4 c thr (k + 1)/\N4 c thr (k + 1)<=(k:Rat) + 1:=by
 have hd:=A6 (show 0 < c (k + 1) - c k by omega)
 have hn:=A6 (show 0 < thr - c k by omega)
 have hle:((thr - c k:Int):Rat)<=((c (k + 1) - c k:Int):Rat):=Rat.intCast_le_intCast.2 (by omega)
 rw [a0D]
 generalize ((thr - c k:Int):Rat)=N at *
 generalize ((c (k + 1) - c k:Int):Rat)=D at *
 have e1:N / D * D=N:=by grind
 have p1:0 < N / D:=by
  rw [<- a1s hd,e1]; grind
 have p2:N / D<=1:=by
  refine Rat.not_lt.1 fun h => ?_
  rw [<- a1s hd,e1] at h
  grind
 exact ⟨by grind,by grind⟩
theorem a8I {c e:Nat->Int} {thr:Int} {k j:Nat} (hce:∀ i,i<=k->c i<=e i) (hk:thr<=c k) (hk':∀ i,i < k->c i < thr) (hj:thr<=e j) (hj':∀ i,i < j->e i < thr):j<=k/\N4 e thr j<=N4 c thr k:=by
 have hjk:j<=k:=by
  refine Nat.not_lt.1 fun h => ?_
  have:=hj' k h
  have:=hce k (Nat.le_refl k)
  omega
 refine ⟨hjk,?_⟩
 cases k with
 | zero =>
  obtain rfl:j=0:=by omega
  exact Rat.le_refl
 | succ k =>
  have b1:=a03 hk (hk' k (by omega))
  cases j with
  | zero =>
   show (0:Rat)<=_
   have:(0:Rat)<=(k:Rat):=by exact_mod_cast Nat.zero_le k
   grind
  | succ j =>
   have b2:=a03 hj (hj' j (by omega))
   by_cases hlt:j < k
   ·have:(j:Rat) + 1<=(k:Rat):=by exact_mod_cast hlt
    grind
   ·obtain rfl:j=k:=by omega
    have q0:=hce j (by omega)
    have q1:=hce (j + 1) (by omega)
    have r0:=hk' j (by omega)
    have r1:=hj' j (by omega)
    rw [a0D,a0D]
    have key:((thr - e j:Int):Rat) / ((e (j + 1) - e j:Int):Rat)<=((thr - c j:Int):Rat) / ((c (j + 1) - c j:Int):Rat):=by
     refine Rat.not_lt.1 fun h => ?_
     rw [a2X (A6 (by omega)) (A6 (by omega)),a1V] at h
     have m1:(thr - e j) * (c (j + 1) - thr)<=(thr - c j) * (c (j + 1) - thr):=Int.mul_le_mul_of_nonneg_right (by omega) (by omega)
     have m2:(thr - c j) * (c (j + 1) - thr)<=(thr - c j) * (e (j + 1) - thr):=Int.mul_le_mul_of_nonneg_left (by omega) (by omega)
     grind
    grind
theorem N5 {p:List Int} {thr a d:Int} {k:Nat} (h1:thr<=atK p a d k) (h2:∀ j,j < k->atK p a d j < thr) :
  0 < (A1 p thr a d k).2/\((A1 p thr a d k).1:Rat) / ((A1 p thr a d k).2:Rat)=(a:Rat) + (d:Rat) * N4 (atK p a d) thr k:=by
 cases k with
 | zero =>
  refine ⟨by simp [A1],?_⟩
  simp only [A1,N4,Rat.intCast_one]
  grind
 | succ k =>
  have:=h2 k (by omega)
  refine ⟨by simp only [A1]; omega,?_⟩
  simp only [A1,N4]
  have hd:=A6 (show 0 < atK p a d (k + 1) - atK p a d k by omega)
  rw [Rat.intCast_add,Rat.intCast_mul,Rat.intCast_mul,Rat.intCast_add,Rat.intCast_mul]
  have e:((k:Int):Rat)=(k:Rat):=rfl
  rw [e]
  generalize ((atK p a d (k + 1) - atK p a d k:Int):Rat)=D at *
  generalize ((thr - atK p a d k:Int):Rat)=N at *
  grind
def a23 (p:List Int):Prop:=∀ i,i < p.length->0<=p.getD i 0/\p.getD i 0<=255
def a1W (d:Int):Prop:=d=1∨d = -1
theorem a04 {n:Nat} {a d:Int} (ha:0<=a) (hn:a < n) (hd:a1W d) {k:Nat} (hk:k < z5 n a d):0<=a + d * k/\a + d * k < n:=by
 unfold z5 at hk
 rcases hd with rfl | rfl<;>simp at hk<;>omega
theorem a05 {p:List Int} (hp:a23 p) {a d:Int} (ha:0<=a) (hn:a < p.length) (hd:a1W d) {k:Nat} (hk:k < z5 p.length a d):0<=atK p a d k/\atK p a d k<=255:=by
 have:=a04 ha hn hd hk
 exact hp _ (by omega)
theorem H3 {p:List Int} (hp:a23 p) (hl:p.length<=64) {thr a d:Int} (ha:0<=a) (hn:a < p.length) (hd:a1W d) (t1:1<=thr) (t2:thr<=255) {k:Nat} (h:brk p thr a d=some k) :
  -17000<=(A1 p thr a d k).1/\(A1 p thr a d k).1<=17000/\0 < (A1 p thr a d k).2/\(A1 p thr a d k).2<=255:=by
 obtain ⟨h1,h2,h3⟩:=z6.1 h
 cases k with
 | zero=>simp only [A1]; omega
 | succ k =>
  have b1:=a05 hp ha hn hd h1
  have b2:=a05 hp ha hn hd (k:=k) (by omega)
  have b3:=a04 ha hn hd (k:=k) (by omega)
  have b4:=h3 k (by omega)
  simp only [A1]
  generalize atK p a d (k + 1)=u at *
  generalize atK p a d k=v at *
  generalize a + d * (k:Int)=w at *
  have m1:w * (u - v)<=64 * (u - v):=Int.mul_le_mul_of_nonneg_right (by omega) (by omega)
  have m2:0<=w * (u - v):=Int.mul_nonneg (by omega) (by omega)
  rcases hd with rfl | rfl<;>omega
theorem a4m {p:List Int} (hp:a23 p) (hl:p.length<=64) {thr a d:Int} (ha:0<=a) (hn:a < p.length) (hd:a1W d) (t1:1<=thr) (t2:thr<=255) {k:Nat} (h:brk p thr a d=some k) :
  b9 (u5 p thr a d k)=true/\(w9 (A1 p thr a d k).1 (A1 p thr a d k).2).2=0/\qv (u5 p thr a d k)=(a:Rat) + (d:Rat) * N4 (atK p a d) thr k:=by
 obtain ⟨s1,s2,s3,s4⟩:=H3 hp hl ha hn hd t1 t2 h
 obtain ⟨h1,h2,h3⟩:=z6.1 h
 obtain ⟨v1,v2,v3⟩:=O9 (n:=(A1 p thr a d k).1) (d:=(A1 p thr a d k).2) (by omega) (by omega) s3 (by omega)
 refine ⟨v1,v2,?_⟩
 rw [<- (N5 h2 h3).2]
 exact v3
theorem b17 {p q:List Int} (hpq:p.length=q.length) (hle:∀ i,p.getD i 0<=q.getD i 0) {thr a d:Int} {k:Nat} (h:brk p thr a d=some k) :
  ∃ j,brk q thr a d=some j/\j<=k/\N4 (atK q a d) thr j<=N4 (atK p a d) thr k:=by
 obtain ⟨h1,h2,h3⟩:=z6.1 h
 have hc:∀ i,atK p a d i<=atK q a d i:=fun i=>hle _
 cases hq:brk q thr a d with
 | none =>
  have:=a02.1 hq k (by rw [<- hpq]; exact h1)
  have:=hc k
  omega
 | some j =>
  obtain ⟨j1,j2,j3⟩:=z6.1 hq
  exact ⟨j,rfl,a8I (fun i _=>hc i) h2 h3 j2 j3⟩
def H9 (v:Int):Int:=if v < 0 then 0 else if 255 < v then 255 else v
def movL (p:List Int) (b:Int):List Int:=p.map fun v=>H9 (v + b)
theorem n5 (p:List Int) (b:Int):(movL p b).length=p.length:=by simp [movL]
theorem a1u (p:List Int) (b:Int) (i:Nat):(movL p b).getD i 0=if i < p.length then H9 (p.getD i 0 + b) else 0:=by
 by_cases h:i < p.length<;>simp [movL,List.getD,h]
theorem a5C (v:Int):0<=H9 v/\H9 v<=255:=by unfold H9; split<;>(try split)<;>omega
theorem a8J {v w:Int} (h:v<=w):H9 v<=H9 w:=by unfold H9; split<;>split<;>(try split)<;>(try split)<;>omega
theorem G5 (p:List Int) (b:Int):a23 (movL p b):=by
 intro i hi
 rw [n5] at hi
 rw [a1u,if_pos hi]
 exact a5C _
theorem b0y (p:List Int) {b c:Int} (h:b<=c) (i:Nat):(movL p b).getD i 0<=(movL p c).getD i 0:=by
 rw [a1u,a1u]
 split
 ·exact a8J (by omega)
 ·exact Int.le_refl _
theorem b18 {p:List Int} {thr:Int} (hl:0 < p.length):brk p thr 0 1=none↔brk p thr ((p.length:Int) - 1) (-1)=none:=by
 rw [a02,a02]
 constructor
 ·intro h j hj
  have hj':j < p.length:=by simp [z5] at hj; omega
  have:=h (p.length - 1 - j) (by simp [z5]; omega)
  unfold atK at this ⊢
  rw [show ((p.length:Int) - 1 + -1 * (j:Int)).toNat=p.length - 1 - j by omega]
  rwa [show ((0:Int) + 1 * ((p.length - 1 - j:Nat):Int)).toNat=p.length - 1 - j by omega] at this
 ·intro h j hj
  have hj':j < p.length:=by simp [z5] at hj; omega
  have:=h (p.length - 1 - j) (by simp [z5]; omega)
  unfold atK at this ⊢
  rw [show ((0:Int) + 1 * (j:Int)).toNat=j by omega]
  rwa [show ((p.length:Int) - 1 + -1 * ((p.length - 1 - j:Nat):Int)).toNat=j by omega] at this
theorem a4n {x y:Int×Int} {n m e f:Int} (hx:b9 x=true) (hy:b9 y=true) (ex:qv x=(n:Rat) / (e:Rat)) (ey:qv y=(m:Rat) / (f:Rat)) (n1 : -17000<=n) (n2:n<=17000) (m1 : -17000<=m) (m2:m<=17000) (e1:0 < e) (e2:e<=255) (f1:0 < f) (f2:f<=255) :
  b9 (subF x y).1=true/\(subF x y).2=0/\qv (subF x y).1=qv x - qv y:=by
 have h:=Z4 hx hy
 have hE:=A6 e1
 have hF:=A6 f1
 have p1:n * f<=17000 * f:=Int.mul_le_mul_of_nonneg_right n2 (by omega)
 have p2 : -17000 * f<=n * f:=Int.mul_le_mul_of_nonneg_right n1 (by omega)
 have p3:m * e<=17000 * e:=Int.mul_le_mul_of_nonneg_right m2 (by omega)
 have p4 : -17000 * e<=m * e:=Int.mul_le_mul_of_nonneg_right m1 (by omega)
 have p5:e * f<=255 * f:=Int.mul_le_mul_of_nonneg_right e2 (by omega)
 refine a8H h (n:=n * f - m * e) (d:=e * f) ?_ (by omega) (by omega) (Int.mul_pos e1 f1) (by omega)
 rw [ex,ey,Rat.intCast_sub,Rat.intCast_mul,Rat.intCast_mul,Rat.intCast_mul]
 grind
def askE (p:List Int) (thr a noise:Int):Bool:=decide (1<=thr) && decide (thr<=255) && (decide (0<=a) && decide (a<=(p.length:Int) - 1)) && (decide (0<=noise) && decide (noise<=64))
def a4o (lo hi:(Int×Int)×Bool) (d:Int):SpT×Int:=if lo.2 then (if d < 0 then (lo.1,hi.1) else (hi.1,lo.1),0) else (zS,6)
def E4 (p:List Int) (thr a noise d:Int):SpT×Int:=a4o (brF (movL p (-noise)) thr a d) (brF (movL p noise) thr a d) d
def a9z (p:List Int) (thr:Int):(Int×Int)×Bool:=if (brF p thr 0 1).2 then ((subF (brF p thr ((p.length:Int) - 1) (-1)).1 (brF p thr 0 1).1).1,true) else ((0,0),false)
def widG (lo hi:(Int×Int)×Bool):SpT×Int:=if lo.2 then ((lo.1,hi.1),0) else (zS,6)
def widF (p:List Int) (thr noise:Int):SpT×Int:=widG (a9z (movL p (-noise)) thr) (a9z (movL p noise) thr)
theorem J5 {p:List Int} {thr a d:Int} {k:Nat} (h:brk p thr a d=some k):brF p thr a d=(u5 p thr a d k,true):=by unfold brF; rw [h]
theorem a24 {p:List Int} {thr a d:Int} (h:brk p thr a d=none):brF p thr a d=((0,0),false):=by unfold brF; rw [h]
theorem a25 {p:List Int} (hl:p.length<=64) {thr a noise d:Int} (ha:0<=a) (hn:a < p.length) (hd:a1W d) (t1:1<=thr) (t2:thr<=255) (n0:0<=noise) :
  (brk (movL p (-noise)) thr a d=none/\E4 p thr a noise d=(zS,6)) ∨
  ∃ k j,brk (movL p (-noise)) thr a d=some k/\brk (movL p noise) thr a d=some j/\j<=k /\
   b9 (u5 (movL p (-noise)) thr a d k)=true/\b9 (u5 (movL p noise) thr a d j)=true /\
   qv (u5 (movL p (-noise)) thr a d k)=(a:Rat) + (d:Rat) * N4 (atK (movL p (-noise)) a d) thr k /\
   qv (u5 (movL p noise) thr a d j)=(a:Rat) + (d:Rat) * N4 (atK (movL p noise) a d) thr j /\
   N4 (atK (movL p noise) a d) thr j<=N4 (atK (movL p (-noise)) a d) thr k /\
   E4 p thr a noise d=(if d < 0 then (u5 (movL p (-noise)) thr a d k,u5 (movL p noise) thr a d j) else (u5 (movL p noise) thr a d j,u5 (movL p (-noise)) thr a d k),0)/\k7 (E4 p thr a noise d).1=true:=by
 cases hk:brk (movL p (-noise)) thr a d with
 | none=>exact .inl ⟨rfl,by unfold E4 a4o; rw [a24 hk]; rfl⟩
 | some k =>
  obtain ⟨j,hj,hjk,hst⟩:=b17 (p:=movL p (-noise)) (q:=movL p noise) (by simp [n5]) (b0y p (by omega)) hk
  have l1:(a:Int) < (movL p (-noise)).length:=by rw [n5]; exact hn
  have l2:(a:Int) < (movL p noise).length:=by rw [n5]; exact hn
  obtain ⟨v1,_,q1⟩:=a4m (G5 p _) (by rw [n5]; exact hl) ha l1 hd t1 t2 hk
  obtain ⟨v2,_,q2⟩:=a4m (G5 p _) (by rw [n5]; exact hl) ha l2 hd t1 t2 hj
  have e:E4 p thr a noise d=(if d < 0 then (u5 (movL p (-noise)) thr a d k,u5 (movL p noise) thr a d j) else (u5 (movL p noise) thr a d j,u5 (movL p (-noise)) thr a d k),0):=by
   unfold E4 a4o
   rw [J5 hk,J5 hj]
   rfl
  refine .inr ⟨k,j,rfl,hj,hjk,v1,v2,q1,q2,hst,e,?_⟩
  rw [e,N3]
  rcases hd with rfl | rfl
  ·refine ⟨v2,v1,?_⟩
   simp only [show ¬ ((1:Int) < 0) by decide,if_false]
   rw [q1,q2]
   have:((1:Int):Rat)=1:=rfl
   rw [this]
   grind
  ·refine ⟨v1,v2,?_⟩
   simp only [show ((-1:Int) < 0) by decide,if_true]
   rw [q1,q2]
   have:((-1:Int):Rat) = -1:=rfl
   rw [this]
   grind
theorem a9A {p:List Int} (hl0:0 < p.length) (hl:p.length<=64) {thr noise:Int} (t1:1<=thr) (t2:thr<=255) (n0:0<=noise) :
  (E4 p thr 0 noise 1=(zS,6)/\widF p thr noise=(zS,6)) ∨
  ((E4 p thr 0 noise 1).2=0/\(E4 p thr ((p.length:Int) - 1) noise (-1)).2=0/\k7 (E4 p thr 0 noise 1).1=true/\k7 (E4 p thr ((p.length:Int) - 1) noise (-1)).1=true /\
   subS (E4 p thr ((p.length:Int) - 1) noise (-1)).1 (E4 p thr 0 noise 1).1=widF p thr noise/\(widF p thr noise).2=0/\k7 (widF p thr noise).1=true /\
   qv (widF p thr noise).1.1=qv (E4 p thr ((p.length:Int) - 1) noise (-1)).1.1 - qv (E4 p thr 0 noise 1).1.2/\qv (widF p thr noise).1.2=qv (E4 p thr ((p.length:Int) - 1) noise (-1)).1.2 - qv (E4 p thr 0 noise 1).1.1):=by
 have hb:=b18 (p:=movL p (-noise)) (thr:=thr) (by rw [n5]; exact hl0)
 rw [n5] at hb
 rcases a25 (p:=p) hl (thr:=thr) (a:=0) (noise:=noise) (d:=1) (by omega) (by omega) (.inl rfl) t1 t2 n0 with ⟨h1,e1⟩ | ⟨k,j,hk,hj,hjk,v1,v2,q1,q2,hst,e1,s1⟩
 ·left
  refine ⟨e1,?_⟩
  unfold widF widG a9z
  rw [a24 h1]
  rfl
 ·right
  rcases a25 (p:=p) hl (thr:=thr) (a:=(p.length:Int) - 1) (noise:=noise) (d := -1) (by omega) (by omega) (.inr rfl) t1 t2 n0 with ⟨h2,e2⟩ | ⟨k',j',hk',hj',hjk',v1',v2',q1',q2',hst',e2,s2⟩
  ·rw [<- hb,hk] at h2; cases h2
  have f1:E4 p thr 0 noise 1=((u5 (movL p noise) thr 0 1 j,u5 (movL p (-noise)) thr 0 1 k),0):=by rw [e1,if_neg (by decide)]
  have f2:E4 p thr ((p.length:Int) - 1) noise (-1)=((u5 (movL p (-noise)) thr ((p.length:Int) - 1) (-1) k',u5 (movL p noise) thr ((p.length:Int) - 1) (-1) j'),0):=by rw [e2,if_pos (by decide)]
  have hw:widF p thr noise=(((subF (u5 (movL p (-noise)) thr ((p.length:Int) - 1) (-1) k') (u5 (movL p (-noise)) thr 0 1 k)).1,(subF (u5 (movL p noise) thr ((p.length:Int) - 1) (-1) j') (u5 (movL p noise) thr 0 1 j)).1),0):=by
   unfold widF widG a9z
   rw [n5,n5,J5 hk,J5 hj,J5 hk',J5 hj']
   rfl
  have nl:((movL p (-noise)).length:Int)<=64:=by rw [n5]; omega
  have nu:((movL p noise).length:Int)<=64:=by rw [n5]; omega
  have z1:=H3 (G5 p (-noise)) (by omega) (a:=0) (d:=1) (by omega) (by rw [n5]; omega) (.inl rfl) t1 t2 hk
  have z2:=H3 (G5 p noise) (by omega) (a:=0) (d:=1) (by omega) (by rw [n5]; omega) (.inl rfl) t1 t2 hj
  have z3:=H3 (G5 p (-noise)) (by omega) (a:=(p.length:Int) - 1) (d := -1) (by omega) (by rw [n5]; omega) (.inr rfl) t1 t2 hk'
  have z4:=H3 (G5 p noise) (by omega) (a:=(p.length:Int) - 1) (d := -1) (by omega) (by rw [n5]; omega) (.inr rfl) t1 t2 hj'
  have y1:=(N5 (z6.1 hk).2.1 (z6.1 hk).2.2).2
  have y2:=(N5 (z6.1 hj).2.1 (z6.1 hj).2.2).2
  have y3:=(N5 (z6.1 hk').2.1 (z6.1 hk').2.2).2
  have y4:=(N5 (z6.1 hj').2.1 (z6.1 hj').2.2).2
  have d1:=a4n v1' v1 (q1'.trans y3.symm) (q1.trans y1.symm) z3.1 z3.2.1 z1.1 z1.2.1 z3.2.2.1 z3.2.2.2 z1.2.2.1 z1.2.2.2
  have d2:=a4n v2' v2 (q2'.trans y4.symm) (q2.trans y2.symm) z4.1 z4.2.1 z2.1 z2.2.1 z4.2.2.1 z4.2.2.2 z2.2.2.1 z2.2.2.2
  rw [f1] at s1 ⊢
  rw [f2] at s2 ⊢
  clear f1 f2 e1 e2 y1 y2 y3 y4 z1 z2 z3 z4 q1 q2 q1' q2' hst hst' hk hj hk' hj' hb
  generalize u5 (movL p (-noise)) thr ((p.length:Int) - 1) (-1) k'=A at *
  generalize u5 (movL p noise) thr ((p.length:Int) - 1) (-1) j'=B at *
  generalize u5 (movL p (-noise)) thr 0 1 k=C at *
  generalize u5 (movL p noise) thr 0 1 j=D at *
  have r1:=(N3.1 s1).2.2
  have r2:=(N3.1 s2).2.2
  simp only [] at r1 r2
  have hle:qv A - qv C<=qv B - qv D:=by grind
  have he:=b13 (op:=subF) (p:=(A,C)) (q:=(B,D)) (Z4 v1' v1) (Z4 v2' v2) hle
  rw [if_pos ⟨d1.2.1,d2.2.1⟩] at he
  have hsub:subS (A,B) (D,C)=(((subF A C).1,(subF B D).1),0):=by
   unfold subS
   rw [s1,s2]
   exact he
  refine ⟨rfl,rfl,s1,s2,by rw [hsub,hw],by rw [hw],?_,by rw [hw]; exact d1.2.2,by rw [hw]; exact d2.2.2⟩
  rw [hw,N3]
  refine ⟨d1.1,d2.1,?_⟩
  show qv (subF A C).1<=qv (subF B D).1
  rw [d1.2.2,d2.2.2]
  exact hle

end Go.Proofs.Tryz.My
