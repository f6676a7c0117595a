/- Helper lemmas. -/
import Derived.Test.YtpmmjoccamogdaaGreatMyExB
set_option linter.unusedVariables false
set_option linter.unusedSimpArgs false
set_option maxRecDepth 100000
set_option maxHeartbeats 0
namespace Go.Proofs.Tryz.My
open Go Go.Ev
theorem aa {n d:Int} (h1 : -4611686018427387903<=n) (h2:n<=4611686018427387903) (h3:0 < d) (h4:d<=4611686018427387903):k7 (F6 n d).1=true/\(F6 n d).2=0/\qv (F6 n d).1=(n:Rat) / (d:Rat):=by
 rcases T4 (n:=n) (d:=d) (by omega) with h|⟨h,h0⟩
 ·exact h
 ·exfalso
  have hg:0 < Nat.gcd n.natAbs d.natAbs:=Nat.gcd_pos_of_pos_right _ (by omega)
  rw [T3 h3] at h
  unfold P4 at h
  have k1:n.natAbs / Nat.gcd n.natAbs d.natAbs<=4611686018427387903:=Nat.le_trans (Nat.div_le_self _ _) (by omega)
  have k2:d.natAbs / Nat.gcd n.natAbs d.natAbs<=4611686018427387903:=Nat.le_trans (Nat.div_le_self _ _) (by omega)
  simp [k1,k2] at h
theorem sA {n d:Int} {x:Rat} {r:(Int×Int)×Int} (h:dS x r) (hx:x=(n:Rat) / (d:Rat)) (h1 : -4611686018427387903<=n) (h2:n<=4611686018427387903) (h3:0 < d) (h4:d<=4611686018427387903):k7 r.1=true/\r.2=0/\qv r.1=x:=by
 have h5:=aa h1 h2 h3 h4
 have h6:=T4 (n:=n) (d:=d) (by omega)
 rw [<- hx] at h6 h5
 rw [h.unique h6]
 exact h5
theorem gu {n:Int} (h1 : -4611686018427387903<=n) (h2:n<=4611686018427387903):k7 (n,1)=true:=by
 rw [B5]
 simp only []
 refine ⟨by omega,by omega,h1,h2,?_⟩
 show Nat.gcd n.natAbs 1=1
 exact Nat.gcd_one_right _
theorem ym (n:Int):qv (n,1)=n:=by
 unfold qv
 simp only [Rat.intCast_one]
 grind
theorem vm {n:Int} (h1 : -4611686018427387903<=n) (h2:n<=4611686018427387903):F6 n 1=((n,1),0):=by
 have h:=T4 (n:=n) (d:=1) (by omega)
 have e:(n:Rat) / ((1:Int):Rat)=n:=by simp only [Rat.intCast_one];grind
 rw [e] at h
 exact h.unique (.inl ⟨gu h1 h2,rfl,ym n⟩)
theorem yn {w N s:Int} (LI : -4611686018427387903<=w) (LJ:w<=4611686018427387903) (h1 : -4611686018427387903<=N) (h2:N<=4611686018427387903) (h3:0 < s) (h4:s<=4611686018427387903):eZ (w,1) (F6 N s).1=F6 (w * s + N) s:=by
 obtain ⟨v,_,q⟩:=aa h1 h2 h3 h4
 have h:=mv (gu LI LJ) v
 rw [ym,q] at h
 have k:=T4 (n:=w * s + N) (d:=s) (by omega)
 have e:((w * s + N:Int):Rat) / (s:Rat)=(w:Rat) + (N:Rat) / (s:Rat):=by
  have:=H3 h3
  rw [Rat.intCast_add,Rat.intCast_mul]
  grind
 rw [e] at k
 exact h.unique k
def G1 (n:Nat) (a d:Int):Nat:=if d < 0 then (a + 1).toNat else ((n:Int) - a).toNat
def L0 (p:List Int) (a d:Int) (k:Nat):Int:=p.getD (a + d * k).toNat 0
def DA (p:List Int) (thr a d:Int) (k:Nat):Bool:=decide (thr<=L0 p a d k)
def oQ (p:List Int) (thr a d:Int):Option Nat:=(List.range (G1 p.length a d)).find? (DA p thr a d)
theorem G2 {p:List Int} {thr a d:Int} {k:Nat}:oQ p thr a d=some k↔k < G1 p.length a d/\thr<=L0 p a d k/\∀ j,j < k->L0 p a d j < thr:=by
 unfold oQ
 rw [List.find?_range_eq_some]
 simp only [DA,decide_eq_true_eq,List.mem_range,Bool.not_eq_true',decide_eq_false_iff_not,Int.not_le]
 constructor
 ·rintro ⟨a,b,c⟩;exact ⟨b,a,c⟩
 ·rintro ⟨a,b,c⟩;exact ⟨b,a,c⟩
theorem fj {p:List Int} {thr a d:Int}:oQ p thr a d=none↔∀ j,j < G1 p.length a d->L0 p a d j < thr:=by
 unfold oQ
 rw [List.find?_range_eq_none]
 simp only [DA,Bool.not_eq_true',decide_eq_false_iff_not,Int.not_le]
def J1 (p:List Int) (thr a d:Int):Nat->Int×Int
 | 0=>(a,1)
 | k + 1=>((a + d * k) * (L0 p a d (k + 1) - L0 p a d k) + d * (thr - L0 p a d k),L0 p a d (k + 1) - L0 p a d k)
def C8 (p:List Int) (thr a d:Int) (k:Nat):Int×Int:=(F6 (J1 p thr a d k).1 (J1 p thr a d k).2).1
def sB (p:List Int) (thr a d:Int):(Int×Int)×Bool :=
 match oQ p thr a d with
 | none=>((0,0),false)
 | some k=>(C8 p thr a d k,true)
def Y1 (c:Nat->Int) (thr:Int):Nat->Rat
 | 0=>0
 | k + 1=>(k:Rat) + ((thr - c k:Int):Rat) / ((c (k + 1) - c k:Int):Rat)
theorem dT (c:Nat->Int) (thr:Int) (k:Nat):Y1 c thr (k + 1)=(k:Rat) + ((thr - c k:Int):Rat) / ((c (k + 1) - c k:Int):Rat):=rfl
theorem fk {c:Nat->Int} {thr:Int} {k:Nat} (h1:thr<=c (k + 1)) (h2:c k < thr):(k:Rat) < Y1 c thr (k + 1)/\Y1 c thr (k + 1)<=(k:Rat) + 1:=by
 have hd:=H3 (show 0 < c (k + 1) - c k by omega)
 have hn:=H3 (show 0 < thr - c k by omega)
 have hle:((thr - c k:Int):Rat)<=((c (k + 1) - c k:Int):Rat):=Rat.intCast_le_intCast.2 (by omega)
 rw [dT]
 generalize ((thr - c k:Int):Rat)=N at *
 generalize ((c (k + 1) - c k:Int):Rat)=D at *
 have e1:N / D * D=N:=by grind
 have p1:0 < N / D:=by
  rw [<- gq hd,e1];grind
 have p2:N / D<=1:=by
  refine Rat.not_lt.1 fun h=>?_
  rw [<- gq hd,e1] at h
  grind
 exact ⟨by grind,by grind⟩
theorem sC {c e:Nat->Int} {thr:Int} {k j:Nat} (IJ:∀ i,i<=k->c i<=e i) (hk:thr<=c k) (fJ:∀ i,i < k->c i < thr) (hj:thr<=e j) (fI:∀ i,i < j->e i < thr):j<=k/\Y1 e thr j<=Y1 c thr k:=by
 have CN:j<=k:=by
  refine Nat.not_lt.1 fun h=>?_
  have:=fI k h
  have:=IJ k (Nat.le_refl k)
  omega
 refine ⟨CN,?_⟩
 cases k with
 | zero =>
  obtain rfl:j=0:=by omega
  exact Rat.le_refl
 | succ k =>
  have b1:=fk hk (fJ k (by omega))
  cases j with
  | zero =>
   show (0:Rat)<=_
   have:(0:Rat)<=(k:Rat):=by exact_mod_cast Nat.zero_le k
   grind
  | succ j =>
   have b2:=fk hj (fI j (by omega))
   by_cases u2:j < k
   ·have:(j:Rat) + 1<=(k:Rat):=by exact_mod_cast u2
    grind
   ·obtain rfl:j=k:=by omega
    have q0:=IJ j (by omega)
    have q1:=IJ (j + 1) (by omega)
    have r0:=fJ j (by omega)
    have r1:=fI j (by omega)
    rw [dT,dT]
    have key:((thr - e j:Int):Rat) / ((e (j + 1) - e j:Int):Rat)<=((thr - c j:Int):Rat) / ((c (j + 1) - c j:Int):Rat):=by
     refine Rat.not_lt.1 fun h=>?_
     rw [jT (H3 (by omega)) (H3 (by omega)),il] at h
     have m1:(thr - e j) * (c (j + 1) - thr)<=(thr - c j) * (c (j + 1) - thr):=Int.mul_le_mul_of_nonneg_right (by omega) (by omega)
     have m2:(thr - c j) * (c (j + 1) - thr)<=(thr - c j) * (e (j + 1) - thr):=Int.mul_le_mul_of_nonneg_left (by omega) (by omega)
     grind
    grind
theorem Y2 {p:List Int} {thr a d:Int} {k:Nat} (h1:thr<=L0 p a d k) (h2:∀ j,j < k->L0 p a d j < thr) :
  0 < (J1 p thr a d k).2/\((J1 p thr a d k).1:Rat) / ((J1 p thr a d k).2:Rat)=(a:Rat) + (d:Rat) * Y1 (L0 p a d) thr k:=by
 cases k with
 | zero =>
  refine ⟨by simp [J1],?_⟩
  simp only [J1,Y1,Rat.intCast_one]
  grind
 | succ k =>
  have:=h2 k (by omega)
  refine ⟨by simp only [J1];omega,?_⟩
  simp only [J1,Y1]
  have hd:=H3 (show 0 < L0 p a d (k + 1) - L0 p a d k by omega)
  rw [Rat.intCast_add,Rat.intCast_mul,Rat.intCast_mul,Rat.intCast_add,Rat.intCast_mul]
  have e:((k:Int):Rat)=(k:Rat):=rfl
  rw [e]
  generalize ((L0 p a d (k + 1) - L0 p a d k:Int):Rat)=D at *
  generalize ((thr - L0 p a d k:Int):Rat)=N at *
  grind
def jY (p:List Int):Prop:=∀ i,i < p.length->0<=p.getD i 0/\p.getD i 0<=255
def im (d:Int):Prop:=d=1∨d = -1
theorem fo {n:Nat} {a d:Int} (ha:0<=a) (hn:a < n) (hd:im d) {k:Nat} (hk:k < G1 n a d):0<=a + d * k/\a + d * k < n:=by
 unfold G1 at hk
 rcases hd with rfl|rfl<;>simp at hk<;>omega
theorem fq {p:List Int} (hp:jY p) {a d:Int} (ha:0<=a) (hn:a < p.length) (hd:im d) {k:Nat} (hk:k < G1 p.length a d):0<=L0 p a d k/\L0 p a d k<=255:=by
 have:=fo ha hn hd hk
 exact hp _ (by omega)
theorem R2 {p:List Int} (hp:jY p) (hl:p.length<=64) {thr a d:Int} (ha:0<=a) (hn:a < p.length) (hd:im d) (t1:1<=thr) (t2:thr<=255) {k:Nat} (h:oQ p thr a d=some k) :
  -17000<=(J1 p thr a d k).1/\(J1 p thr a d k).1<=17000/\0 < (J1 p thr a d k).2/\(J1 p thr a d k).2<=255:=by
 obtain ⟨h1,h2,h3⟩:=G2.1 h
 cases k with
 | zero=>simp only [J1];omega
 | succ k =>
  have b1:=fq hp ha hn hd h1
  have b2:=fq hp ha hn hd (k:=k) (by omega)
  have b3:=fo ha hn hd (k:=k) (by omega)
  have b4:=h3 k (by omega)
  simp only [J1]
  generalize L0 p a d (k + 1)=u at *
  generalize L0 p a d k=v at *
  generalize a + d * (k:Int)=w at *
  have m1:w * (u - v)<=64 * (u - v):=Int.mul_le_mul_of_nonneg_right (by omega) (by omega)
  have m2:0<=w * (u - v):=Int.mul_nonneg (by omega) (by omega)
  rcases hd with rfl|rfl<;>omega
theorem my {p:List Int} (hp:jY p) (hl:p.length<=64) {thr a d:Int} (ha:0<=a) (hn:a < p.length) (hd:im d) (t1:1<=thr) (t2:thr<=255) {k:Nat} (h:oQ p thr a d=some k) :
  k7 (C8 p thr a d k)=true/\(F6 (J1 p thr a d k).1 (J1 p thr a d k).2).2=0/\qv (C8 p thr a d k)=(a:Rat) + (d:Rat) * Y1 (L0 p a d) thr k:=by
 obtain ⟨s1,s2,s3,s4⟩:=R2 hp hl ha hn hd t1 t2 h
 obtain ⟨h1,h2,h3⟩:=G2.1 h
 obtain ⟨v1,v2,v3⟩:=aa (n:=(J1 p thr a d k).1) (d:=(J1 p thr a d k).2) (by omega) (by omega) s3 (by omega)
 refine ⟨v1,v2,?_⟩
 rw [<- (Y2 h2 h3).2]
 exact v3
theorem yp {p q:List Int} (Jl:p.length=q.length) (hle:∀ i,p.getD i 0<=q.getD i 0) {thr a d:Int} {k:Nat} (h:oQ p thr a d=some k) :
  ∃ j,oQ q thr a d=some j/\j<=k/\Y1 (L0 q a d) thr j<=Y1 (L0 p a d) thr k:=by
 obtain ⟨h1,h2,h3⟩:=G2.1 h
 have hc:∀ i,L0 p a d i<=L0 q a d i:=fun i=>hle _
 cases hq:oQ q thr a d with
 | none =>
  have:=fj.1 hq k (by rw [<- Jl];exact h1)
  have:=hc k
  omega
 | some j =>
  obtain ⟨j1,j2,j3⟩:=G2.1 hq
  exact ⟨j,rfl,sC (fun i _=>hc i) h2 h3 j2 j3⟩
def S7 (v:Int):Int:=if v < 0 then 0 else if 255 < v then 255 else v
def C6 (p:List Int) (b:Int):List Int:=p.map fun v=>S7 (v + b)
theorem y8 (p:List Int) (b:Int):(C6 p b).length=p.length:=by simp [C6]
theorem gv (p:List Int) (b:Int) (i:Nat):(C6 p b).getD i 0=if i < p.length then S7 (p.getD i 0 + b) else 0:=by
 by_cases h:i < p.length<;>simp [C6,List.getD,h]
theorem od (v:Int):0<=S7 v/\S7 v<=255:=by unfold S7;split<;>(try split)<;>omega
theorem sD {v w:Int} (h:v<=w):S7 v<=S7 w:=by unfold S7;split<;>split<;>(try split)<;>(try split)<;>omega
theorem P5 (p:List Int) (b:Int):jY (C6 p b):=by
 intro i hi
 rw [y8] at hi
 rw [gv,if_pos hi]
 exact od _
theorem vn (p:List Int) {b c:Int} (h:b<=c) (i:Nat):(C6 p b).getD i 0<=(C6 p c).getD i 0:=by
 rw [gv,gv]
 split
 ·exact sD (by omega)
 ·exact Int.le_refl _
theorem yq {p:List Int} {thr:Int} (hl:0 < p.length):oQ p thr 0 1=none↔oQ p thr ((p.length:Int) - 1) (-1)=none:=by
 rw [fj,fj]
 constructor
 ·intro h j hj
  have fI:j < p.length:=by simp [G1] at hj;omega
  have:=h (p.length - 1 - j) (by simp [G1];omega)
  unfold L0 at this ⊢
  rw [show ((p.length:Int) - 1 + -1 * (j:Int)).toNat=p.length - 1 - j by omega]
  rwa [show ((0:Int) + 1 * ((p.length - 1 - j:Nat):Int)).toNat=p.length - 1 - j by omega] at this
 ·intro h j hj
  have fI:j < p.length:=by simp [G1] at hj;omega
  have:=h (p.length - 1 - j) (by simp [G1];omega)
  unfold L0 at this ⊢
  rw [show ((0:Int) + 1 * (j:Int)).toNat=j by omega]
  rwa [show ((p.length:Int) - 1 + -1 * ((p.length - 1 - j:Nat):Int)).toNat=j by omega] at this
theorem mz {x y:Int×Int} {n m e f:Int} (hx:k7 x=true) (hy:k7 y=true) (ex:qv x=(n:Rat) / (e:Rat)) (ey:qv y=(m:Rat) / (f:Rat)) (n1 : -17000<=n) (n2:n<=17000) (m1 : -17000<=m) (m2:m<=17000) (e1:0 < e) (e2:e<=255) (f1:0 < f) (f2:f<=255) :
  k7 (ax x y).1=true/\(ax x y).2=0/\qv (ax x y).1=qv x - qv y:=by
 have h:=cO hx hy
 have hE:=H3 e1
 have hF:=H3 f1
 have p1:n * f<=17000 * f:=Int.mul_le_mul_of_nonneg_right n2 (by omega)
 have p2 : -17000 * f<=n * f:=Int.mul_le_mul_of_nonneg_right n1 (by omega)
 have p3:m * e<=17000 * e:=Int.mul_le_mul_of_nonneg_right m2 (by omega)
 have p4 : -17000 * e<=m * e:=Int.mul_le_mul_of_nonneg_right m1 (by omega)
 have p5:e * f<=255 * f:=Int.mul_le_mul_of_nonneg_right e2 (by omega)
 refine sA h (n:=n * f - m * e) (d:=e * f) ?_ (by omega) (by omega) (Int.mul_pos e1 f1) (by omega)
 rw [ex,ey,Rat.intCast_sub,Rat.intCast_mul,Rat.intCast_mul,Rat.intCast_mul]
 grind
def gx (p:List Int) (thr a j9:Int):Bool:=decide (1<=thr) && decide (thr<=255) && (decide (0<=a) && decide (a<=(p.length:Int) - 1)) && (decide (0<=j9) && decide (j9<=64))
def mA (lo hi:(Int×Int)×Bool) (d:Int):S6×Int:=if lo.2 then (if d < 0 then (lo.1,hi.1) else (hi.1,lo.1),0) else (zS,6)
def N8 (p:List Int) (thr a j9 d:Int):S6×Int:=mA (sB (C6 p (-j9)) thr a d) (sB (C6 p j9) thr a d) d
def tO (p:List Int) (thr:Int):(Int×Int)×Bool:=if (sB p thr 0 1).2 then ((ax (sB p thr ((p.length:Int) - 1) (-1)).1 (sB p thr 0 1).1).1,true) else ((0,0),false)
def DB (lo hi:(Int×Int)×Bool):S6×Int:=if lo.2 then ((lo.1,hi.1),0) else (zS,6)
def lA (p:List Int) (thr j9:Int):S6×Int:=DB (tO (C6 p (-j9)) thr) (tO (C6 p j9) thr)
theorem U6 {p:List Int} {thr a d:Int} {k:Nat} (h:oQ p thr a d=some k):sB p thr a d=(C8 p thr a d k,true):=by unfold sB;rw [h]
theorem jZ {p:List Int} {thr a d:Int} (h:oQ p thr a d=none):sB p thr a d=((0,0),false):=by unfold sB;rw [h]
theorem kd {p:List Int} (hl:p.length<=64) {thr a j9 d:Int} (ha:0<=a) (hn:a < p.length) (hd:im d) (t1:1<=thr) (t2:thr<=255) (n0:0<=j9) :
  (oQ (C6 p (-j9)) thr a d=none/\N8 p thr a j9 d=(zS,6)) ∨
  ∃ k j,oQ (C6 p (-j9)) thr a d=some k/\oQ (C6 p j9) thr a d=some j/\j<=k /\
   k7 (C8 (C6 p (-j9)) thr a d k)=true/\k7 (C8 (C6 p j9) thr a d j)=true /\
   qv (C8 (C6 p (-j9)) thr a d k)=(a:Rat) + (d:Rat) * Y1 (L0 (C6 p (-j9)) a d) thr k /\
   qv (C8 (C6 p j9) thr a d j)=(a:Rat) + (d:Rat) * Y1 (L0 (C6 p j9) a d) thr j /\
   Y1 (L0 (C6 p j9) a d) thr j<=Y1 (L0 (C6 p (-j9)) a d) thr k /\
   N8 p thr a j9 d=(if d < 0 then (C8 (C6 p (-j9)) thr a d k,C8 (C6 p j9) thr a d j) else (C8 (C6 p j9) thr a d j,C8 (C6 p (-j9)) thr a d k),0)/\x9 (N8 p thr a j9 d).1=true:=by
 cases hk:oQ (C6 p (-j9)) thr a d with
 | none=>exact .inl ⟨rfl,by unfold N8 mA;rw [jZ hk];rfl⟩
 | some k =>
  obtain ⟨j,hj,CN,dY⟩:=yp (p:=C6 p (-j9)) (q:=C6 p j9) (by simp [y8]) (vn p (by omega)) hk
  have l1:(a:Int) < (C6 p (-j9)).length:=by rw [y8];exact hn
  have l2:(a:Int) < (C6 p j9).length:=by rw [y8];exact hn
  obtain ⟨v1,_,q1⟩:=my (P5 p _) (by rw [y8];exact hl) ha l1 hd t1 t2 hk
  obtain ⟨v2,_,q2⟩:=my (P5 p _) (by rw [y8];exact hl) ha l2 hd t1 t2 hj
  have e:N8 p thr a j9 d=(if d < 0 then (C8 (C6 p (-j9)) thr a d k,C8 (C6 p j9) thr a d j) else (C8 (C6 p j9) thr a d j,C8 (C6 p (-j9)) thr a d k),0):=by
   unfold N8 mA
   rw [U6 hk,U6 hj]
   rfl
  refine .inr ⟨k,j,rfl,hj,CN,v1,v2,q1,q2,dY,e,?_⟩
  rw [e,Y0]
  rcases hd with rfl|rfl
  ·refine ⟨v2,v1,?_⟩
   simp only [show ¬ ((1:Int) < 0) by decide,if_false]
   rw [q1,q2]
   have:((1:Int):Rat)=1:=rfl
   rw [this]
   grind
  ·refine ⟨v1,v2,?_⟩
   simp only [show ((-1:Int) < 0) by decide,if_true]
   rw [q1,q2]
   have:((-1:Int):Rat) = -1:=rfl
   rw [this]
   grind
theorem tP {p:List Int} (ak:0 < p.length) (hl:p.length<=64) {thr j9:Int} (t1:1<=thr) (t2:thr<=255) (n0:0<=j9) :
  (N8 p thr 0 j9 1=(zS,6)/\lA p thr j9=(zS,6)) ∨
  ((N8 p thr 0 j9 1).2=0/\(N8 p thr ((p.length:Int) - 1) j9 (-1)).2=0/\x9 (N8 p thr 0 j9 1).1=true/\x9 (N8 p thr ((p.length:Int) - 1) j9 (-1)).1=true /\
   sy (N8 p thr ((p.length:Int) - 1) j9 (-1)).1 (N8 p thr 0 j9 1).1=lA p thr j9/\(lA p thr j9).2=0/\x9 (lA p thr j9).1=true /\
   qv (lA p thr j9).1.1=qv (N8 p thr ((p.length:Int) - 1) j9 (-1)).1.1 - qv (N8 p thr 0 j9 1).1.2/\qv (lA p thr j9).1.2=qv (N8 p thr ((p.length:Int) - 1) j9 (-1)).1.2 - qv (N8 p thr 0 j9 1).1.1):=by
 have hb:=yq (p:=C6 p (-j9)) (thr:=thr) (by rw [y8];exact ak)
 rw [y8] at hb
 rcases kd (p:=p) hl (thr:=thr) (a:=0) (j9:=j9) (d:=1) (by omega) (by omega) (.inl rfl) t1 t2 n0 with ⟨h1,e1⟩|⟨k,j,hk,hj,CN,v1,v2,q1,q2,dY,e1,s1⟩
 ·left
  refine ⟨e1,?_⟩
  unfold lA DB tO
  rw [jZ h1]
  rfl
 ·right
  rcases kd (p:=p) hl (thr:=thr) (a:=(p.length:Int) - 1) (j9:=j9) (d := -1) (by omega) (by omega) (.inr rfl) t1 t2 n0 with ⟨h2,e2⟩|⟨k',j',fJ,fI,LK,JT,JU,JV,JW,IK,e2,s2⟩
  ·rw [<- hb,hk] at h2;cases h2
  have f1:N8 p thr 0 j9 1=((C8 (C6 p j9) thr 0 1 j,C8 (C6 p (-j9)) thr 0 1 k),0):=by rw [e1,if_neg (by decide)]
  have f2:N8 p thr ((p.length:Int) - 1) j9 (-1)=((C8 (C6 p (-j9)) thr ((p.length:Int) - 1) (-1) k',C8 (C6 p j9) thr ((p.length:Int) - 1) (-1) j'),0):=by rw [e2,if_pos (by decide)]
  have hw:lA p thr j9=(((ax (C8 (C6 p (-j9)) thr ((p.length:Int) - 1) (-1) k') (C8 (C6 p (-j9)) thr 0 1 k)).1,(ax (C8 (C6 p j9) thr ((p.length:Int) - 1) (-1) j') (C8 (C6 p j9) thr 0 1 j)).1),0):=by
   unfold lA DB tO
   rw [y8,y8,U6 hk,U6 hj,U6 fJ,U6 fI]
   rfl
  have nl:((C6 p (-j9)).length:Int)<=64:=by rw [y8];omega
  have nu:((C6 p j9).length:Int)<=64:=by rw [y8];omega
  have z1:=R2 (P5 p (-j9)) (by omega) (a:=0) (d:=1) (by omega) (by rw [y8];omega) (.inl rfl) t1 t2 hk
  have z2:=R2 (P5 p j9) (by omega) (a:=0) (d:=1) (by omega) (by rw [y8];omega) (.inl rfl) t1 t2 hj
  have z3:=R2 (P5 p (-j9)) (by omega) (a:=(p.length:Int) - 1) (d := -1) (by omega) (by rw [y8];omega) (.inr rfl) t1 t2 fJ
  have z4:=R2 (P5 p j9) (by omega) (a:=(p.length:Int) - 1) (d := -1) (by omega) (by rw [y8];omega) (.inr rfl) t1 t2 fI
  have y1:=(Y2 (G2.1 hk).2.1 (G2.1 hk).2.2).2
  have y2:=(Y2 (G2.1 hj).2.1 (G2.1 hj).2.2).2
  have y3:=(Y2 (G2.1 fJ).2.1 (G2.1 fJ).2.2).2
  have y4:=(Y2 (G2.1 fI).2.1 (G2.1 fI).2.2).2
  have d1:=mz JT v1 (JV.trans y3.symm) (q1.trans y1.symm) z3.1 z3.2.1 z1.1 z1.2.1 z3.2.2.1 z3.2.2.2 z1.2.2.1 z1.2.2.2
  have d2:=mz JU v2 (JW.trans y4.symm) (q2.trans y2.symm) z4.1 z4.2.1 z2.1 z2.2.1 z4.2.2.1 z4.2.2.2 z2.2.2.1 z2.2.2.2
  rw [f1] at s1 ⊢
  rw [f2] at s2 ⊢
  clear f1 f2 e1 e2 y1 y2 y3 y4 z1 z2 z3 z4 q1 q2 JV JW dY IK hk hj fJ fI hb
  generalize C8 (C6 p (-j9)) thr ((p.length:Int) - 1) (-1) k'=A at *
  generalize C8 (C6 p j9) thr ((p.length:Int) - 1) (-1) j'=B at *
  generalize C8 (C6 p (-j9)) thr 0 1 k=C at *
  generalize C8 (C6 p j9) thr 0 1 j=D at *
  have r1:=(Y0.1 s1).2.2
  have r2:=(Y0.1 s2).2.2
  simp only [] at r1 r2
  have hle:qv A - qv C<=qv B - qv D:=by grind
  have he:=yj (op:=ax) (p:=(A,C)) (q:=(B,D)) (cO JT v1) (cO JU v2) hle
  rw [if_pos ⟨d1.2.1,d2.2.1⟩] at he
  have Ai:sy (A,B) (D,C)=(((ax A C).1,(ax B D).1),0):=by
   unfold sy
   rw [s1,s2]
   exact he
  refine ⟨rfl,rfl,s1,s2,by rw [Ai,hw],by rw [hw],?_,by rw [hw];exact d1.2.2,by rw [hw];exact d2.2.2⟩
  rw [hw,Y0]
  refine ⟨d1.1,d2.1,?_⟩
  show qv (ax A C).1<=qv (ax B D).1
  rw [d1.2.2,d2.2.2]
  exact hle

end Go.Proofs.Tryz.My
