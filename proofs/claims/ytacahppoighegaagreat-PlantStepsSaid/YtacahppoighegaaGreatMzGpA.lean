/- Helper lemmas. -/
import Derived.Test.YtacahppoighegaaGreatMzExB
set_option linter.unusedVariables false
set_option linter.unusedSimpArgs false
set_option maxRecDepth 100000
set_option maxHeartbeats 0
namespace Go.Proofs.Tryz.My
open Go Go.Ev
theorem fI{n d:Int}(h1 : -4611686018427387903<=n)(h2:n<=4611686018427387903)(h3:0<d)(h4:d<=4611686018427387903):o7 (G9 n d).1=true/\(G9 n d).2=0/\qv (G9 n d).1=(n:Rat) / (d:Rat):=by
 rcases bS (n:=n) (d:=d) va5 with h|⟨h,h0⟩
 ·exact h
 ·exfalso;have hg:0<Nat.gcd n.natAbs d.natAbs:=Nat.gcd_pos_of_pos_right _ va5;rw[aF h3]at h;unfold X7 at h;have k1:n.natAbs / Nat.gcd n.natAbs d.natAbs<=4611686018427387903:=Nat.le_trans (Nat.div_le_self _ _) va5;have k2:d.natAbs / Nat.gcd n.natAbs d.natAbs<=4611686018427387903:=Nat.le_trans (Nat.div_le_self _ _) va5;simp[k1,k2]at h
theorem ua{n d:Int}{x:Rat}{r:(Int×Int)×Int}(h:iY x r)(hx:x=(n:Rat) / (d:Rat))(h1 : -4611686018427387903<=n)(h2:n<=4611686018427387903)(h3:0<d)(h4:d<=4611686018427387903):o7 r.1=true/\r.2=0/\qv r.1=x:=by
 have h5:=fI h1 h2 h3 h4;have h6:=bS (n:=n) (d:=d) va5;rw[<- hx]at h6 h5;rw[h.unique h6];exact h5
theorem pM{n:Int}(h1 : -4611686018427387903<=n)(h2:n<=4611686018427387903):o7 (n,1)=true:=by
 rw[A7];simp only[];refine⟨va5,va5,h1,h2,?_⟩;show Nat.gcd n.natAbs 1=1
 exact Nat.gcd_one_right _
theorem Nf(n:Int):qv (n,1)=n:=by
 unfold qv;simp only[Rat.intCast_one]
 grind
theorem Jh{n:Int}(h1 : -4611686018427387903<=n)(h2:n<=4611686018427387903):G9 n 1=((n,1),0):=by
 have h:=bS (n:=n) (d:=1) va5;have e:(n:Rat) / ((1:Int):Rat)=n:=by simp only[Rat.intCast_one];grind
 rw[e]at h;exact h.unique (.inl ⟨pM h1 h2,rfl,Nf n⟩)
theorem Ng{w N s:Int}(hw1 : -4611686018427387903<=w)(hw2:w<=4611686018427387903)(h1 : -4611686018427387903<=N)(h2:N<=4611686018427387903)(h3:0<s)(h4:s<=4611686018427387903):iW (w,1) (G9 N s).1=G9 (w*s+N) s:=by
 obtain⟨v,_,q⟩:=fI h1 h2 h3 h4;have h:=xC (pM hw1 hw2) v;rw[Nf,q]at h;have k:=bS (n:=w*s+N) (d:=s) va5;have e:((w*s+N:Int):Rat) / (s:Rat)=(w:Rat)+(N:Rat) / (s:Rat):=by
  have:=K5 h3;rw[Rat.intCast_add,Rat.intCast_mul]
  grind
 rw[e]at k;exact h.unique k
def H4(n:Nat)(a d:Int):Nat:=if d<0 then(a+1).toNat else((n:Int)-a).toNat
def M7(p:List Int)(a d:Int)(k:Nat):Int:=p.getD (a+d*k).toNat 0
def UM(p:List Int)(thr a d:Int)(k:Nat):Bool:=decide (thr<=M7 p a d k)
def ub(p:List Int)(thr a d:Int):Option Nat:=(List.range (H4 p.length a d)).find? (UM p thr a d)
theorem G4{p:List Int}{thr a d:Int}{k:Nat}:ub p thr a d=some k↔k<H4 p.length a d/\thr<=M7 p a d k/\∀ j,j<k->M7 p a d j<thr:=by
 unfold ub;rw[List.find?_range_eq_some];simp only[UM,zA3,List.mem_range,Bool.not_eq_true',decide_eq_false_iff_not,Int.not_le]
 constructor
 ·rintro⟨a,b,c⟩;exact⟨b,a,c⟩
 ·rintro⟨a,b,c⟩;exact⟨b,a,c⟩
theorem eJ{p:List Int}{thr a d:Int}:ub p thr a d=none↔∀ j,j<H4 p.length a d->M7 p a d j<thr:=by
 unfold ub;rw[List.find?_range_eq_none];simp only[UM,Bool.not_eq_true',decide_eq_false_iff_not,Int.not_le]
def R4(p:List Int)(thr a d:Int):Nat->Int×Int
 | 0=>(a,1)
 | k+1=>((a+d*k)*(M7 p a d (k+1)-M7 p a d k)+d*(thr-M7 p a d k),M7 p a d (k+1)-M7 p a d k)
def D5(p:List Int)(thr a d:Int)(k:Nat):Int×Int:=(G9 (R4 p thr a d k).1 (R4 p thr a d k).2).1
def vX(p:List Int)(thr a d:Int):(Int×Int)×Bool :=
 match ub p thr a d with
 | none=>((0,0),false)
 | some k=>(D5 p thr a d k,true)
def cN(c:Nat->Int)(thr:Int):Nat->Rat
 | 0=>0
 | k+1=>(k:Rat)+((thr-c k:Int):Rat) / ((c (k+1)-c k:Int):Rat)
theorem mu(c:Nat->Int)(thr:Int)(k:Nat):cN c thr (k+1)=(k:Rat)+((thr-c k:Int):Rat) / ((c (k+1)-c k:Int):Rat):=rfl
theorem nU{c:Nat->Int}{thr:Int}{k:Nat}(h1:thr<=c (k+1))(h2:c k<thr):(k:Rat)<cN c thr (k+1)/\cN c thr (k+1)<=(k:Rat)+1:=by
 have hd:=K5 (show 0<c (k+1)-c k by omega);have hn:=K5 (show 0<thr-c k by omega);have hle:((thr-c k:Int):Rat)<=((c (k+1)-c k:Int):Rat):=Rat.intCast_le_intCast.2 va5;rw[mu];generalize ((thr-c k:Int):Rat)=N at *
 generalize ((c (k+1)-c k:Int):Rat)=D at *
 have e1:N / D*D=N:=by grind
 have p1:0<N / D:=by
  rw[<- pL hd,e1];grind
 have p2:N / D<=1:=by
  refine Rat.not_lt.1 fun h=>?_
  rw[<- pL hd,e1]at h
  grind
 exact⟨by grind,by grind⟩
theorem Ff{c e:Nat->Int}{thr:Int}{k j:Nat}(hce:∀ i,i<=k->c i<=e i)(hk:thr<=c k)(sI:∀ i,i<k->c i<thr)(hj:thr<=e j)(oW:∀ i,i<j->e i<thr):j<=k/\cN e thr j<=cN c thr k:=by
 have Ub:j<=k:=by
  refine Nat.not_lt.1 fun h=>?_
  have:=oW k h;have:=hce k (Nat.le_refl k);omega
 refine⟨Ub,?_⟩;cases k with
 | zero =>
  obtain rfl:j=0:=by omega
  exact Rat.le_refl
 | succ k =>
  have b1:=nU hk (sI k va5);cases j with
  | zero =>
   show(0:Rat)<=_
   have:(0:Rat)<=(k:Rat):=by exact_mod_cast zB4 k
   grind
  | succ j =>
   have b2:=nU hj (oW j va5);by_cases z8:j<k
   ·have:(j:Rat)+1<=(k:Rat):=by exact_mod_cast z8
    grind
   ·obtain rfl:j=k:=by omega
    have q0:=hce j va5;have q1:=hce (j+1) va5;have r0:=sI j va5;have r1:=oW j va5;rw[mu,mu];have key:((thr-e j:Int):Rat) / ((e (j+1)-e j:Int):Rat)<=((thr-c j:Int):Rat) / ((c (j+1)-c j:Int):Rat):=by
     refine Rat.not_lt.1 fun h=>?_
     rw[tV (K5 va5) (K5 va5),qO]at h;have m1:(thr-e j)*(c (j+1)-thr)<=(thr-c j)*(c (j+1)-thr):=Int.mul_le_mul_of_nonneg_right va5 va5;have m2:(thr-c j)*(c (j+1)-thr)<=(thr-c j)*(e (j+1)-thr):=Int.mul_le_mul_of_nonneg_left va5 va5
     grind
    grind
theorem ay{p:List Int}{thr a d:Int}{k:Nat}(h1:thr<=M7 p a d k)(h2:∀ j,j<k->M7 p a d j<thr) :
  0<(R4 p thr a d k).2/\((R4 p thr a d k).1:Rat) / ((R4 p thr a d k).2:Rat)=(a:Rat)+(d:Rat)*cN (M7 p a d) thr k:=by
 cases k with
 | zero =>
  refine⟨by simp[R4],?_⟩;simp only[R4,cN,Rat.intCast_one]
  grind
 | succ k =>
  have:=h2 k va5;refine⟨by simp only[R4];omega,?_⟩;simp only[R4,cN];have hd:=K5 (show 0<M7 p a d (k+1)-M7 p a d k by omega);rw[Rat.intCast_add,Rat.intCast_mul,Rat.intCast_mul,Rat.intCast_add,Rat.intCast_mul];have e:((k:Int):Rat)=(k:Rat):=rfl;rw[e];generalize ((M7 p a d (k+1)-M7 p a d k:Int):Rat)=D at *
  generalize ((thr-M7 p a d k:Int):Rat)=N at *
  grind
def ke(p:List Int):Prop:=∀ i,i<p.length->0<=p.getD i 0/\p.getD i 0<=255
def lR(d:Int):Prop:=d=1∨d = -1
theorem nV{n:Nat}{a d:Int}(ha:0<=a)(hn:a<n)(hd:lR d){k:Nat}(hk:k<H4 n a d):0<=a+d*k/\a+d*k<n:=by
 unfold H4 at hk;rcases hd with rfl|rfl<;>simp at hk<;>omega
theorem cO{p:List Int}(hp:ke p){a d:Int}(ha:0<=a)(hn:a<p.length)(hd:lR d){k:Nat}(hk:k<H4 p.length a d):0<=M7 p a d k/\M7 p a d k<=255:=by
 have:=nV ha hn hd hk;exact hp _ va5
theorem T8{p:List Int}(hp:ke p)(hl:p.length<=64){thr a d:Int}(ha:0<=a)(hn:a<p.length)(hd:lR d)(t1:1<=thr)(t2:thr<=255){k:Nat}(h:ub p thr a d=some k) :
  -17000<=(R4 p thr a d k).1/\(R4 p thr a d k).1<=17000/\0<(R4 p thr a d k).2/\(R4 p thr a d k).2<=255:=by
 obtain⟨h1,h2,h3⟩:=G4.1 h;cases k with
 | zero=>simp only[R4];omega
 | succ k =>
  have b1:=cO hp ha hn hd h1;have b2:=cO hp ha hn hd (k:=k) va5;have b3:=nV ha hn hd (k:=k) va5;have b4:=h3 k va5;simp only[R4];generalize M7 p a d (k+1)=u at *
  generalize M7 p a d k=v at *
  generalize a+d*(k:Int)=w at *
  have m1:w*(u-v)<=64*(u-v):=Int.mul_le_mul_of_nonneg_right va5 va5;have m2:0<=w*(u-v):=Int.mul_nonneg va5 va5;rcases hd with rfl|rfl<;>omega
theorem kI{p:List Int}(hp:ke p)(hl:p.length<=64){thr a d:Int}(ha:0<=a)(hn:a<p.length)(hd:lR d)(t1:1<=thr)(t2:thr<=255){k:Nat}(h:ub p thr a d=some k) :
  o7 (D5 p thr a d k)=true/\(G9 (R4 p thr a d k).1 (R4 p thr a d k).2).2=0/\qv (D5 p thr a d k)=(a:Rat)+(d:Rat)*cN (M7 p a d) thr k:=by
 obtain⟨s1,s2,s3,s4⟩:=T8 hp hl ha hn hd t1 t2 h;obtain⟨h1,h2,h3⟩:=G4.1 h;obtain⟨v1,v2,v3⟩:=fI (n:=(R4 p thr a d k).1) (d:=(R4 p thr a d k).2) va5 va5 s3 va5;refine⟨v1,v2,?_⟩;rw[<- (ay h2 h3).2];exact v3
theorem Nh{p q:List Int}(hpq:p.length=q.length)(hle:∀ i,p.getD i 0<=q.getD i 0){thr a d:Int}{k:Nat}(h:ub p thr a d=some k) :
  ∃ j,ub q thr a d=some j/\j<=k/\cN (M7 q a d) thr j<=cN (M7 p a d) thr k:=by
 obtain⟨h1,h2,h3⟩:=G4.1 h;have hc:∀ i,M7 p a d i<=M7 q a d i:=fun i=>hle _
 cases hq:ub q thr a d with
 | none =>
  have:=eJ.1 hq k (by rw[<- hpq];exact h1);have:=hc k;omega
 | some j =>
  obtain⟨j1,j2,j3⟩:=G4.1 hq;exact⟨j,rfl,Ff (fun i _=>hc i) h2 h3 j2 j3⟩
def T2(v:Int):Int:=if v<0 then 0 else if 255<v then 255 else v
def D8(p:List Int)(b:Int):List Int:=p.map fun v=>T2 (v+b)
theorem x9(p:List Int)(b:Int):(D8 p b).length=p.length:=by simp[D8]
theorem kJ(p:List Int)(b:Int)(i:Nat):(D8 p b).getD i 0=if i<p.length then T2 (p.getD i 0+b)else 0:=by
 by_cases h:i<p.length<;>simp[D8,List.getD,h]
theorem zN(v:Int):0<=T2 v/\T2 v<=255:=by unfold T2;split<;>(try split)<;>omega
theorem Fg{v w:Int}(h:v<=w):T2 v<=T2 w:=by unfold T2;split<;>split<;>(try split)<;>(try split)<;>omega
theorem N8(p:List Int)(b:Int):ke (D8 p b):=by
 intro i hi;rw[x9]at hi;rw[kJ,if_pos hi];exact zN _
theorem Ji(p:List Int){b c:Int}(h:b<=c)(i:Nat):(D8 p b).getD i 0<=(D8 p c).getD i 0:=by
 rw[kJ,kJ];split
 ·exact Fg va5
 ·exact Int.le_refl _
theorem Cz{p:List Int}{thr:Int}(hl:0<p.length):ub p thr 0 1=none↔ub p thr ((p.length:Int)-1) (-1)=none:=by
 rw[eJ,eJ]
 constructor
 ·intro h j hj;have oW:j<p.length:=by simp[H4]at hj;omega
  have:=h (p.length-1-j) (by simp[H4];omega);unfold M7 at this ⊢;rw[show((p.length:Int)-1 + -1*(j:Int)).toNat=p.length-1-j by omega];rwa[show((0:Int)+1*((p.length-1-j:Nat):Int)).toNat=p.length-1-j by omega]at this
 ·intro h j hj;have oW:j<p.length:=by simp[H4]at hj;omega
  have:=h (p.length-1-j) (by simp[H4];omega);unfold M7 at this ⊢;rw[show((0:Int)+1*(j:Int)).toNat=j by omega];rwa[show((p.length:Int)-1 + -1*((p.length-1-j:Nat):Int)).toNat=j by omega]at this
theorem xE{x y:Int×Int}{n m e f:Int}(hx:o7 x=true)(hy:o7 y=true)(ex:qv x=(n:Rat) / (e:Rat))(ey:qv y=(m:Rat) / (f:Rat))(n1 : -17000<=n)(n2:n<=17000)(m1 : -17000<=m)(m2:m<=17000)(e1:0<e)(e2:e<=255)(f1:0<f)(f2:f<=255) :
  o7 (dK x y).1=true/\(dK x y).2=0/\qv (dK x y).1=qv x-qv y:=by
 have h:=kH hx hy;have hE:=K5 e1;have hF:=K5 f1;have p1:n*f<=17000*f:=Int.mul_le_mul_of_nonneg_right n2 va5;have p2 : -17000*f<=n*f:=Int.mul_le_mul_of_nonneg_right n1 va5;have p3:m*e<=17000*e:=Int.mul_le_mul_of_nonneg_right m2 va5;have p4 : -17000*e<=m*e:=Int.mul_le_mul_of_nonneg_right m1 va5;have p5:e*f<=255*f:=Int.mul_le_mul_of_nonneg_right e2 va5;refine ua h (n:=n*f-m*e) (d:=e*f) ?_ va5 va5 (Int.mul_pos e1 f1) va5;rw[ex,ey,Rat.intCast_sub,Rat.intCast_mul,Rat.intCast_mul,Rat.intCast_mul]
 grind
def eN(p:List Int)(thr a a8:Int):Bool:=decide (1<=thr) && decide (thr<=255) && (decide (0<=a) && decide (a<=(p.length:Int)-1)) && (decide (0<=a8) && decide (a8<=64))
def xF(lo hi:(Int×Int)×Bool)(d:Int):V3×Int:=if lo.2 then(if d<0 then(lo.1,hi.1)else(hi.1,lo.1),0)else(zS,6)
def Y7(p:List Int)(thr a a8 d:Int):V3×Int:=xF (vX (D8 p (-a8)) thr a d) (vX (D8 p a8) thr a d) d
def cP(p:List Int)(thr:Int):(Int×Int)×Bool:=if (vX p thr 0 1).2 then((dK (vX p thr ((p.length:Int)-1) (-1)).1 (vX p thr 0 1).1).1,true)else((0,0),false)
def Jj(lo hi:(Int×Int)×Bool):V3×Int:=if lo.2 then((lo.1,hi.1),0)else(zS,6)
def uc(p:List Int)(thr a8:Int):V3×Int:=Jj (cP (D8 p (-a8)) thr) (cP (D8 p a8) thr)
theorem M1{p:List Int}{thr a d:Int}{k:Nat}(h:ub p thr a d=some k):vX p thr a d=(D5 p thr a d k,true):=by unfold vX;rw[h]
theorem cQ{p:List Int}{thr a d:Int}(h:ub p thr a d=none):vX p thr a d=((0,0),false):=by unfold vX;rw[h]
theorem mw{p:List Int}(hl:p.length<=64){thr a a8 d:Int}(ha:0<=a)(hn:a<p.length)(hd:lR d)(t1:1<=thr)(t2:thr<=255)(n0:0<=a8) :
  (ub (D8 p (-a8)) thr a d=none/\Y7 p thr a a8 d=(zS,6)) ∨
  ∃ k j,ub (D8 p (-a8)) thr a d=some k/\ub (D8 p a8) thr a d=some j/\j<=k /\
   o7 (D5 (D8 p (-a8)) thr a d k)=true/\o7 (D5 (D8 p a8) thr a d j)=true /\
   qv (D5 (D8 p (-a8)) thr a d k)=(a:Rat)+(d:Rat)*cN (M7 (D8 p (-a8)) a d) thr k /\
   qv (D5 (D8 p a8) thr a d j)=(a:Rat)+(d:Rat)*cN (M7 (D8 p a8) a d) thr j /\
   cN (M7 (D8 p a8) a d) thr j<=cN (M7 (D8 p (-a8)) a d) thr k /\
   Y7 p thr a a8 d=(if d<0 then(D5 (D8 p (-a8)) thr a d k,D5 (D8 p a8) thr a d j)else(D5 (D8 p a8) thr a d j,D5 (D8 p (-a8)) thr a d k),0)/\y9 (Y7 p thr a a8 d).1=true:=by
 cases hk:ub (D8 p (-a8)) thr a d with
 | none=>exact .inl ⟨rfl,by unfold Y7 xF;rw[cQ hk];rfl⟩
 | some k =>
  obtain⟨j,hj,Ub,rP⟩:=Nh (p:=D8 p (-a8)) (q:=D8 p a8) (by simp[x9]) (Ji p va5) hk;have l1:(a:Int)<(D8 p (-a8)).length:=by rw[x9];exact hn
  have l2:(a:Int)<(D8 p a8).length:=by rw[x9];exact hn
  obtain⟨v1,_,q1⟩:=kI (N8 p _) (by rw[x9];exact hl) ha l1 hd t1 t2 hk;obtain⟨v2,_,q2⟩:=kI (N8 p _) (by rw[x9];exact hl) ha l2 hd t1 t2 hj;have e:Y7 p thr a a8 d=(if d<0 then(D5 (D8 p (-a8)) thr a d k,D5 (D8 p a8) thr a d j)else(D5 (D8 p a8) thr a d j,D5 (D8 p (-a8)) thr a d k),0):=by
   unfold Y7 xF;rw[M1 hk,M1 hj];rfl
  refine .inr ⟨k,j,rfl,hj,Ub,v1,v2,q1,q2,rP,e,?_⟩;rw[e,Z5];rcases hd with rfl|rfl
  ·refine⟨v2,v1,?_⟩;simp only[show ¬ ((1:Int)<0)by decide,if_false];rw[q1,q2];have:((1:Int):Rat)=1:=rfl;rw[this]
   grind
  ·refine⟨v1,v2,?_⟩;simp only[show((-1:Int)<0)by decide,if_true];rw[q1,q2];have:((-1:Int):Rat) = -1:=rfl;rw[this]
   grind
theorem zO{p:List Int}(ao:0<p.length)(hl:p.length<=64){thr a8:Int}(t1:1<=thr)(t2:thr<=255)(n0:0<=a8) :
  (Y7 p thr 0 a8 1=(zS,6)/\uc p thr a8=(zS,6)) ∨
  ((Y7 p thr 0 a8 1).2=0/\(Y7 p thr ((p.length:Int)-1) a8 (-1)).2=0/\y9 (Y7 p thr 0 a8 1).1=true/\y9 (Y7 p thr ((p.length:Int)-1) a8 (-1)).1=true /\
   Fe (Y7 p thr ((p.length:Int)-1) a8 (-1)).1 (Y7 p thr 0 a8 1).1=uc p thr a8/\(uc p thr a8).2=0/\y9 (uc p thr a8).1=true /\
   qv (uc p thr a8).1.1=qv (Y7 p thr ((p.length:Int)-1) a8 (-1)).1.1-qv (Y7 p thr 0 a8 1).1.2/\qv (uc p thr a8).1.2=qv (Y7 p thr ((p.length:Int)-1) a8 (-1)).1.2-qv (Y7 p thr 0 a8 1).1.1):=by
 have hb:=Cz (p:=D8 p (-a8)) (thr:=thr) (by rw[x9];exact ao);rw[x9]at hb;rcases mw (p:=p) hl (thr:=thr) (a:=0) (a8:=a8) (d:=1) va5 va5 (.inl rfl) t1 t2 n0 with ⟨h1,e1⟩|⟨k,j,hk,hj,Ub,v1,v2,q1,q2,rP,e1,s1⟩
 ·left
  refine⟨e1,?_⟩;unfold uc Jj cP;rw[cQ h1];rfl
 ·right
  rcases mw (p:=p) hl (thr:=thr) (a:=(p.length:Int)-1) (a8:=a8) (d := -1) va5 va5 (.inr rfl) t1 t2 n0 with ⟨h2,e2⟩|⟨k',j',sI,oW,a4d,v1',v2',q1',q2',a1f,e2,s2⟩
  ·rw[<- hb,hk]at h2;cases h2
  have f1:Y7 p thr 0 a8 1=((D5 (D8 p a8) thr 0 1 j,D5 (D8 p (-a8)) thr 0 1 k),0):=by rw[e1,if_neg va8]
  have f2:Y7 p thr ((p.length:Int)-1) a8 (-1)=((D5 (D8 p (-a8)) thr ((p.length:Int)-1) (-1) k',D5 (D8 p a8) thr ((p.length:Int)-1) (-1) j'),0):=by rw[e2,if_pos va8]
  have hw:uc p thr a8=(((dK (D5 (D8 p (-a8)) thr ((p.length:Int)-1) (-1) k') (D5 (D8 p (-a8)) thr 0 1 k)).1,(dK (D5 (D8 p a8) thr ((p.length:Int)-1) (-1) j') (D5 (D8 p a8) thr 0 1 j)).1),0):=by
   unfold uc Jj cP;rw[x9,x9,M1 hk,M1 hj,M1 sI,M1 oW];rfl
  have nl:((D8 p (-a8)).length:Int)<=64:=by rw[x9];omega
  have nu:((D8 p a8).length:Int)<=64:=by rw[x9];omega
  have z1:=T8 (N8 p (-a8)) va5 (a:=0) (d:=1) va5 (by rw[x9];omega) (.inl rfl) t1 t2 hk;have z2:=T8 (N8 p a8) va5 (a:=0) (d:=1) va5 (by rw[x9];omega) (.inl rfl) t1 t2 hj;have z3:=T8 (N8 p (-a8)) va5 (a:=(p.length:Int)-1) (d := -1) va5 (by rw[x9];omega) (.inr rfl) t1 t2 sI;have z4:=T8 (N8 p a8) va5 (a:=(p.length:Int)-1) (d := -1) va5 (by rw[x9];omega) (.inr rfl) t1 t2 oW;have y1:=(ay (G4.1 hk).2.1 (G4.1 hk).2.2).2;have y2:=(ay (G4.1 hj).2.1 (G4.1 hj).2.2).2;have y3:=(ay (G4.1 sI).2.1 (G4.1 sI).2.2).2;have y4:=(ay (G4.1 oW).2.1 (G4.1 oW).2.2).2;have d1:=xE v1' v1 (q1'.trans y3.symm) (q1.trans y1.symm) z3.1 z3.2.1 z1.1 z1.2.1 z3.2.2.1 z3.2.2.2 z1.2.2.1 z1.2.2.2;have d2:=xE v2' v2 (q2'.trans y4.symm) (q2.trans y2.symm) z4.1 z4.2.1 z2.1 z2.2.1 z4.2.2.1 z4.2.2.2 z2.2.2.1 z2.2.2.2;rw[f1]at s1 ⊢;rw[f2]at s2 ⊢;clear f1 f2 e1 e2 y1 y2 y3 y4 z1 z2 z3 z4 q1 q2 q1' q2' rP a1f hk hj sI oW hb;generalize D5 (D8 p (-a8)) thr ((p.length:Int)-1) (-1) k'=A at *
  generalize D5 (D8 p a8) thr ((p.length:Int)-1) (-1) j'=B at *
  generalize D5 (D8 p (-a8)) thr 0 1 k=C at *
  generalize D5 (D8 p a8) thr 0 1 j=D at *
  have r1:=(Z5.1 s1).2.2;have r2:=(Z5.1 s2).2.2;simp only[]at r1 r2;have hle:qv A-qv C<=qv B-qv D:=by grind
  have he:=Nc (op:=dK) (p:=(A,C)) (q:=(B,D)) (kH v1' v1) (kH v2' v2) hle;rw[if_pos ⟨d1.2.1,d2.2.1⟩]at he;have PZ:Fe (A,B) (D,C)=(((dK A C).1,(dK B D).1),0):=by
   unfold Fe;rw[s1,s2];exact he
  refine⟨rfl,rfl,s1,s2,by rw[PZ,hw],by rw[hw],?_,by rw[hw];exact d1.2.2,by rw[hw];exact d2.2.2⟩;rw[hw,Z5];refine⟨d1.1,d2.1,?_⟩;show qv (dK A C).1<=qv (dK B D).1
  rw[d1.2.2,d2.2.2];exact hle
def qP(op:Int×Int->Int×Int->(Int×Int)×Int)(a b:Int×Int):(Int×Int)×Int:=if o7 a && o7 b then op a b else((0,0),8)
theorem QS(D:FuncId)(op:Int×Int->Int×Int->(Int×Int)×Int)(hD:∀ a b,o7 a=true->o7 b=true->va6 D [fr a,fr b] (.tup [fr (op a b).1,i64 (op a b).2]))(a b:Int×Int) :
  va6 280 [fr a,fr b,.fn (.func D) [] []] (.tup [fr (qP op a b).1,i64 (qP op a b).2]):=by
 have c:=xu a b;have h:qP op a b=if o7 a && o7 b then op a b else((0,0),8):=rfl
 rw[h];cases ha:o7 a
 ·rw[ha]at c;refine vb4 Tryz.func280 ?_;refine vc6 ?_;intros;all_goals simp
 cases hb:o7 b
 ·rw[ha,hb]at c;refine vb4 Tryz.func280 ?_;refine vc6 ?_;intros;all_goals simp
 rw[ha,hb]at c;have c2:=hD a b ha hb;generalize op a b=r at *
 refine vb4 Tryz.func280 ?_;refine vc6 ?_;intros;all_goals simp
theorem UN(a b:Int×Int):va6 272 [fr a,fr b] (.tup [fr (qP iW a b).1,i64 (qP iW a b).2]):=by
 have c:=QS 260 iW Na a b;generalize qP iW a b=r at *
 refine pF Tryz.func272 ?_;conv=>whnf
 try exact va1
def ud(a b:V3):V3×Int:=if y9 a && y9 b then(if y9 (S7 a.1 b.1,U7 a.2 b.2)then((S7 a.1 b.1,U7 a.2 b.2),0)else(zS,6))else(zS,8)
theorem QT(a b:V3):va6 199 [sp a,sp b] (.tup [sp (ud a b).1,i64 (ud a b).2]):=by
 have c:=pE a b;have h:ud a b=if y9 a && y9 b then(if y9 (S7 a.1 b.1,U7 a.2 b.2)then((S7 a.1 b.1,U7 a.2 b.2),0)else(zS,6))else(zS,8):=rfl
 rw[h];cases ha:y9 a
 ·rw[ha]at c;refine vb4 Tryz.func199 ?_;refine vc6 ?_;intros;all_goals simp
 cases hb:y9 b
 ·rw[ha,hb]at c;refine vb4 Tryz.func199 ?_;refine vc6 ?_;intros;all_goals simp
 rw[ha,hb]at c;obtain⟨a1,a2,_⟩:=L3.1 ha;obtain⟨b1,b2,_⟩:=L3.1 hb;have c2:=tX a.1 b.1 a1 b1;have c3:=xD a.2 b.2 a2 b2;have c4:=xw (S7 a.1 b.1,U7 a.2 b.2);generalize S7 a.1 b.1=x at *
 generalize U7 a.2 b.2=y at *
 cases hs:y9 (x,y)
 ·rw[hs]at c4;refine vb4 Tryz.func199 ?_;refine vc6 ?_;intros;all_goals simp
 ·rw[hs]at c4;refine vb4 Tryz.func199 ?_;refine vc6 ?_;intros;all_goals simp
theorem zP{a b:V3}(h:(W7 a b).2=0):y9 a=true/\y9 b=true/\y9 (W7 a b).1=true:=by
 unfold W7 at h ⊢;cases ha:y9 a<;>cases hb:y9 b<;>rw[ha,hb]at h<;>simp at h
 exact⟨rfl,rfl,(Nd gV _ (tZ ha hb) (by simp[tY]) h).1⟩

end Go.Proofs.Tryz.My
