/- Helper lemmas. -/
import Derived.Test.YtdpnpdjnaimgaaaGreatMzExB
set_option linter.unusedVariables false
set_option linter.unusedSimpArgs false
set_option maxRecDepth 100000
set_option maxHeartbeats 0
namespace Go.Proofs.Tryz.My
open Go Go.Ev
theorem dW{n d:Int}(h1 : -4611686018427387903<=n)(h2:n<=4611686018427387903)(h3:0<d)(h4:d<=4611686018427387903):r7 (M9 n d).1=true/\(M9 n d).2=0/\qv (M9 n d).1=(n:Rat) / (d:Rat):=by
 rcases bn (n:=n) (d:=d) va5 with h|⟨h,h0⟩
 ·exact h
 ·exfalso;have hg:0<Nat.gcd n.natAbs d.natAbs:=Nat.gcd_pos_of_pos_right _ va5;rw[bm h3]at h;unfold ab at h;have k1:n.natAbs / Nat.gcd n.natAbs d.natAbs<=4611686018427387903:=Nat.le_trans (Nat.div_le_self _ _) va5;have k2:d.natAbs / Nat.gcd n.natAbs d.natAbs<=4611686018427387903:=Nat.le_trans (Nat.div_le_self _ _) va5;simp[k1,k2]at h
theorem rJ{n d:Int}{x:Rat}{r:(Int×Int)×Int}(h:jN x r)(hx:x=(n:Rat) / (d:Rat))(h1 : -4611686018427387903<=n)(h2:n<=4611686018427387903)(h3:0<d)(h4:d<=4611686018427387903):r7 r.1=true/\r.2=0/\qv r.1=x:=by
 have h5:=dW h1 h2 h3 h4;have h6:=bn (n:=n) (d:=d) va5;rw[<- hx]at h6 h5;rw[h.unique h6];exact h5
theorem nF{n:Int}(h1 : -4611686018427387903<=n)(h2:n<=4611686018427387903):r7 (n,1)=true:=by
 rw[F6];simp only[];refine⟨va5,va5,h1,h2,?_⟩;show Nat.gcd n.natAbs 1=1
 exact Nat.gcd_one_right _
theorem Kp(n:Int):qv (n,1)=n:=by
 unfold qv;simp only[Rat.intCast_one]
 grind
theorem GH{n:Int}(h1 : -4611686018427387903<=n)(h2:n<=4611686018427387903):M9 n 1=((n,1),0):=by
 have h:=bn (n:=n) (d:=1) va5;have e:(n:Rat) / ((1:Int):Rat)=n:=by simp only[Rat.intCast_one];grind
 rw[e]at h;exact h.unique (.inl ⟨nF h1 h2,rfl,Kp n⟩)
theorem Kq{w N s:Int}(hw1 : -4611686018427387903<=w)(hw2:w<=4611686018427387903)(h1 : -4611686018427387903<=N)(h2:N<=4611686018427387903)(h3:0<s)(h4:s<=4611686018427387903):lZ (w,1) (M9 N s).1=M9 (w*s+N) s:=by
 obtain⟨v,_,q⟩:=dW h1 h2 h3 h4;have h:=uT (nF hw1 hw2) v;rw[Kp,q]at h;have k:=bn (n:=w*s+N) (d:=s) va5;have e:((w*s+N:Int):Rat) / (s:Rat)=(w:Rat)+(N:Rat) / (s:Rat):=by
  have:=J9 h3;rw[Rat.intCast_add,Rat.intCast_mul]
  grind
 rw[e]at k;exact h.unique k
def N5(n:Nat)(a d:Int):Nat:=if d<0 then(a+1).toNat else((n:Int)-a).toNat
def R9(p:List Int)(a d:Int)(k:Nat):Int:=p.getD (a+d*k).toNat 0
def QY(p:List Int)(thr a d:Int)(k:Nat):Bool:=decide (thr<=R9 p a d k)
def tL(p:List Int)(thr a d:Int):Option Nat:=(List.range (N5 p.length a d)).find? (QY p thr a d)
theorem J1{p:List Int}{thr a d:Int}{k:Nat}:tL p thr a d=some k↔k<N5 p.length a d/\thr<=R9 p a d k/\∀ j,j<k->R9 p a d j<thr:=by
 unfold tL;rw[List.find?_range_eq_some];simp only[QY,zA3,List.mem_range,Bool.not_eq_true',decide_eq_false_iff_not,Int.not_le]
 constructor
 ·rintro⟨a,b,c⟩;exact⟨b,a,c⟩
 ·rintro⟨a,b,c⟩;exact⟨b,a,c⟩
theorem mh{p:List Int}{thr a d:Int}:tL p thr a d=none↔∀ j,j<N5 p.length a d->R9 p a d j<thr:=by
 unfold tL;rw[List.find?_range_eq_none];simp only[QY,Bool.not_eq_true',decide_eq_false_iff_not,Int.not_le]
def Q4(p:List Int)(thr a d:Int):Nat->Int×Int
 | 0=>(a,1)
 | k+1=>((a+d*k)*(R9 p a d (k+1)-R9 p a d k)+d*(thr-R9 p a d k),R9 p a d (k+1)-R9 p a d k)
def E7(p:List Int)(thr a d:Int)(k:Nat):Int×Int:=(M9 (Q4 p thr a d k).1 (Q4 p thr a d k).2).1
def Da(p:List Int)(thr a d:Int):(Int×Int)×Bool :=
 match tL p thr a d with
 | none=>((0,0),false)
 | some k=>(E7 p thr a d k,true)
def bT(c:Nat->Int)(thr:Int):Nat->Rat
 | 0=>0
 | k+1=>(k:Rat)+((thr-c k:Int):Rat) / ((c (k+1)-c k:Int):Rat)
theorem kU(c:Nat->Int)(thr:Int)(k:Nat):bT c thr (k+1)=(k:Rat)+((thr-c k:Int):Rat) / ((c (k+1)-c k:Int):Rat):=rfl
theorem mi{c:Nat->Int}{thr:Int}{k:Nat}(h1:thr<=c (k+1))(h2:c k<thr):(k:Rat)<bT c thr (k+1)/\bT c thr (k+1)<=(k:Rat)+1:=by
 have hd:=J9 (show 0<c (k+1)-c k by omega);have hn:=J9 (show 0<thr-c k by omega);have hle:((thr-c k:Int):Rat)<=((c (k+1)-c k:Int):Rat):=Rat.intCast_le_intCast.2 va5;rw[kU];generalize ((thr-c k:Int):Rat)=N at *
 generalize ((c (k+1)-c k:Int):Rat)=D at *
 have e1:N / D*D=N:=by grind
 have p1:0<N / D:=by
  rw[<- nE hd,e1];grind
 have p2:N / D<=1:=by
  refine Rat.not_lt.1 fun h=>?_
  rw[<- nE hd,e1]at h
  grind
 exact⟨by grind,by grind⟩
theorem Db{c e:Nat->Int}{thr:Int}{k j:Nat}(Xo:∀ i,i<=k->c i<=e i)(hk:thr<=c k)(oI:∀ i,i<k->c i<thr)(hj:thr<=e j)(lh:∀ i,i<j->e i<thr):j<=k/\bT e thr j<=bT c thr k:=by
 have Qs:j<=k:=by
  refine Nat.not_lt.1 fun h=>?_
  have:=lh k h;have:=Xo k (Nat.le_refl k);omega
 refine⟨Qs,?_⟩;cases k with
 | zero =>
  obtain rfl:j=0:=by omega
  exact Rat.le_refl
 | succ k =>
  have b1:=mi hk (oI k va5);cases j with
  | zero =>
   show(0:Rat)<=_
   have:(0:Rat)<=(k:Rat):=by exact_mod_cast zB4 k
   grind
  | succ j =>
   have b2:=mi hj (lh j va5);by_cases A2:j<k
   ·have:(j:Rat)+1<=(k:Rat):=by exact_mod_cast A2
    grind
   ·obtain rfl:j=k:=by omega
    have q0:=Xo j va5;have q1:=Xo (j+1) va5;have r0:=oI j va5;have r1:=lh j va5;rw[kU,kU];have key:((thr-e j:Int):Rat) / ((e (j+1)-e j:Int):Rat)<=((thr-c j:Int):Rat) / ((c (j+1)-c j:Int):Rat):=by
     refine Rat.not_lt.1 fun h=>?_
     rw[rG (J9 va5) (J9 va5),oY]at h;have m1:(thr-e j)*(c (j+1)-thr)<=(thr-c j)*(c (j+1)-thr):=Int.mul_le_mul_of_nonneg_right va5 va5;have m2:(thr-c j)*(c (j+1)-thr)<=(thr-c j)*(e (j+1)-thr):=Int.mul_le_mul_of_nonneg_left va5 va5
     grind
    grind
theorem Z3{p:List Int}{thr a d:Int}{k:Nat}(h1:thr<=R9 p a d k)(h2:∀ j,j<k->R9 p a d j<thr) :
  0<(Q4 p thr a d k).2/\((Q4 p thr a d k).1:Rat) / ((Q4 p thr a d k).2:Rat)=(a:Rat)+(d:Rat)*bT (R9 p a d) thr k:=by
 cases k with
 | zero =>
  refine⟨by simp[Q4],?_⟩;simp only[Q4,bT,Rat.intCast_one]
  grind
 | succ k =>
  have:=h2 k va5;refine⟨by simp only[Q4];omega,?_⟩;simp only[Q4,bT];have hd:=J9 (show 0<R9 p a d (k+1)-R9 p a d k by omega);rw[Rat.intCast_add,Rat.intCast_mul,Rat.intCast_mul,Rat.intCast_add,Rat.intCast_mul];have e:((k:Int):Rat)=(k:Rat):=rfl;rw[e];generalize ((R9 p a d (k+1)-R9 p a d k:Int):Rat)=D at *
  generalize ((thr-R9 p a d k:Int):Rat)=N at *
  grind
def rK(p:List Int):Prop:=∀ i,i<p.length->0<=p.getD i 0/\p.getD i 0<=255
def hC(d:Int):Prop:=d=1∨d = -1
theorem mj{n:Nat}{a d:Int}(ha:0<=a)(hn:a<n)(hd:hC d){k:Nat}(hk:k<N5 n a d):0<=a+d*k/\a+d*k<n:=by
 unfold N5 at hk;rcases hd with rfl|rfl<;>simp at hk<;>omega
theorem mn{p:List Int}(hp:rK p){a d:Int}(ha:0<=a)(hn:a<p.length)(hd:hC d){k:Nat}(hk:k<N5 p.length a d):0<=R9 p a d k/\R9 p a d k<=255:=by
 have:=mj ha hn hd hk;exact hp _ va5
theorem S5{p:List Int}(hp:rK p)(hl:p.length<=64){thr a d:Int}(ha:0<=a)(hn:a<p.length)(hd:hC d)(t1:1<=thr)(t2:thr<=255){k:Nat}(h:tL p thr a d=some k) :
  -17000<=(Q4 p thr a d k).1/\(Q4 p thr a d k).1<=17000/\0<(Q4 p thr a d k).2/\(Q4 p thr a d k).2<=255:=by
 obtain⟨h1,h2,h3⟩:=J1.1 h;cases k with
 | zero=>simp only[Q4];omega
 | succ k =>
  have b1:=mn hp ha hn hd h1;have b2:=mn hp ha hn hd (k:=k) va5;have b3:=mj ha hn hd (k:=k) va5;have b4:=h3 k va5;simp only[Q4];generalize R9 p a d (k+1)=u at *
  generalize R9 p a d k=v at *
  generalize a+d*(k:Int)=w at *
  have m1:w*(u-v)<=64*(u-v):=Int.mul_le_mul_of_nonneg_right va5 va5;have m2:0<=w*(u-v):=Int.mul_nonneg va5 va5;rcases hd with rfl|rfl<;>omega
theorem uV{p:List Int}(hp:rK p)(hl:p.length<=64){thr a d:Int}(ha:0<=a)(hn:a<p.length)(hd:hC d)(t1:1<=thr)(t2:thr<=255){k:Nat}(h:tL p thr a d=some k) :
  r7 (E7 p thr a d k)=true/\(M9 (Q4 p thr a d k).1 (Q4 p thr a d k).2).2=0/\qv (E7 p thr a d k)=(a:Rat)+(d:Rat)*bT (R9 p a d) thr k:=by
 obtain⟨s1,s2,s3,s4⟩:=S5 hp hl ha hn hd t1 t2 h;obtain⟨h1,h2,h3⟩:=J1.1 h;obtain⟨v1,v2,v3⟩:=dW (n:=(Q4 p thr a d k).1) (d:=(Q4 p thr a d k).2) va5 va5 s3 va5;refine⟨v1,v2,?_⟩;rw[<- (Z3 h2 h3).2];exact v3
theorem rL{p q:List Int}(VK:p.length=q.length)(hle:∀ i,p.getD i 0<=q.getD i 0){thr a d:Int}{k:Nat}(h:tL p thr a d=some k) :
  ∃ j,tL q thr a d=some j/\j<=k/\bT (R9 q a d) thr j<=bT (R9 p a d) thr k:=by
 obtain⟨h1,h2,h3⟩:=J1.1 h;have hc:∀ i,R9 p a d i<=R9 q a d i:=fun i=>hle _
 cases hq:tL q thr a d with
 | none =>
  have:=mh.1 hq k (by rw[<- VK];exact h1);have:=hc k;omega
 | some j =>
  obtain⟨j1,j2,j3⟩:=J1.1 hq;exact⟨j,rfl,Db (fun i _=>hc i) h2 h3 j2 j3⟩
def aE(v:Int):Int:=if v<0 then 0 else if 255<v then 255 else v
def C6(p:List Int)(b:Int):List Int:=p.map fun v=>aE (v+b)
theorem z8(p:List Int)(b:Int):(C6 p b).length=p.length:=by simp[C6]
theorem cT(p:List Int)(b:Int)(i:Nat):(C6 p b).getD i 0=if i<p.length then aE (p.getD i 0+b)else 0:=by
 by_cases h:i<p.length<;>simp[C6,List.getD,h]
theorem xk(v:Int):0<=aE v/\aE v<=255:=by unfold aE;split<;>(try split)<;>omega
theorem Dc{v w:Int}(h:v<=w):aE v<=aE w:=by unfold aE;split<;>split<;>(try split)<;>(try split)<;>omega
theorem T7(p:List Int)(b:Int):rK (C6 p b):=by
 intro i hi;rw[z8]at hi;rw[cT,if_pos hi];exact xk _
theorem GI(p:List Int){b c:Int}(h:b<=c)(i:Nat):(C6 p b).getD i 0<=(C6 p c).getD i 0:=by
 rw[cT,cT];split
 ·exact Dc va5
 ·exact Int.le_refl _
theorem Kr{p:List Int}{thr:Int}(hl:0<p.length):tL p thr 0 1=none↔tL p thr ((p.length:Int)-1) (-1)=none:=by
 rw[mh,mh]
 constructor
 ·intro h j hj;have lh:j<p.length:=by simp[N5]at hj;omega
  have:=h (p.length-1-j) (by simp[N5];omega);unfold R9 at this ⊢;rw[show((p.length:Int)-1 + -1*(j:Int)).toNat=p.length-1-j by omega];rwa[show((0:Int)+1*((p.length-1-j:Nat):Int)).toNat=p.length-1-j by omega]at this
 ·intro h j hj;have lh:j<p.length:=by simp[N5]at hj;omega
  have:=h (p.length-1-j) (by simp[N5];omega);unfold R9 at this ⊢;rw[show((0:Int)+1*(j:Int)).toNat=j by omega];rwa[show((p.length:Int)-1 + -1*((p.length-1-j:Nat):Int)).toNat=j by omega]at this
theorem uW{x y:Int×Int}{n m e f:Int}(hx:r7 x=true)(hy:r7 y=true)(ex:qv x=(n:Rat) / (e:Rat))(ey:qv y=(m:Rat) / (f:Rat))(n1 : -17000<=n)(n2:n<=17000)(m1 : -17000<=m)(m2:m<=17000)(e1:0<e)(e2:e<=255)(f1:0<f)(f2:f<=255) :
  r7 (eH x y).1=true/\(eH x y).2=0/\qv (eH x y).1=qv x-qv y:=by
 have h:=jq hx hy;have hE:=J9 e1;have hF:=J9 f1;have p1:n*f<=17000*f:=Int.mul_le_mul_of_nonneg_right n2 va5;have p2 : -17000*f<=n*f:=Int.mul_le_mul_of_nonneg_right n1 va5;have p3:m*e<=17000*e:=Int.mul_le_mul_of_nonneg_right m2 va5;have p4 : -17000*e<=m*e:=Int.mul_le_mul_of_nonneg_right m1 va5;have p5:e*f<=255*f:=Int.mul_le_mul_of_nonneg_right e2 va5;refine rJ h (n:=n*f-m*e) (d:=e*f) ?_ va5 va5 (Int.mul_pos e1 f1) va5;rw[ex,ey,Rat.intCast_sub,Rat.intCast_mul,Rat.intCast_mul,Rat.intCast_mul]
 grind
def dF(p:List Int)(thr a a8:Int):Bool:=decide (1<=thr) && decide (thr<=255) && (decide (0<=a) && decide (a<=(p.length:Int)-1)) && (decide (0<=a8) && decide (a8<=64))
def uX(lo hi:(Int×Int)×Bool)(d:Int):X2×Int:=if lo.2 then(if d<0 then(lo.1,hi.1)else(hi.1,lo.1),0)else(zS,6)
def X0(p:List Int)(thr a a8 d:Int):X2×Int:=uX (Da (C6 p (-a8)) thr a d) (Da (C6 p a8) thr a d) d
def EP(p:List Int)(thr:Int):(Int×Int)×Bool:=if (Da p thr 0 1).2 then((eH (Da p thr ((p.length:Int)-1) (-1)).1 (Da p thr 0 1).1).1,true)else((0,0),false)
def QZ(lo hi:(Int×Int)×Bool):X2×Int:=if lo.2 then((lo.1,hi.1),0)else(zS,6)
def tM(p:List Int)(thr a8:Int):X2×Int:=QZ (EP (C6 p (-a8)) thr) (EP (C6 p a8) thr)
theorem bU{p:List Int}{thr a d:Int}{k:Nat}(h:tL p thr a d=some k):Da p thr a d=(E7 p thr a d k,true):=by unfold Da;rw[h]
theorem rM{p:List Int}{thr a d:Int}(h:tL p thr a d=none):Da p thr a d=((0,0),false):=by unfold Da;rw[h]
theorem gF{p:List Int}(hl:p.length<=64){thr a a8 d:Int}(ha:0<=a)(hn:a<p.length)(hd:hC d)(t1:1<=thr)(t2:thr<=255)(n0:0<=a8) :
  (tL (C6 p (-a8)) thr a d=none/\X0 p thr a a8 d=(zS,6)) ∨
  ∃ k j,tL (C6 p (-a8)) thr a d=some k/\tL (C6 p a8) thr a d=some j/\j<=k /\
   r7 (E7 (C6 p (-a8)) thr a d k)=true/\r7 (E7 (C6 p a8) thr a d j)=true /\
   qv (E7 (C6 p (-a8)) thr a d k)=(a:Rat)+(d:Rat)*bT (R9 (C6 p (-a8)) a d) thr k /\
   qv (E7 (C6 p a8) thr a d j)=(a:Rat)+(d:Rat)*bT (R9 (C6 p a8) a d) thr j /\
   bT (R9 (C6 p a8) a d) thr j<=bT (R9 (C6 p (-a8)) a d) thr k /\
   X0 p thr a a8 d=(if d<0 then(E7 (C6 p (-a8)) thr a d k,E7 (C6 p a8) thr a d j)else(E7 (C6 p a8) thr a d j,E7 (C6 p (-a8)) thr a d k),0)/\z7 (X0 p thr a a8 d).1=true:=by
 cases hk:tL (C6 p (-a8)) thr a d with
 | none=>exact .inl ⟨rfl,by unfold X0 uX;rw[rM hk];rfl⟩
 | some k =>
  obtain⟨j,hj,Qs,yH⟩:=rL (p:=C6 p (-a8)) (q:=C6 p a8) (by simp[z8]) (GI p va5) hk;have l1:(a:Int)<(C6 p (-a8)).length:=by rw[z8];exact hn
  have l2:(a:Int)<(C6 p a8).length:=by rw[z8];exact hn
  obtain⟨v1,_,q1⟩:=uV (T7 p _) (by rw[z8];exact hl) ha l1 hd t1 t2 hk;obtain⟨v2,_,q2⟩:=uV (T7 p _) (by rw[z8];exact hl) ha l2 hd t1 t2 hj;have e:X0 p thr a a8 d=(if d<0 then(E7 (C6 p (-a8)) thr a d k,E7 (C6 p a8) thr a d j)else(E7 (C6 p a8) thr a d j,E7 (C6 p (-a8)) thr a d k),0):=by
   unfold X0 uX;rw[bU hk,bU hj];rfl
  refine .inr ⟨k,j,rfl,hj,Qs,v1,v2,q1,q2,yH,e,?_⟩;rw[e,P1];rcases hd with rfl|rfl
  ·refine⟨v2,v1,?_⟩;simp only[show ¬ ((1:Int)<0)by decide,if_false];rw[q1,q2];have:((1:Int):Rat)=1:=rfl;rw[this]
   grind
  ·refine⟨v1,v2,?_⟩;simp only[show((-1:Int)<0)by decide,if_true];rw[q1,q2];have:((-1:Int):Rat) = -1:=rfl;rw[this]
   grind
theorem qa{p:List Int}(dC:0<p.length)(hl:p.length<=64){thr a8:Int}(t1:1<=thr)(t2:thr<=255)(n0:0<=a8) :
  (X0 p thr 0 a8 1=(zS,6)/\tM p thr a8=(zS,6)) ∨
  ((X0 p thr 0 a8 1).2=0/\(X0 p thr ((p.length:Int)-1) a8 (-1)).2=0/\z7 (X0 p thr 0 a8 1).1=true/\z7 (X0 p thr ((p.length:Int)-1) a8 (-1)).1=true /\
   CZ (X0 p thr ((p.length:Int)-1) a8 (-1)).1 (X0 p thr 0 a8 1).1=tM p thr a8/\(tM p thr a8).2=0/\z7 (tM p thr a8).1=true /\
   qv (tM p thr a8).1.1=qv (X0 p thr ((p.length:Int)-1) a8 (-1)).1.1-qv (X0 p thr 0 a8 1).1.2/\qv (tM p thr a8).1.2=qv (X0 p thr ((p.length:Int)-1) a8 (-1)).1.2-qv (X0 p thr 0 a8 1).1.1):=by
 have hb:=Kr (p:=C6 p (-a8)) (thr:=thr) (by rw[z8];exact dC);rw[z8]at hb;rcases gF (p:=p) hl (thr:=thr) (a:=0) (a8:=a8) (d:=1) va5 va5 (.inl rfl) t1 t2 n0 with ⟨h1,e1⟩|⟨k,j,hk,hj,Qs,v1,v2,q1,q2,yH,e1,s1⟩
 ·left
  refine⟨e1,?_⟩;unfold tM QZ EP;rw[rM h1];rfl
 ·right
  rcases gF (p:=p) hl (thr:=thr) (a:=(p.length:Int)-1) (a8:=a8) (d := -1) va5 va5 (.inr rfl) t1 t2 n0 with ⟨h2,e2⟩|⟨k',j',oI,lh,a0B,YI,YJ,SZ,Uw,Xp,e2,s2⟩
  ·rw[<- hb,hk]at h2;cases h2
  have f1:X0 p thr 0 a8 1=((E7 (C6 p a8) thr 0 1 j,E7 (C6 p (-a8)) thr 0 1 k),0):=by rw[e1,if_neg va8]
  have f2:X0 p thr ((p.length:Int)-1) a8 (-1)=((E7 (C6 p (-a8)) thr ((p.length:Int)-1) (-1) k',E7 (C6 p a8) thr ((p.length:Int)-1) (-1) j'),0):=by rw[e2,if_pos va8]
  have hw:tM p thr a8=(((eH (E7 (C6 p (-a8)) thr ((p.length:Int)-1) (-1) k') (E7 (C6 p (-a8)) thr 0 1 k)).1,(eH (E7 (C6 p a8) thr ((p.length:Int)-1) (-1) j') (E7 (C6 p a8) thr 0 1 j)).1),0):=by
   unfold tM QZ EP;rw[z8,z8,bU hk,bU hj,bU oI,bU lh];rfl
  have nl:((C6 p (-a8)).length:Int)<=64:=by rw[z8];omega
  have nu:((C6 p a8).length:Int)<=64:=by rw[z8];omega
  have z1:=S5 (T7 p (-a8)) va5 (a:=0) (d:=1) va5 (by rw[z8];omega) (.inl rfl) t1 t2 hk;have z2:=S5 (T7 p a8) va5 (a:=0) (d:=1) va5 (by rw[z8];omega) (.inl rfl) t1 t2 hj;have z3:=S5 (T7 p (-a8)) va5 (a:=(p.length:Int)-1) (d := -1) va5 (by rw[z8];omega) (.inr rfl) t1 t2 oI;have z4:=S5 (T7 p a8) va5 (a:=(p.length:Int)-1) (d := -1) va5 (by rw[z8];omega) (.inr rfl) t1 t2 lh;have y1:=(Z3 (J1.1 hk).2.1 (J1.1 hk).2.2).2;have y2:=(Z3 (J1.1 hj).2.1 (J1.1 hj).2.2).2;have y3:=(Z3 (J1.1 oI).2.1 (J1.1 oI).2.2).2;have y4:=(Z3 (J1.1 lh).2.1 (J1.1 lh).2.2).2;have d1:=uW YI v1 (SZ.trans y3.symm) (q1.trans y1.symm) z3.1 z3.2.1 z1.1 z1.2.1 z3.2.2.1 z3.2.2.2 z1.2.2.1 z1.2.2.2;have d2:=uW YJ v2 (Uw.trans y4.symm) (q2.trans y2.symm) z4.1 z4.2.1 z2.1 z2.2.1 z4.2.2.1 z4.2.2.2 z2.2.2.1 z2.2.2.2;rw[f1]at s1 ⊢;rw[f2]at s2 ⊢;clear f1 f2 e1 e2 y1 y2 y3 y4 z1 z2 z3 z4 q1 q2 SZ Uw yH Xp hk hj oI lh hb;generalize E7 (C6 p (-a8)) thr ((p.length:Int)-1) (-1) k'=A at *
  generalize E7 (C6 p a8) thr ((p.length:Int)-1) (-1) j'=B at *
  generalize E7 (C6 p (-a8)) thr 0 1 k=C at *
  generalize E7 (C6 p a8) thr 0 1 j=D at *
  have r1:=(P1.1 s1).2.2;have r2:=(P1.1 s2).2.2;simp only[]at r1 r2;have hle:qv A-qv C<=qv B-qv D:=by grind
  have he:=Ko (op:=eH) (p:=(A,C)) (q:=(B,D)) (jq YI v1) (jq YJ v2) hle;rw[if_pos ⟨d1.2.1,d2.2.1⟩]at he;have MV:CZ (A,B) (D,C)=(((eH A C).1,(eH B D).1),0):=by
   unfold CZ;rw[s1,s2];exact he
  refine⟨rfl,rfl,s1,s2,by rw[MV,hw],by rw[hw],?_,by rw[hw];exact d1.2.2,by rw[hw];exact d2.2.2⟩;rw[hw,P1];refine⟨d1.1,d2.1,?_⟩;show qv (eH A C).1<=qv (eH B D).1
  rw[d1.2.2,d2.2.2];exact hle

end Go.Proofs.Tryz.My
