/- Helper lemmas. -/
import Init
import Derived.Test.YtacahppoighegaaGreatMzBnD
set_option linter.unusedVariables false
set_option linter.unusedSimpArgs false
set_option maxRecDepth 100000
set_option maxHeartbeats 0
namespace Go.Proofs.Tryz.My
open Go Go.Ev
structure H2 where
 step:Int
 v8:Int
 w9:Int
 len:Int
structure K1 where
 m0:H2
 lag:Int
 keep:Int
 p:Int
 q:Int
 al:Int×Int
structure u6 where
 id:Int
 cnt:Int
 o5:Int
 hit:Bool
structure r9 where
 m0:H2
 count:Int
 next:Int
 k9:List u6
structure Q5 where
 hits:Int
 rounds:Int
 alarm:Bool
structure B7 where
 id:Int
 front:Int
 len:Int
 o5:Int
 due:Int
 seq:Int
 out:Bool
structure n8 where
 line:K1
 o6:r9
 n6:n9
 drift:Q5
 k8:List B7
def l9:u6:=⟨0,0,0,false⟩
def l5:B7:=⟨0,0,0,0,0,0,false⟩
def uM(b:H2):List AV:=[i64 b.step,i64 b.v8,i64 b.w9,i64 b.len]
def Hs(l:K1):List AV:=[i64 l.m0.step,i64 l.m0.v8,i64 l.m0.w9,i64 l.m0.len,i64 l.lag,i64 l.keep,i64 l.p,i64 l.q,i64 l.al.1,i64 l.al.2]
def Ys(l:K1):List AV:=[i64 l.p,i64 l.q,i64 l.al.1,i64 l.al.2]
def C2(s:u6):List AV:=[i64 s.id,i64 s.cnt,u8 s.o5,.bool s.hit]
def B4(x:B7):List AV:=[i64 x.id,i64 x.front,i64 x.len,u8 x.o5,i64 x.due,i64 x.seq,.bool x.out]
def dw(d:Q5):List AV:=[i64 d.hits,i64 d.rounds,.bool d.alarm]
abbrev bE(l:List u6):AV := .sl 4 l9 C2 l
abbrev JJ(l:List B7):AV := .sl 7 l5 B4 l
def uN(t:r9):List AV:=[i64 t.m0.step,i64 t.m0.v8,i64 t.m0.w9,i64 t.m0.len,i64 t.count,i64 t.next,bE t.k9]
def eW(w:n8):List AV:=[i64 w.line.m0.step,i64 w.line.m0.v8,i64 w.line.m0.w9,i64 w.line.m0.len,i64 w.line.lag,i64 w.line.keep,i64 w.line.p,i64 w.line.q,i64 w.line.al.1,i64 w.line.al.2,
 i64 w.o6.m0.step,i64 w.o6.m0.v8,i64 w.o6.m0.w9,i64 w.o6.m0.len,i64 w.o6.count,i64 w.o6.next,bE w.o6.k9,
 i64 w.n6.keep,Nz w.n6.n5,uq w.n6.j8,i64 w.n6.next,od w.n6.log,i64 w.drift.hits,i64 w.drift.rounds,.bool w.drift.alarm,JJ w.k8]
abbrev zF(b:H2):AV := .agg (uM b)
abbrev lin(l:K1):AV := .agg (Hs l)
abbrev PD(l:K1):AV := .agg (Ys l)
abbrev gp(t:r9):AV := .agg (uN t)
abbrev ai(w:n8):AV := .agg (eW w)
def J3(b:H2):Bool:=decide ((1<=b.step/\b.step<=1000)/\(0<=b.v8/\b.v8<b.step)/\(1<=b.w9/\b.w9<=1000000)/\(1<=b.len/\b.len<=1000000))
theorem D3{b:H2}:J3 b=true↔(1<=b.step/\b.step<=1000)/\(0<=b.v8/\b.v8<b.step)/\(1<=b.w9/\b.w9<=1000000)/\(1<=b.len/\b.len<=1000000):=decide_eq_true_iff
def AE(a:Int×Int):Bool:=o7 a && decide (0<a.1/\a.1<a.2/\a.2<=1073741824)
theorem AF{a:Int×Int}:AE a=true↔o7 a=true/\0<a.1/\a.1<a.2/\a.2<=1073741824:=by
 simp only[AE,zA2,zA3]
def eY(l:K1):Bool:=decide (1<=l.p/\l.p<l.q/\l.q<=255) && AE l.al
theorem uO{l:K1}:eY l=true↔(1<=l.p/\l.p<l.q/\l.q<=255)/\AE l.al=true:=by
 simp only[eY,zA2,zA3]
def bG(l:K1):Int:=if J3 l.m0=true then(if (1<=l.lag/\l.lag<=100)/\(1<=l.keep/\l.keep<=32)then(if eY l=true then 0 else 81)else 2)else 90
theorem aA{l:K1}(h:bG l=0):J3 l.m0=true/\((1<=l.lag/\l.lag<=100)/\(1<=l.keep/\l.keep<=32))/\eY l=true:=by
 unfold bG at h;split at h
 ·split at h
  ·split at h
   ·exact⟨by assumption,by assumption,by assumption⟩
   ·cases h
  ·cases h
 ·cases h
def Y1(b:H2)(place:Int):Int:=Int.tdiv (place-1) (b.step+b.v8)+1
def M4(b:H2)(place:Int):Int:=Int.tdiv (place+b.len) (b.step-b.v8)+1
theorem R7{b:H2}(h:J3 b=true){place:Int}(h1:1<=place)(h2:place<=1000000):(1<=Y1 b place/\Y1 b place<=1000000)/\(1<=M4 b place/\M4 b place<=2000001):=by
 obtain⟨⟨a1,a2⟩,⟨b1,b2⟩,⟨c1,c2⟩,d1,d2⟩:=D3.1 h;unfold Y1 M4;rw[Int.tdiv_eq_ediv_of_nonneg va5,Int.tdiv_eq_ediv_of_nonneg va5];have u1:0<=(place-1) / (b.step+b.v8):=Int.ediv_nonneg va5 va5;have u2:(place-1) / (b.step+b.v8)<=place-1:=Int.ediv_le_self _ va5;have v1:0<=(place+b.len) / (b.step-b.v8):=Int.ediv_nonneg va5 va5;have v2:(place+b.len) / (b.step-b.v8)<=place+b.len:=Int.ediv_le_self _ va5;omega
def P5(l:List u6)(k:Nat):u6:=if k=0 then⟨-1,-1,0,false⟩else l.getD (k-1) l9
theorem FD(l:List u6):P5 l 0=⟨-1,-1,0,false⟩:=rfl
theorem eZ(l:List u6)(k:Nat):P5 l (k+1)=l.getD k l9:=by simp[P5]
def jb(t:r9)(k:Nat):Bool :=
 decide ((P5 t.k9 k).id<(t.k9.getD k l9).id/\(t.k9.getD k l9).id<t.next/\(P5 t.k9 k).cnt<(t.k9.getD k l9).cnt/\(t.k9.getD k l9).cnt<=t.count/\t.count<(t.k9.getD k l9).cnt+M4 t.m0 t.m0.w9 /\
  (t.k9.getD k l9).o5<=3/\((t.k9.getD k l9).hit=true->(t.k9.getD k l9).cnt+Y1 t.m0 t.m0.w9<=t.count))
theorem km{t:r9}{k:Nat}:jb t k=true↔((P5 t.k9 k).id<(t.k9.getD k l9).id/\(t.k9.getD k l9).id<t.next/\(P5 t.k9 k).cnt<(t.k9.getD k l9).cnt/\(t.k9.getD k l9).cnt<=t.count/\t.count<(t.k9.getD k l9).cnt+M4 t.m0 t.m0.w9 /\
  (t.k9.getD k l9).o5<=3/\((t.k9.getD k l9).hit=true->(t.k9.getD k l9).cnt+Y1 t.m0 t.m0.w9<=t.count)):=decide_eq_true_iff
def Rr(t:r9):Bool:=decide ((0<=t.count/\t.count<=1099511627776)/\(0<=t.next/\t.next<=1099511627776)/\t.k9.length<=32)
theorem im{t:r9}:Rr t=true↔(0<=t.count/\t.count<=1099511627776)/\(0<=t.next/\t.next<=1099511627776)/\t.k9.length<=32:=decide_eq_true_iff
def fc(t:r9):Bool:=Rr t && (List.range t.k9.length).all (jb t)
def V0(t:r9):Int:=if J3 t.m0=true then(if fc t=true then 0 else 8)else 90
theorem aO{t:r9}:V0 t=0↔J3 t.m0=true/\fc t=true:=by
 unfold V0;split
 ·split
  ·exact⟨fun _=>⟨by assumption,by assumption⟩,fun _=>rfl⟩
  ·rename_i h;exact⟨fun q=>(by cases q),fun q=>absurd q.2 h⟩
 ·rename_i h;exact⟨fun q=>(by cases q),fun q=>absurd q.1 h⟩
theorem uP{t:r9}{k:Nat}(h:∀ i,i<k->jb t i=true) : -1<=(P5 t.k9 k).id /\ -1<=(P5 t.k9 k).cnt/\(0<k->0<=(P5 t.k9 k).id/\0<=(P5 t.k9 k).cnt/\(P5 t.k9 k).cnt<=t.count):=by
 induction k with
 | zero=>exact⟨Int.le_refl _,Int.le_refl _,fun h=>absurd h (Nat.lt_irrefl 0)⟩
 | succ k ih =>
  have a:=ih fun i hi=>h i va5
  have b:=km.1 (h k va5);rw[eZ];omega
def bn(d:Q5):Bool:=decide ((0<=d.hits/\d.hits<=d.rounds)/\d.rounds<=500)
theorem kX{d:Q5}:bn d=true↔(0<=d.hits/\d.hits<=d.rounds)/\d.rounds<=500:=decide_eq_true_iff
def AG(w:n8)(k:Nat):Bool :=
 decide ((w.k8.getD k l5).id=(w.o6.k9.getD k l9).id/\(0<=(w.k8.getD k l5).len/\(w.k8.getD k l5).len<=w.line.m0.len) /\
  ((w.o6.count-(w.o6.k9.getD k l9).cnt)*(w.line.m0.step-w.line.m0.v8)<=(w.k8.getD k l5).front/\(w.k8.getD k l5).front<=(w.o6.count-(w.o6.k9.getD k l9).cnt)*(w.line.m0.step+w.line.m0.v8)) /\
  (w.k8.getD k l5).o5<=3/\(0<=(w.k8.getD k l5).due/\(w.k8.getD k l5).due<=1099511627876)/\(-1<=(w.k8.getD k l5).seq/\(w.k8.getD k l5).seq<=w.n6.next-1))
theorem sr{w:n8}{k:Nat}:AG w k=true↔((w.k8.getD k l5).id=(w.o6.k9.getD k l9).id/\(0<=(w.k8.getD k l5).len/\(w.k8.getD k l5).len<=w.line.m0.len) /\
  ((w.o6.count-(w.o6.k9.getD k l9).cnt)*(w.line.m0.step-w.line.m0.v8)<=(w.k8.getD k l5).front/\(w.k8.getD k l5).front<=(w.o6.count-(w.o6.k9.getD k l9).cnt)*(w.line.m0.step+w.line.m0.v8)) /\
  (w.k8.getD k l5).o5<=3/\(0<=(w.k8.getD k l5).due/\(w.k8.getD k l5).due<=1099511627876)/\(-1<=(w.k8.getD k l5).seq/\(w.k8.getD k l5).seq<=w.n6.next-1)):=decide_eq_true_iff
def R8(a b:H2):Prop:=a.step=b.step/\a.v8=b.v8/\a.w9=b.w9/\a.len=b.len
instance (a b:H2):Decidable (R8 a b):=by unfold R8;infer_instance
theorem kn{a b:H2}(h:R8 a b):a=b:=by
 obtain⟨a1,a2,a3,a4⟩:=a;obtain⟨b1,b2,b3,b4⟩:=b;obtain⟨h1,h2,h3,h4⟩:=h;simp only at h1 h2 h3 h4;subst h1 h2 h3 h4;rfl
def NY(w:n8):Bool:=decide (R8 w.o6.m0 w.line.m0/\w.n6.keep=w.line.keep/\(w.k8.length:Int)=w.o6.k9.length/\bn w.drift=true)
theorem iq{w:n8}:NY w=true↔R8 w.o6.m0 w.line.m0/\w.n6.keep=w.line.keep/\(w.k8.length:Int)=w.o6.k9.length/\bn w.drift=true:=decide_eq_true_iff
def lF(w:n8):Bool:=NY w && (fc w.o6 && (B8 w.n6 && (List.range w.k8.length).all (AG w)))
def jz(w:n8):Int:=if bG w.line=0 then(if lF w=true then 0 else 8)else bG w.line
def cT(a b:K1):Prop:=R8 a.m0 b.m0/\a.lag=b.lag/\a.keep=b.keep/\a.p=b.p/\a.q=b.q/\a.al.1=b.al.1/\a.al.2=b.al.2
instance (a b:K1):Decidable (cT a b):=by unfold cT;infer_instance
def oB(a b:u6):Bool:=decide (a.id=b.id/\a.cnt=b.cnt/\a.o5=b.o5) && (a.hit == b.hit)
def gv(a b:B7):Bool:=decide (a.id=b.id/\a.front=b.front/\a.len=b.len/\a.o5=b.o5/\a.due=b.due/\a.seq=b.seq) && (a.out == b.out)
def qU(a b:Q5):Bool:=decide (a.hits=b.hits/\a.rounds=b.rounds) && (a.alarm == b.alarm)
theorem FE(a:u6):oB a a=true:=by simp[oB]
theorem Db(a:B7):gv a a=true:=by simp[gv]
theorem FF(a:Q5):qU a a=true:=by simp[qU]
theorem gy(a:H2):R8 a a:=⟨rfl,rfl,rfl,rfl⟩
theorem wD(a:K1):cT a a:=⟨gy _,rfl,rfl,rfl,rfl,rfl,rfl⟩
def dx(a b:r9):Bool:=decide (R8 a.m0 b.m0/\a.count=b.count/\a.next=b.next) && rB oB l9 a.k9 b.k9
theorem Dc(a:r9):dx a a=true:=by
 unfold dx;rw[zA4 ⟨gy _,rfl,rfl⟩,eQ FE];rfl
def qV(a b:n8):Bool:=decide (cT a.line b.line) && (dx a.o6 b.o6 && (ki a.n6 b.n6 && (qU a.drift b.drift && rB gv l5 a.k8 b.k8)))
theorem mL(a:n8):qV a a=true:=by
 unfold qV;rw[zA4 (wD _),Dc,Fu,FF,eQ Db];rfl
/- Numbers as digits to a base, the lowest first. A helper text: it speaks of no program. -/
def Rs(B:Nat):Nat->Nat->List Nat
 | 0,_=>[]
 | f+1,n=>if n=0 then []else(n % B) :: Rs B f (n / B)
def dg(B n:Nat):List Nat:=Rs B n n
theorem oC(B f:Nat):Rs B f 0=[]:=by cases f<;>simp[Rs]
theorem Dd{B:Nat}(hB:2<=B):∀ (f n g:Nat),n<=f->f<=g->Rs B g n=Rs B f n
 | 0,n,g,h,_=>by
  obtain rfl:n=0:=by omega
  rw[oC,oC]
 | f+1,n,g,h,hg=>by
  obtain⟨g,rfl⟩:∃ k,g=k+1:=⟨g-1,va5⟩
  by_cases e:n=0
  ·subst e;rw[oC,oC]
  ·simp only[Rs,if_neg e];have:n / B<n:=Nat.div_lt_self va5 va5;rw[Dd hB f (n / B) g va5 va5]
theorem kY(B:Nat):dg B 0=[]:=rfl
theorem ko{B n:Nat}(hB:2<=B)(h:0<n):dg B n=(n % B) :: dg B (n / B):=by
 obtain⟨k,rfl⟩:∃ k,n=k+1:=⟨n-1,va5⟩
 have:(k+1) / B<k+1:=Nat.div_lt_self va5 va5;show Rs B (k+1) (k+1)=_
 rw[Rs,if_neg va5,dg,Dd hB ((k+1) / B) ((k+1) / B) k (Nat.le_refl _) va5]
def vl(B:Nat):List Nat->Nat
 | []=>0
 | d :: l=>d+B*vl B l
def FH(B:Nat)(l:List Nat):Prop:=∀ d ∈ l,d<B
theorem xV{B:Nat}(hB:2<=B)(n:Nat):vl B (dg B n)=n:=by
 induction n using Nat.strongRecOn with
 | ind n ih =>
  by_cases e:n=0
  ·subst e;rfl
  ·have:n / B<n:=Nat.div_lt_self va5 va5;rw[ko hB va5,vl,ih _ this];exact Nat.mod_add_div n B
theorem uQ{B:Nat}(hB:2<=B)(n:Nat):FH B (dg B n):=by
 induction n using Nat.strongRecOn with
 | ind n ih =>
  by_cases e:n=0
  ·subst e;intro d h;cases h
  ·have:n / B<n:=Nat.div_lt_self va5 va5;rw[ko hB va5];intro d h;rcases List.mem_cons.1 h with rfl|h
   ·exact Nat.mod_lt _ va5
   ·exact ih _ this d h
theorem NZ{B:Nat}(hB:2<=B){n:Nat}(h:dg B n=[]):n=0:=by
 have:=xV hB n;rw[h]at this;exact this.symm
def dC:List Nat->List Nat
 | []=>[]
 | d :: l=>match dC l with
  | []=>if d=0 then []else [d]
  | e :: m=>d :: e :: m
theorem su{B:Nat}(hB:2<=B):∀ {l:List Nat},FH B l->dC l=dg B (vl B l)
 | [],_=>rfl
 | d :: l,h=>by
  have ih:=su hB (l:=l) fun x hx=>h x (List.mem_cons_of_mem _ hx)
  have hd:d<B:=h d (List.mem_cons_self ..);rw[dC,ih,vl];cases hv:dg B (vl B l)with
  | nil =>
   have e:=NZ hB hv;rw[e];by_cases h0:d=0
   ·subst h0;simp[kY]
   ·simp only[if_neg h0,Nat.mul_zero,Nat.add_zero];rw[ko hB va5,Nat.mod_eq_of_lt hd,Nat.div_eq_of_lt hd,kY]
  | cons e m =>
   have hp:0<vl B l:=Nat.pos_of_ne_zero fun q=>by rw[q,kY]at hv;cases hv
   have hq:0<B*vl B l:=Nat.mul_pos va5 hp;show d :: e :: m=_
   rw[ko (n:=d+B*vl B l) hB va5,Nat.add_mul_mod_self_left,Nat.mod_eq_of_lt hd,Nat.add_mul_div_left _ _ va5,Nat.div_eq_of_lt hd,Nat.zero_add,hv]
theorem JK{l:List Nat}{k:Nat}(h:∀ j,k<=j->l.getD j 0=0):dC l=dC (l.take k):=by
 induction l generalizing k with
 | nil=>rw[List.take_nil]
 | cons d l ih =>
  cases k with
  | zero =>
   have e:=ih (k:=0) fun j _=>by have:=h (j+1) va5;simpa using this
   have h0:d=0:=by simpa using h 0 va5
   rw[List.take_zero]at e ⊢;have e:dC l=[]:=e;simp only[dC,e,h0,if_true]
  | succ k =>
   have e:=ih (k:=k) fun j hj=>by have:=h (j+1) va5;simpa using this
   rw[List.take_succ_cons];simp only[dC,e]
theorem JL{l:List Nat}{k:Nat}(hk:k<l.length)(hl:l.length=k+1)(h:l.getD k 0≠0):dC l=l:=by
 induction l generalizing k with
 | nil=>rfl
 | cons d l ih =>
  cases k with
  | zero =>
   obtain rfl:l=[]:=List.length_eq_zero_iff.1 (by simpa using hl);have h0:d≠0:=by simpa using h
   simp[dC,h0]
  | succ k =>
   have e:=ih (k:=k) (by simpa using hk) (by simpa using hl) (by simpa using h);rw[dC,e];cases l with
   | nil=>simp at hl
   | cons=>rfl
theorem kZ{B:Nat}:∀ (l:List Nat) (k:Nat),vl B (l.take (k+1))=vl B (l.take k)+l.getD k 0*B^k
 | [],k=>by simp[vl]
 | d :: l,0=>by simp[vl]
 | d :: l,k+1=>by
  rw[List.take_succ_cons,List.take_succ_cons,vl,vl,kZ l k];have e:(d :: l).getD (k+1) 0=l.getD k 0:=by simp
  rw[e,Nat.pow_succ,Nat.mul_add];have:B*(l.getD k 0*B^k)=l.getD k 0*(B^k*B):=by rw[<- Nat.mul_assoc,Nat.mul_comm B,Nat.mul_assoc,Nat.mul_comm B]
  omega
theorem xW{B:Nat}(hB:2<=B):∀ {l:List Nat},FH B l->vl B l<B^l.length
 | [],_=>by simp[vl]
 | d :: l,h=>by
  have ih:=xW hB (l:=l) fun x hx=>h x (List.mem_cons_of_mem _ hx)
  have hd:d<B:=h d (List.mem_cons_self ..);rw[vl,zB2,Nat.pow_succ,Nat.mul_comm (B^l.length)];have:B*(vl B l+1)<=B*B^l.length:=Nat.mul_le_mul_left _ ih;rw[Nat.mul_add]at this;omega
theorem FI{B:Nat}:∀ {l:List Nat} {k:Nat} (v:Nat),k<l.length->vl B (l.set k v)+l.getD k 0*B^k=vl B l+v*B^k
 | d :: l,0,v,_=>by simp[vl];omega
 | d :: l,k+1,v,h=>by
  have ih:=FI (B:=B) (l:=l) (k:=k) v (by simpa using h);have e:(d :: l).getD (k+1) 0=l.getD k 0:=by simp
  rw[List.set_cons_succ,vl,vl,e,Nat.pow_succ];have h1:l.getD k 0*(B^k*B)=B*(l.getD k 0*B^k):=by rw[<- Nat.mul_assoc,Nat.mul_comm]
  have h2:v*(B^k*B)=B*(v*B^k):=by rw[<- Nat.mul_assoc,Nat.mul_comm]
  rw[h1,h2];have:=congrArg (B * ·) ih;simp only[Nat.mul_add]at this;omega
theorem Ht{B:Nat}{l:List Nat}(h:FH B l)(k:Nat){v:Nat}(hv:v<B):FH B (l.set k v):=fun d hd=>by
 rcases List.mem_or_eq_of_mem_set hd with h1|h1
 ·exact h d h1
 ·subst h1;exact hv
theorem oD{B:Nat}(hB:0<B){l:List Nat}(h:FH B l)(k:Nat):l.getD k 0<B:=by
 by_cases hk:k<l.length
 ·simp only[List.getD,zA6 hk,Option.getD_some];exact h _ (List.getElem_mem hk)
 ·simp[List.getD,zA7 (Nat.le_of_not_lt hk),hB]
theorem De{B:Nat}{l:List Nat}(h:FH B l)(k:Nat):FH B (l.take k):=fun d hd=>h d (List.mem_of_mem_take hd)
theorem uR{B:Nat}(hB:2<=B):∀ {k n:Nat},n<B^k->(dg B n).length<=k
 | 0,n,h=>by
  obtain rfl:n=0:=by simpa using h
  simp[kY]
 | k+1,n,h=>by
  by_cases e:n=0
  ·subst e;simp[kY]
  ·rw[ko hB va5,zB2];have:n / B<B^k:=Nat.div_lt_of_lt_mul (by rw[Nat.pow_succ,Nat.mul_comm]at h;exact h);have:=uR hB this;omega
theorem xX{B:Nat}(hB:2<=B):∀ {k n:Nat},B^k<=n->k<(dg B n).length
 | 0,n,h=>by
  have e:B^0=1:=Nat.pow_zero B;rw[ko hB va5];simp
 | k+1,n,h=>by
  have hp:0<B^(k+1):=Nat.pow_pos va5;rw[ko hB va5,zB2];have:B^k<=n / B:=(Nat.le_div_iff_mul_le va5).2 (by rw[<- Nat.pow_succ];exact h);have:=xX hB this;omega
theorem xY{B:Nat}(hB:2<=B){a b:Nat}(h:(dg B a).length<(dg B b).length):a<b:=by
 have h1:=xW hB (uQ hB a);rw[xV hB]at h1;by_cases hb:b<B^(dg B a).length
 ·have:=uR hB hb;omega
 ·omega
def Lj(a b:List Nat):Nat->Bool
 | 0=>true
 | k+1=>if a.getD k 0=b.getD k 0 then Lj a b k else decide (a.getD k 0<b.getD k 0)
theorem Oa{B:Nat}(hB:2<=B){a b:List Nat}(ha:FH B a)(hb:FH B b):∀ k,Lj a b k=decide (vl B (a.take k)<=vl B (b.take k))
 | 0=>by simp[Lj,vl]
 | k+1=>by
  rw[Lj,kZ,kZ,Oa hB ha hb k];have pa:vl B (a.take k)<B^k:=by
   have:=xW hB (De ha k);exact zB5 this (Nat.pow_le_pow_right va5 (by rw[zB1];omega))
  have pb:vl B (b.take k)<B^k:=by
   have:=xW hB (De hb k);exact zB5 this (Nat.pow_le_pow_right va5 (by rw[zB1];omega))
  by_cases e:a.getD k 0=b.getD k 0
  ·rw[if_pos e,e];simp only[Nat.add_le_add_iff_right]
  ·rw[if_neg e];generalize a.getD k 0=x at *
   generalize b.getD k 0=y at *
   generalize B^k=q at *
   by_cases h:x<y
   ·have:(x+1)*q<=y*q:=Nat.mul_le_mul_right _ h;rw[Nat.add_mul,Nat.one_mul]at this;rw[zA4 h,eq_comm,zA3];omega
   ·have:(y+1)*q<=x*q:=Nat.mul_le_mul_right _ va5;rw[Nat.add_mul,Nat.one_mul]at this;rw[zA5 h,eq_comm,decide_eq_false_iff_not];omega
theorem Ob{B:Nat}(hB:2<=B){a b k:Nat}(ha:(dg B a).length<=k)(hb:(dg B b).length<=k):Lj (dg B a) (dg B b) k=decide (a<=b):=by
 rw[Oa hB (uQ hB a) (uQ hB b),List.take_of_length_le ha,List.take_of_length_le hb,xV hB,xV hB]
def Bg(f p h n:Nat):Nat:=f*p^h*(256-p)^(n-h)
theorem AH(m:Nat):(1073741824:Nat)*256^m=2^(30+8*m):=by
 rw[show(256:Nat)=2^8 from rfl,<- Nat.pow_mul,show(1073741824:Nat)=2^30 from rfl,<- Nat.pow_add]
theorem uS{f p h n:Nat}(hf:f<=1073741824)(hp:p<=256)(hh:h<=n):Bg f p h n<=2^(30+8*n):=by
 have h1:p^h<=256^h:=Nat.pow_le_pow_left va5 h;have h2:(256-p)^(n-h)<=256^(n-h):=Nat.pow_le_pow_left va5 _;have h3:Bg f p h n<=f*256^h*256^(n-h):=Nat.mul_le_mul (Nat.mul_le_mul_left _ h1) h2;rw[Nat.mul_assoc f,<- Nat.pow_add,show h+(n-h)=n by omega]at h3;have h5:f*256^n<=1073741824*256^n:=Nat.mul_le_mul_right _ hf;rw[AH]at h5;exact Nat.le_trans h3 h5
theorem AI{c a k N:Nat}(h:N<=2^a)(hc:0<c)(hk:a<c*k):(dg (2^c) N).length<=k:=by
 have h2:(2:Nat)<=2^c:=by
  have:=Nat.pow_le_pow_right (n:=2) va8 hc;simpa using this
 refine uR h2 ?_;rw[<- Nat.pow_mul];exact Nat.lt_of_le_of_lt h (Nat.pow_lt_pow_right va8 hk)
def Oc(p q num den h n:Nat):Bool:=decide (Bg den p h n<=Bg num q h n)
theorem kq(n lo hi:Int):va6 73 [i64 n,i64 lo,i64 hi] (.bool (B6 n lo hi)):=by
 refine vb4 Tryz.func73 ?_;refine⟨fun h=>?_,fun h=>?_⟩<;>((conv=>whnf);simp_all [-decide_eq_true_eq,-decide_eq_false_iff_not,B6])
theorem uT(lo hi n:Int):va6 30 [i64 lo,i64 hi,i64 n] (.bool (B6 n lo hi)):=by
 refine vb4 Tryz.func30 ?_;refine⟨fun h=>?_,fun h=>?_⟩<;>((conv=>whnf);simp_all [-decide_eq_true_eq,-decide_eq_false_iff_not,B6])
def cU(n:Int):Bool := !B6 n (-64) 64
theorem qW(n:Int):va6 164 [i64 n] (.bool (cU n)):=by
 refine vb4 Tryz.func164 ?_
 (first|(refine Or.inl ?_;(conv=>whnf);refine⟨_,uT (-64) 64 n,?_⟩)|refine⟨_,uT (-64) 64 n,?_⟩)
 conv=>whnf
 rfl
theorem xZ(p n:List Int)(hp:p.length<2^40)(hn:n.length<2^40):va6 85 [A9 p,A9 n] (.bool (decide (p.length=n.length) && !n.any cU)):=by
 refine vb4 Tryz.func85 ?_;refine⟨fun h=>?_,fun h=>?_⟩
 ·(conv=>whnf);have:¬ p.length=n.length:=by simp at h;omega
  simp[this]
 have hpn:p.length=n.length:=by simp at h;omega
 conv=>whnf
 refine Or.inr ⟨Nat,[5],[],[],fun k=>[i64 k],fun _=>[],fun _=>[],fun k=>n.length-k,fun k=>k<=n.length/\∀ i,i<k->cU (n.getD i 0)=false,vb3 ?_⟩;refine⟨⟨0,?_⟩,?_⟩
 ·(conv=>whnf);exact kK ⟨by simp,rfl,rfl,rfl⟩
 ·intro k hk;conv=>whnf
  refine⟨fun h=>?_,fun h=>?_⟩
  ·have h:=zA1 h;conv=>whnf
   refine⟨⟨va5,va5⟩,vb3 ?_⟩
   (first|(refine Or.inl ?_;(conv=>whnf);refine⟨_,kq _ _ _,?_⟩)|refine⟨_,kq _ _ _,?_⟩)
   conv=>whnf
   refine⟨fun h2=>?_,fun h2=>?_⟩
   ·(conv=>whnf)
    congr 1
    have hm:cU (n.getD k 0)=true:=by simpa[cU]using h2
    have:n.any cU=true:=List.any_eq_true.2 ⟨n.getD k 0,by simp[List.getD,show k<n.length by omega],hm⟩;simp[this]
   ·refine⟨k+1,vb3 ?_⟩;refine kK ⟨⟨?_,?_,?_⟩,?_,rfl,rfl⟩
    ·show n.length-(k+1)<n.length-k;omega
    ·omega
    ·intro i hi;by_cases e:i=k
     ·subst e;simpa[cU]using h2
     ·exact hk.2 i va5
    ·rw[z5 _ va5 va5];rfl
  ·have h:=zA0 h;conv=>whnf
   congr 1
   have:n.any cU=false:=List.any_eq_false.2 fun x hx=>by
    obtain⟨i,hi,rfl⟩:=List.getElem_of_mem hx;have:=hk.2 i va5;simpa[List.getD,hi]using this
   simp[this,hpn]
theorem uU(n:List Int):va6 165 [A9 n] (.fn (.func 205) [] [.pt [A9 n] 0]):=by
 refine pF Tryz.func165 ?_;conv=>whnf
def Y2(p n:List Int)(i:Nat):Int:=Jm (p.getD i 0+n.getD i 0)
def K8(p n:List Int):List Int:=(List.range p.length).map (Y2 p n)
theorem jc(p n:List Int):(K8 p n).length=p.length:=by simp[K8]
theorem qX{l:List Int}(h:l.any cU=false)(i:Nat)(hi:i<l.length) : -64<=l.getD i 0/\l.getD i 0<=64:=by
 have:=CC h i hi;simp only[cU,B6,Bool.not_eq_false',zA2,zA3]at this;exact this
theorem Df(p n:List Int)(h0:p≠[])(hl:p.length<2^30)(hpn:p.length=n.length)(hp:p.any nX=false)(hn:n.any cU=false):va7 205 [A9 p,.pt [A9 n] 0] [] (.own 0) [.vec 3 1 0 eI (K8 p n)]:=by
 refine vb5 Tryz.func205 ?_;refine va2 [] [8] (vb3 ?_);refine va3 [] (CA p h0 hl) (vb3 ?_);refine Or.inr ⟨Nat,[11],[8],[],fun k=>[i64 k],fun k=>[.vec 3 1 0 eI (bW p (Y2 p n) k)],fun _=>[],fun k=>n.length-k,fun k=>k<=n.length,vb3 ?_⟩;refine⟨⟨0,?_⟩,?_⟩
 ·(conv=>whnf);refine kK ⟨zB4 _,rfl,?_,rfl⟩;show [Row.vec 3 1 0 eI p]=[Row.vec 3 1 0 eI (bW p (Y2 p n) 0)]
  rw[xI]
 ·intro k hk;conv=>whnf
  refine⟨fun h=>?_,fun h=>?_⟩
  ·have h:=zA1 h;have a1:=mz hp k va5;have a2:=qX hn k va5;conv=>whnf
   refine⟨⟨va5,va5⟩,vb3 ?_⟩;refine⟨⟨va5,by rw[T3];omega⟩,vb3 ?_⟩;refine⟨by rw[T3];omega,vb3 ?_⟩;refine⟨⟨va5,by rw[T3];omega⟩,vb3 ?_⟩;refine⟨Y2 p n k,?_,by rw[T3];omega,?_⟩
   ·have e1:(bW p (Y2 p n) k).getD (Int.toNat (k:Int)) 0=p.getD k 0:=by
     show(bW p (Y2 p n) k).getD k 0=_
     rw[xH p _ k k va5];simp
    rw[e1,z5 (p.getD k 0+n.getD (Int.toNat (k:Int)) 0) (by show _<=p.getD k 0+n.getD k 0;omega) (by show p.getD k 0+n.getD k 0<=_;omega)];rfl
   conv=>whnf
   refine⟨k+1,vb3 ?_⟩;refine kK ⟨⟨Nat.sub_lt_sub_left va5 (Nat.lt_succ_self k),va5⟩,?_,?_,rfl⟩
   ·rw[z5 _ va5 va5];rfl
   ·show [Row.vec _ 1 0 eI ((bW p (Y2 p n) k).set k (Y2 p n k))]=_
    rw[xJ]
  ·have h:=zA0 h;obtain rfl:k=p.length:=by omega
   conv=>whnf
   refine⟨[8],va4,vb3 ?_⟩;refine⟨rfl,?_⟩;show [Row.vec _ 1 0 eI (bW p (Y2 p n) p.length)]=_
   rw[CB];rfl
theorem JM(p n:List Int)(hpn:p.length=n.length)(hl:p.length<2^30)(hp:p.any nX=false)(hn:n.any cU=false):va6 88 [A9 p,A9 n] (A9 (K8 p n)):=by
 refine vb4 Tryz.func88 ?_;refine Or.inr ⟨Nat,[6],[],[(5,⟨Int,3,1,0,eI⟩)],fun i=>[i64 i],fun _=>[],fun i=>[.vec 3 1 0 eI ((List.range i).map (Y2 p n))],fun i=>p.length-i,fun i=>i<=p.length,vb3 ?_⟩;refine⟨⟨0,?_⟩,?_⟩
 ·(conv=>whnf);exact kK ⟨zB4 _,rfl,rfl,rfl⟩
 ·intro k hk;conv=>whnf
  refine⟨fun h=>?_,fun h=>?_⟩
  ·have h:=zA1 h;have a1:=mz hp k va5;have a2:=qX hn k va5;conv=>whnf
   refine ve4 ?_;intros;refine⟨⟨Int,1,0,eI,(List.range k).map (Y2 p n)⟩,[Y2 p n k],rfl,rfl,⟨rfl,?_⟩,?_,?_,fun y _=>⟨rfl,rfl,rfl⟩,?_⟩
   ·rw[z5 (p.getD (Int.toNat (k:Int)) 0+n.getD (Int.toNat (k:Int)) 0) (by show _<=p.getD k 0+n.getD k 0;omega) (by show p.getD k 0+n.getD k 0<=_;omega)];show [[i64 _]]=[[i64 (Jm (p.getD k 0+n.getD k 0))]]
    rw[Hk];rfl
   ·show(((List.range k).map (Y2 p n)).length+1)*8<=_;simp;omega
   ·show((List.range k).map (Y2 p n)).length+1<=_;simp;omega
   conv=>whnf
   refine ve4 ?_;intros;refine⟨k+1,vb3 ?_⟩;refine kK ⟨⟨Nat.sub_lt_sub_left va5 (Nat.lt_succ_self k),va5⟩,?_,rfl,?_⟩
   ·rw[z5 _ va5 va5];rfl
   ·show [Row.vec _ 1 0 eI ((List.range k).map (Y2 p n)++[Y2 p n k])]=[Row.vec _ 1 0 eI ((List.range (k+1)).map (Y2 p n))]
    rw[List.range_succ,List.map_append];rfl
  ·have h:=zA0 h;obtain rfl:k=p.length:=by omega
   conv=>whnf
   rfl
def fg(p n:List Int):Prop:=H8 p=true/\p.length=n.length/\n.any cU=false
theorem FJ(p n:List Int)(h:fg p n):va7 114 [A9 p,A9 n] [] (.tup [.own 0,i64 0]) [.vec 3 1 0 eI (K8 p n)]:=by
 obtain⟨h1,h2,h3⟩:=h;have hl:=M3 h1;have hv:=uf h1;have c1:=dp p va5;rw[h1,if_pos rfl]at c1;have c2:=bV _ cU qW n va5;rw[h3]at c2;have h0:p≠[]:=by rintro rfl;simp at hl
 refine vb5 Tryz.func114 ?_;refine vc6 ?_;intros
 (first|(refine Or.inl ?_;(conv=>whnf);refine⟨_,uU n,?_⟩)|refine⟨_,uU n,?_⟩)
 conv=>whnf
 refine va2 [] [26] (vb3 ?_);refine va3 [] (Df p n h0 va5 h2 hv h3) (vb3 ?_);refine⟨[26],va4,vb3 ?_⟩;exact⟨rfl,rfl⟩
theorem uV(p n:List Int)(hp:p.length<2^40)(hn:n.length<2^40)(h:¬ fg p n):va6 114 [A9 p,A9 n] (.tup [.nils,i64 (if H8 p then 2 else 50)]):=by
 unfold fg at h;have c1:=dp p hp;have c2:=bV _ cU qW n hn;refine vb4 Tryz.func114 ?_;by_cases h1:H8 p=true
 ·rw[h1,if_pos rfl];rw[h1,if_pos rfl]at c1;refine vc6 ?_;intros;refine(h ⟨h1,?_,?_⟩).elim
  ·omega
  ·assumption
 ·rw[if_neg h1];rw[if_neg h1]at c1;try exact va1
structure B5 where
 kind:Int
 k7:Int
 a7:Int
 n:Int
 n4:Int
 j9:v7
 o8:List Int
 a8:List Int
structure dO where
 id:Int
 seq:Int
 o5:Int
 hit:Bool
 out:Bool
structure oE where
 e:Int
 n:Int
 o9:List dO
structure Z9 where
 id:Int
 o5:Int
 hit:Bool
def aa:dO:=⟨0,0,0,false,false⟩
def Vh:oE:=⟨0,0,[]⟩
def aP:Z9:=⟨0,0,false⟩
def a1t:B5:=⟨0,0,0,0,0,NA,[],[]⟩
def Vi(o:B5):List AV:=[u8 o.kind,i64 o.k7,i64 o.a7,i64 o.n,u8 o.n4,i64 (G2 o.j9),i64 (E7 o.j9),i64 (I6 o.j9).1.1,i64 (I6 o.j9).1.2,i64 (I6 o.j9).2.1,i64 (I6 o.j9).2.2,i64 o.j9.1.2.1,i64 o.j9.1.2.2,i64 o.j9.2.1,i64 o.j9.2.2,A9 o.o8,A9 o.a8]
abbrev ord(o:B5):AV := .agg (Vi o)
def fi(o:dO):List AV:=[i64 o.id,i64 o.seq,u8 o.o5,.bool o.hit,.bool o.out]
abbrev o9(l:List dO):AV := .sl 5 aa fi l
def aQ(o:Z9):List AV:=[i64 o.id,u8 o.o5,.bool o.hit]
abbrev lU(l:List Z9):AV := .sl 3 aP aQ l
def Yt(a:oE):List AV:=[i64 a.e,i64 a.n,o9 a.o9]
abbrev bw(a:oE):AV := .agg (Yt a)
def rD(g:v7):Bool:=decide (G2 g=0/\E7 g=0/\(I6 g).1.1=0/\(I6 g).1.2=0/\(I6 g).2.1=0/\(I6 g).2.2=0/\g.1.2.1=0/\g.1.2.2=0/\g.2.1=0/\g.2.2=0)
def K9(o:B5):Bool :=
 decide ((1<=o.kind/\o.kind<=10)/\(o.kind<=3->o.k7=0)/\(o.kind<=4∨o.kind=7∨o.kind=10->o.a7=0)/\(3<=o.kind->o.n=0)/\(o.kind≠3->o.n4=0) /\
  (o.kind≠2->o.o8.length+o.a8.length=0)) && (decide (o.kind=4) || rD o.j9)
def Y3(q:Int)(x:u6):Bool:=decide (x.id=q)
def fv(t:r9)(q v:Int):Int :=
 if v<1∨3<v then 2 else if ¬t.k9.any (Y3 q)=true then 6 else
  if ¬(t.k9.getD (t.k9.findIdx (Y3 q)) l9).o5=0∨(t.k9.getD (t.k9.findIdx (Y3 q)) l9).cnt+Y1 t.m0 t.m0.w9<=t.count then 91 else 0
def Vj(x:u6)(v:Int):u6:=⟨x.id,x.cnt,v,x.hit⟩
def wE(t:r9)(q v:Int):r9:=⟨t.m0,t.count,t.next,t.k9.set (t.k9.findIdx (Y3 q)) (Vj (t.k9.getD (t.k9.findIdx (Y3 q)) l9) v)⟩
def uW(t:r9)(x:B7):r9:=if x.o5=0∨¬x.due=t.count then t else if fv t x.id x.o5=0 then wE t x.id x.o5 else t
def ir(t:r9)(l:List B7):r9:=l.foldl uW t
def K2(b:H2)(x:u6)(n:Int):Bool:=decide (x.cnt+Y1 b b.w9<=n) && decide (n<=x.cnt+M4 b b.w9)
def N5(t:r9)(n:Int):Bool:=t.k9.any fun x => !decide (x.o5=1) && K2 t.m0 x n
def G5(b:H2)(op:Bool)(n:Int)(x:u6):u6:=⟨x.id,x.cnt,x.o5,x.hit || (op && K2 b x n)⟩
def I9(t:r9):Bool:=decide (0<t.k9.length/\(t.k9.getD 0 l9).cnt+M4 t.m0 t.m0.w9=t.count+1)
def hits(t:r9):List u6:=t.k9.map (G5 t.m0 (N5 t (t.count+1)) (t.count+1))
def W9(t:r9):r9:=⟨t.m0,t.count+1,t.next,if I9 t=true then(hits t).drop 1 else hits t⟩
def bH(x:u6):Z9:=⟨x.id,x.o5,x.hit⟩
def aW(t:r9):List Z9:=if I9 t=true then [bH ((hits t).getD 0 l9)]else []
def jA(t:r9):Int:=if 0<t.k9.length/\(t.k9.getD (t.k9.length-1) l9).cnt=t.count then 91 else if t.k9.length=32∨t.next=1099511627776 then 9 else 0
def oF(t:r9):r9:=⟨t.m0,t.count,t.next+1,t.k9++[⟨t.next,t.count,0,false⟩]⟩
def wF(l:K1)(d:Q5)(hit:Bool):Q5 :=
 ⟨if hit=true then d.hits+1 else d.hits,d.rounds+1,d.alarm || Oc l.p.toNat l.q.toNat l.al.1.toNat l.al.2.toNat (if hit=true then d.hits+1 else d.hits).toNat (d.rounds+1).toNat⟩
def fj:Q5:=⟨0,0,false⟩
def dy(b:H2)(op:Bool)(n:Int)(x:B7):B7:=⟨x.id,x.front+n,x.len,x.o5,x.due,x.seq,x.out || (op && (decide (b.w9<=x.front+n) && decide (x.front<=b.w9+x.len)))⟩
def bz(w:n8)(n:Int):Int:=if ¬(w.line.m0.step-w.line.m0.v8<=n/\n<=w.line.m0.step+w.line.m0.v8)then 2 else if w.o6.count=1099511627776 then 9 else 0
def s7(w:n8):r9:=ir w.o6 w.k8
def moved(w:n8)(n:Int):List B7:=w.k8.map (dy w.line.m0 (N5 (s7 w) (w.o6.count+1)) n)
def Od(x:B7)(f:Z9):dO:=⟨x.id,x.seq,f.o5,f.hit,x.out⟩
def cj(w:n8)(n:Int):List dO:=if I9 (s7 w)=true then [Od ((moved w n).getD 0 l5) (bH ((hits (s7 w)).getD 0 l9))]else []
def gz(w:n8)(n:Int):n8:=⟨w.line,W9 (s7 w),w.n6,w.drift,if I9 (s7 w)=true then(moved w n).drop 1 else moved w n⟩
instance (p n:List Int):Decidable (fg p n):=by unfold fg;infer_instance
def mM(w:n8)(o:B5):Int:=if ¬(fg o.o8 o.a8/\(0<=o.n/\o.n<=w.line.m0.len))then 2 else if w.drift.alarm=true then 101 else jA w.o6
def Vk(w:n8)(o:B5):B7:=⟨w.o6.next,0,o.n,0,w.o6.count+w.line.lag,-1,false⟩
def wG(w:n8)(o:B5):Prop:=ij w.n6 w.o6.next (K8 o.o8 o.a8)=0
instance (w:n8)(o:B5):Decidable (wG w o):=by unfold wG;infer_instance
def Yu(w:n8)(o:B5):Int:=(E8 (gj w.n6) (K8 o.o8 o.a8)).2.1
def qe(d:Q5):Q5:=if d.rounds=500 then fj else d
def jB(w:n8)(o:B5):n8 :=
 if wG w o then⟨w.line,oF w.o6,lE w.n6 w.o6.next (K8 o.o8 o.a8),wF w.line (qe w.drift) (!decide (Yu w o=1)),w.k8++[⟨w.o6.next,0,o.n,Yu w o,w.o6.count+w.line.lag,w.n6.next,false⟩]⟩
 else⟨w.line,oF w.o6,w.n6,w.drift,w.k8++[Vk w o]⟩
def fw(w:n8)(k7:Int):Int:=if ¬(0<=k7/\k7<=(w.n6.n5.length:Int)-1)then 6 else if ¬w.n6.n5.getD k7.toNat 0=3 then 100 else 0
def Dg(w:n8):n8:=⟨w.line,w.o6,w.n6,fj,w.k8⟩
def Yv(o:B5):Ay:=⟨if o.kind<=7 then o.kind-3 else o.kind-2,o.k7,o.a7,o.n4,o.j9,[]⟩
def cV(w:n8)(b:n9):n8:=⟨w.line,w.o6,b,w.drift,w.k8⟩
def a1u(b:n9)(o:B5):Int:=if o.kind=3 then b.n5.length else if o.kind=4 then b.j8.length else 0
def I7(w:n8)(o:B5):Int:=if o.kind=1 then bz w o.n else if o.kind=2 then mM w o else if o.kind=10 then fw w o.k7 else Yq w.n6 (Yv o)
def JN(w:n8)(o:B5):n8:=if o.kind=1 then gz w o.n else if o.kind=2 then jB w o else if o.kind=10 then Dg w else cV w (Ve w.n6 (Yv o))
def Rt(w:n8)(o:B5):Int:=if o.kind=1 then w.o6.count+1 else if o.kind=2 then w.o6.next else if o.kind=10 then 0 else a1u w.n6 o
def FK(w:n8)(o:B5):List dO:=if o.kind=1 then cj w o.n else []
def R9(w:n8)(o:B5):n8:=if I7 w o=0 then JN w o else w
def Q6(w:n8)(o:B5):oE:=if I7 w o=0 then⟨0,Rt w o,FK w o⟩else⟨I7 w o,0,[]⟩
def Oe(l:K1):n8:=⟨l,⟨l.m0,0,0,[]⟩,⟨l.keep,[],[],0,[]⟩,fj,[]⟩
def Vl(t:r9)(s:u6):Prop :=
 (0<=s.id/\s.id<t.next)/\(0<=s.cnt/\s.cnt<=t.count/\t.count<s.cnt+M4 t.m0 t.m0.w9)/\s.o5<=3/\(s.hit=true->s.cnt+Y1 t.m0 t.m0.w9<=t.count)
def uX(s s':u6):Prop:=s.id<s'.id/\s.cnt<s'.cnt
structure S5 (t:r9):Prop where
 bl:J3 t.m0=true
 ct:0<=t.count/\t.count<=1099511627776
 nx:0<=t.next/\t.next<=1099511627776
 ln:t.k9.length<=32
 up:List.Pairwise uX t.k9
 sn:∀ s,s ∈ t.k9->Vl t s
theorem Y4{n:Nat}{p:Nat->Bool}:(List.range n).all p=true↔∀ i,i<n->p i=true:=by
 rw[List.all_eq_true];exact⟨fun h i hi=>h i (List.mem_range.2 hi),fun h i hi=>h i (List.mem_range.1 hi)⟩
theorem C7{t:r9}:V0 t=0↔S5 t:=by
 rw[aO];unfold fc;rw[zA2,im,Y4]
 constructor
 ·rintro⟨hb,⟨hc,hn,hl⟩,h⟩;have low:∀ i,i<t.k9.length -> -1<=(P5 t.k9 i).id /\ -1<=(P5 t.k9 i).cnt:=fun i hi=>by
   have:=uP (t:=t) (k:=i) fun j hj=>h j va5
   omega
  have okI:=fun i hi=>km.1 (h i hi)
  refine⟨hb,hc,hn,hl,?_,?_⟩
  ·have up:∀ j,j<t.k9.length->∀ i,i<j->uX (t.k9.getD i l9) (t.k9.getD j l9):=by
    intro j
    induction j with
    | zero=>intro _ i hi;exact absurd hi (zB3 i)
    | succ j ih =>
     intro hj i hi;have a:=okI (j+1) hj;rw[eZ]at a;by_cases e:i=j
     ·subst e;exact⟨a.1,a.2.2.1⟩
     ·have:=ih va5 i va5;exact⟨by have:=this.1;omega,by have:=this.2;omega⟩
   refine List.pairwise_iff_getElem.2 fun i j hi hj Bd=>?_
   have:=up j hj i Bd;rwa[A6 hi,A6 hj]at this
  ·intro s hs;obtain⟨i,hi,e⟩:=List.getElem_of_mem hs;have a:=okI i hi;have b:=low i hi;rw[A6 hi,e]at a;exact⟨⟨va5,a.2.1⟩,⟨va5,a.2.2.2.1,a.2.2.2.2.1⟩,a.2.2.2.2.2.1,a.2.2.2.2.2.2⟩
 ·intro g;refine⟨g.bl,⟨g.ct,g.nx,g.ln⟩,fun i hi=>km.2 ?_⟩;have s:=g.sn _ (List.getElem_mem hi);rw[A6 hi];obtain⟨s1,s2,s3,s4⟩:=s;cases i with
  | zero =>
   rw[FD];exact⟨by show(-1:Int)<_;omega,s1.2,by show(-1:Int)<_;omega,s2.2.1,s2.2.2,s3,s4⟩
  | succ i =>
   rw[eZ,A6 (show i<t.k9.length by omega)];have:=List.pairwise_iff_getElem.1 g.up i (i+1) va5 hi va5;exact⟨this.1,s1.2,this.2,s2.2.1,s2.2.2,s3,s4⟩
def sv(w:n8)(x:B7)(s:u6):Prop :=
 x.id=s.id/\(0<=x.len/\x.len<=w.line.m0.len)/\((w.o6.count-s.cnt)*(w.line.m0.step-w.line.m0.v8)<=x.front/\x.front<=(w.o6.count-s.cnt)*(w.line.m0.step+w.line.m0.v8)) /\
  x.o5<=3/\(0<=x.due/\x.due<=1099511627876)/\(-1<=x.seq/\x.seq<=w.n6.next-1)
structure C9 (w:n8):Prop where
 ln:bG w.line=0
 bl:w.o6.m0=w.line.m0
 kp:w.n6.keep=w.line.keep
 lt:w.k8.length=w.o6.k9.length
 df:bn w.drift=true
 tk:S5 w.o6
 bk:P4 w.n6
 th:∀ i,i<w.k8.length->sv w (w.k8.getD i l5) (w.o6.k9.getD i l9)
theorem bo{w:n8}:jz w=0↔C9 w:=by
 unfold jz
 constructor
 ·intro h;by_cases hl:bG w.line=0
  ·rw[if_pos hl]at h;by_cases hw:lF w=true
   ·unfold lF at hw;simp only[zA2]at hw;obtain⟨h1,h2,h3,h4⟩:=hw;obtain⟨o1,o2,o3,o4⟩:=iq.1 h1;have ob:=kn o1;refine⟨hl,ob,o2,va5,o4,C7.1 (aO.2 ⟨by rw[ob];exact(aA hl).1,h2⟩),il.1 h3,fun i hi=>?_⟩;have:=sr.1 (Y4.1 h4 i hi);exact this
   ·rw[if_neg hw]at h;cases h
  ·rw[if_neg hl]at h;exact absurd h hl
 ·intro g;rw[if_pos g.ln];have:lF w=true:=by
   unfold lF;simp only[zA2];refine⟨iq.2 ⟨by rw[g.bl];exact gy _,g.kp,by rw[g.lt],g.df⟩,(aO.1 (C7.2 g.tk)).2,il.2 g.bk,Y4.2 fun i hi=>sr.2 (g.th i hi)⟩
  rw[if_pos this]
theorem Of{α:Type}{R:α->α->Prop}{d y:α}{l:List α}{i:Nat}(hR:∀ z,(R (l.getD i d) z->R y z)/\(R z (l.getD i d)->R z y))(h:List.Pairwise R l):List.Pairwise R (l.set i y):=by
 by_cases hi:i<l.length
 ·refine List.pairwise_iff_getElem.2 fun a b ha hb hab=>?_
  have Uh:a<l.length:=by simpa using ha
  have oV:b<l.length:=by simpa using hb
  have:=List.pairwise_iff_getElem.1 h a b Uh oV hab;rw[List.getElem_set,List.getElem_set];by_cases e1:i=a
  ·rw[if_pos e1,if_neg va5];exact(hR _).1 (by rw[A6 hi];simpa[e1]using this)
  ·rw[if_neg e1];by_cases e2:i=b
   ·rw[if_pos e2];exact(hR _).2 (by rw[A6 hi];simpa[e2]using this)
   ·rw[if_neg e2];exact this
 ·rw[List.set_eq_of_length_le va5];exact h
theorem ya{t:r9}{q v:Int}(h:fv t q v=0):(1<=v/\v<=3)/\t.k9.any (Y3 q)=true/\(t.k9.getD (t.k9.findIdx (Y3 q)) l9).o5=0/\t.count<(t.k9.getD (t.k9.findIdx (Y3 q)) l9).cnt+Y1 t.m0 t.m0.w9:=by
 unfold fv at h;by_cases h1:v<1∨3<v
 ·rw[if_pos h1]at h;cases h
 ·rw[if_neg h1]at h;by_cases h2:t.k9.any (Y3 q)=true
  ·rw[if_neg (fun e=>e h2)]at h;by_cases h3:¬(t.k9.getD (t.k9.findIdx (Y3 q)) l9).o5=0∨(t.k9.getD (t.k9.findIdx (Y3 q)) l9).cnt+Y1 t.m0 t.m0.w9<=t.count
   ·rw[if_pos h3]at h;cases h
   ·exact⟨va5,h2,Decidable.byContradiction fun e=>h3 (.inl e),by have:=fun e=>h3 (.inr e);omega⟩
  ·rw[if_pos h2]at h;cases h
theorem iu{q:Int}{l:List u6}(h:l.any (Y3 q)=true):l.findIdx (Y3 q)<l.length:=by
 obtain⟨x,hx,hp⟩:=List.any_eq_true.1 h;exact List.findIdx_lt_length_of_exists ⟨x,hx,hp⟩
theorem Og{t:r9}(g:S5 t){q v:Int}(h:fv t q v=0):S5 (wE t q v):=by
 obtain⟨hv,ha,_,_⟩:=ya h;have hi:=iu ha;unfold wE;generalize t.k9.findIdx (Y3 q)=i at *
 refine⟨g.bl,g.ct,g.nx,by simpa using g.ln,Of (d:=l9) (fun z=>⟨fun h=>h,fun h=>h⟩) g.up,fun s hs=>?_⟩;rcases List.mem_or_eq_of_mem_set hs with h1|h1
 ·exact g.sn s h1
 ·subst h1;have m:=g.sn _ (List.getElem_mem hi);rw[A6 hi];exact⟨m.1,m.2.1,hv.2,m.2.2.2⟩
theorem JO{t:r9}(g:S5 t)(x:B7):S5 (uW t x):=by
 unfold uW;by_cases h:x.o5=0∨¬x.due=t.count
 ·rw[if_pos h];exact g
 ·rw[if_neg h];by_cases e:fv t x.id x.o5=0
  ·rw[if_pos e];exact Og g e
  ·rw[if_neg e];exact g
def iv(t u:r9):Prop:=u.m0=t.m0/\u.count=t.count/\u.next=t.next/\u.k9.length=t.k9.length/\∀ i,(u.k9.getD i l9).id=(t.k9.getD i l9).id/\(u.k9.getD i l9).cnt=(t.k9.getD i l9).cnt/\(u.k9.getD i l9).hit=(t.k9.getD i l9).hit
theorem iv.refl(t:r9):iv t t:=⟨rfl,rfl,rfl,rfl,fun _=>⟨rfl,rfl,rfl⟩⟩
theorem iv.trans{t u v:r9}(h:iv t u)(k:iv u v):iv t v :=
 ⟨k.1.trans h.1,k.2.1.trans h.2.1,k.2.2.1.trans h.2.2.1,k.2.2.2.1.trans h.2.2.2.1,fun i=>⟨(k.2.2.2.2 i).1.trans (h.2.2.2.2 i).1,(k.2.2.2.2 i).2.1.trans (h.2.2.2.2 i).2.1,(k.2.2.2.2 i).2.2.trans (h.2.2.2.2 i).2.2⟩⟩
theorem JP{l:List u6}{i j:Nat}{y:u6}:(l.set i y).getD j l9=if i=j/\i<l.length then y else l.getD j l9:=by
 simp only[List.getD,List.getElem?_set];by_cases e:i=j
 ·subst e;by_cases h:i<l.length<;>simp[h]
 ·simp[e]
theorem JQ(t:r9)(q v:Int):iv t (wE t q v):=by
 refine⟨rfl,rfl,rfl,by simp[wE],fun j=>?_⟩;unfold wE;simp only[JP];by_cases h:t.k9.findIdx (Y3 q)=j/\t.k9.findIdx (Y3 q)<t.k9.length
 ·rw[if_pos h,h.1];exact⟨rfl,rfl,rfl⟩
 ·rw[if_neg h];exact⟨rfl,rfl,rfl⟩
theorem JR(t:r9)(x:B7):iv t (uW t x):=by
 unfold uW;by_cases h:x.o5=0∨¬x.due=t.count
 ·rw[if_pos h];exact iv.refl t
 ·rw[if_neg h];by_cases e:fv t x.id x.o5=0
  ·rw[if_pos e];exact JQ t _ _
  ·rw[if_neg e];exact iv.refl t
theorem qf(l:List B7):∀ t,iv t (ir t l):=by
 induction l with
 | nil=>intro t;exact iv.refl t
 | cons x l ih=>intro t;exact(JR t x).trans (ih _)
theorem qg(l:List B7):∀ t,S5 t->S5 (ir t l):=by
 induction l with
 | nil=>intro t g;exact g
 | cons x l ih=>intro t g;exact ih _ (JO g x)
theorem ab(t:r9):(hits t).length=t.k9.length:=by simp[hits]
theorem Y5(t:r9)(i:Nat)(hi:i<t.k9.length):(hits t).getD i l9=G5 t.m0 (N5 t (t.count+1)) (t.count+1) (t.k9.getD i l9):=by
 simp[hits,List.getD,List.getElem?_map,zA6 hi]
theorem ck{α:Type}{R:α->α->Prop}{d:α}{l:List α}(h:List.Pairwise R l){i j:Nat}(Bd:i<j)(hj:j<l.length):R (l.getD i d) (l.getD j d):=by
 have:=List.pairwise_iff_getElem.1 h i j va5 hj Bd;rwa[A6 (show i<l.length by omega),A6 hj]
theorem G6{α:Type}{d:α}{l:List α}{i:Nat}(hi:i<l.length):l.getD i d ∈ l:=by rw[A6 hi];exact List.getElem_mem hi
theorem FL{t:r9}(g:S5 t){i:Nat}(hi:i<t.k9.length)(h:(t.k9.getD i l9).cnt+M4 t.m0 t.m0.w9=t.count+1):i=0:=by
 by_cases e:i=0
 ·exact e
 ·have a:=g.sn _ (G6 (d:=l9) (show 0<t.k9.length by omega));have b:=(ck (d:=l9) g.up (show 0<i by omega) hi).2;have:=a.2.1.2.2;omega
theorem T4{t:r9}(g:S5 t):(hits t).filter (fun x => !decide (x.cnt+M4 t.m0 t.m0.w9=t.count+1))=(W9 t).k9/\(hits t).filter (fun x=>decide (x.cnt+M4 t.m0 t.m0.w9=t.count+1))=if I9 t=true then [(hits t).getD 0 l9]else []:=by
 have key:∀ i,(hi:i<t.k9.length)->(decide (((hits t).getD i l9).cnt+M4 t.m0 t.m0.w9=t.count+1)=(decide (i=0) && I9 t)):=by
  intro i hi;have e:((hits t).getD i l9).cnt=(t.k9.getD i l9).cnt:=by rw[Y5 t i hi];rfl
  rw[e];unfold I9;by_cases h:(t.k9.getD i l9).cnt+M4 t.m0 t.m0.w9=t.count+1
  ·obtain rfl:=FL g hi h;rw[zA4 h,zA4 (show 0<t.k9.length/\(t.k9.getD 0 l9).cnt+M4 t.m0 t.m0.w9=t.count+1 from⟨hi,h⟩)];rfl
  ·rw[zA5 h];by_cases e:i=0
   ·subst e;rw[zA5 (show ¬(0<t.k9.length/\(t.k9.getD 0 l9).cnt+M4 t.m0 t.m0.w9=t.count+1) from fun q=>h q.2)];rfl
   ·rw[zA5 e];rfl
 have hl:=ab t;have adv:(W9 t).k9=if I9 t=true then(hits t).drop 1 else hits t:=rfl
 rw[adv];cases hh:hits t with
 | nil =>
  have hz:I9 t=false:=zA5 fun q=>by
   rw[hh]at hl;simp at hl;omega
  rw[hz];simp
 | cons a l =>
  rw[hh]at key hl;have tail:∀ x,x ∈ l->decide (x.cnt+M4 t.m0 t.m0.w9=t.count+1)=false:=by
   intro x hx;obtain⟨i,hi,e⟩:=List.getElem_of_mem hx;have:=key (i+1) (by rw[<- hl,zB2];omega);have e2:(a :: l).getD (i+1) l9=x:=by simp[List.getD,zA6 hi,e]
   rw[e2]at this;rw[this];simp
  have head:decide (a.cnt+M4 t.m0 t.m0.w9=t.count+1)=I9 t:=by
   have:=key 0 (by rw[<- hl,zB2];omega);simpa using this
  have f1:l.filter (fun x => !decide (x.cnt+M4 t.m0 t.m0.w9=t.count+1))=l:=List.filter_eq_self.2 fun x hx=>by rw[tail x hx];rfl
  have f2:l.filter (fun x=>decide (x.cnt+M4 t.m0 t.m0.w9=t.count+1))=[]:=List.filter_eq_nil_iff.2 fun x hx=>by rw[tail x hx];decide
  rw[List.filter_cons,List.filter_cons,f1,f2,head];cases I9 t<;>simp
theorem AJ{w:n8}{o:B5}(h:I7 w o=0):Q6 w o=⟨0,Rt w o,FK w o⟩/\R9 w o=JN w o:=by
 unfold Q6 R9;rw[if_pos h,if_pos h];exact⟨rfl,rfl⟩
theorem sx{w:n8}{o:B5}(h:¬I7 w o=0):Q6 w o=⟨I7 w o,0,[]⟩/\R9 w o=w:=by
 unfold Q6 R9;rw[if_neg h,if_neg h];exact⟨rfl,rfl⟩
def uY(w:n8)(o:B5):Bool := !(decide (I7 w o=0) && decide (o.kind<=2))

end Go.Proofs.Tryz.My
