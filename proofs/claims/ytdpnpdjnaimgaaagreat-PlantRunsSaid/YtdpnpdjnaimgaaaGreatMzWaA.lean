/- Helper lemmas. -/
import Init
import Derived.Test.YtdpnpdjnaimgaaaGreatMzBnD
set_option linter.unusedVariables false
set_option linter.unusedSimpArgs false
set_option maxRecDepth 100000
set_option maxHeartbeats 0
namespace Go.Proofs.Tryz.My
open Go Go.Ev
structure G3 where
 step:Int
 A0:Int
 y9:Int
 len:Int
structure A5 where
 n8:G3
 lag:Int
 keep:Int
 p:Int
 q:Int
 al:Int×Int
structure x7 where
 id:Int
 cnt:Int
 o6:Int
 hit:Bool
structure TrackT where
 n8:G3
 count:Int
 next:Int
 k9:List x7
structure P8 where
 hits:Int
 rounds:Int
 alarm:Bool
structure B6 where
 id:Int
 front:Int
 len:Int
 o6:Int
 due:Int
 seq:Int
 out:Bool
structure n9 where
 line:A5
 o8:TrackT
 l9:o7
 drift:P8
 n6:List B6
def n4:x7:=⟨0,0,0,false⟩
def n5:B6:=⟨0,0,0,0,0,0,false⟩
def sK(b:G3):List AV:=[i64 b.step,i64 b.A0,i64 b.y9,i64 b.len]
def vu(l:A5):List AV:=[i64 l.n8.step,i64 l.n8.A0,i64 l.n8.y9,i64 l.n8.len,i64 l.lag,i64 l.keep,i64 l.p,i64 l.q,i64 l.al.1,i64 l.al.2]
def UE(l:A5):List AV:=[i64 l.p,i64 l.q,i64 l.al.1,i64 l.al.2]
def I1(s:x7):List AV:=[i64 s.id,i64 s.cnt,u8 s.o6,.bool s.hit]
def J6(x:B6):List AV:=[i64 x.id,i64 x.front,i64 x.len,u8 x.o6,i64 x.due,i64 x.seq,.bool x.out]
def eQ(d:P8):List AV:=[i64 d.hits,i64 d.rounds,.bool d.alarm]
abbrev U1(l:List x7):AV := .sl 4 n4 I1 l
abbrev ua(l:List B6):AV := .sl 7 n5 J6 l
def xT(t:TrackT):List AV:=[i64 t.n8.step,i64 t.n8.A0,i64 t.n8.y9,i64 t.n8.len,i64 t.count,i64 t.next,U1 t.k9]
def eW(w:n9):List AV:=[i64 w.line.n8.step,i64 w.line.n8.A0,i64 w.line.n8.y9,i64 w.line.n8.len,i64 w.line.lag,i64 w.line.keep,i64 w.line.p,i64 w.line.q,i64 w.line.al.1,i64 w.line.al.2,
 i64 w.o8.n8.step,i64 w.o8.n8.A0,i64 w.o8.n8.y9,i64 w.o8.n8.len,i64 w.o8.count,i64 w.o8.next,U1 w.o8.k9,
 i64 w.l9.keep,Iy w.l9.p9,pJ w.l9.recipes,i64 w.l9.next,mw w.l9.log,i64 w.drift.hits,i64 w.drift.rounds,.bool w.drift.alarm,ua w.n6]
abbrev fA(b:G3):AV := .agg (sK b)
abbrev jP(l:A5):AV := .agg (vu l)
abbrev VC(l:A5):AV := .agg (UE l)
abbrev sL(t:TrackT):AV := .agg (xT t)
abbrev eR(w:n9):AV := .agg (eW w)
def O2(b:G3):Bool:=decide ((1<=b.step/\b.step<=1000)/\(0<=b.A0/\b.A0<b.step)/\(1<=b.y9/\b.y9<=1000000)/\(1<=b.len/\b.len<=1000000))
theorem G1{b:G3}:O2 b=true↔(1<=b.step/\b.step<=1000)/\(0<=b.A0/\b.A0<b.step)/\(1<=b.y9/\b.y9<=1000000)/\(1<=b.len/\b.len<=1000000):=decide_eq_true_iff
def Dr(a:Int×Int):Bool:=r7 a && decide (0<a.1/\a.1<a.2/\a.2<=1073741824)
theorem Ok{a:Int×Int}:Dr a=true↔r7 a=true/\0<a.1/\a.1<a.2/\a.2<=1073741824:=by
 simp only[Dr,zA2,zA3]
def kj(l:A5):Bool:=decide (1<=l.p/\l.p<l.q/\l.q<=255) && Dr l.al
theorem Ld{l:A5}:kj l=true↔(1<=l.p/\l.p<l.q/\l.q<=255)/\Dr l.al=true:=by
 simp only[kj,zA2,zA3]
def J3(l:A5):Int:=if O2 l.n8=true then(if (1<=l.lag/\l.lag<=100)/\(1<=l.keep/\l.keep<=32)then(if kj l=true then 0 else 81)else 2)else 90
theorem K3{l:A5}(h:J3 l=0):O2 l.n8=true/\((1<=l.lag/\l.lag<=100)/\(1<=l.keep/\l.keep<=32))/\kj l=true:=by
 unfold J3 at h;split at h
 ·split at h
  ·split at h
   ·exact⟨by assumption,by assumption,by assumption⟩
   ·cases h
  ·cases h
 ·cases h
def V4(b:G3)(place:Int):Int:=Int.tdiv (place-1) (b.step+b.A0)+1
def N7(b:G3)(place:Int):Int:=Int.tdiv (place+b.len) (b.step-b.A0)+1
theorem bC{b:G3}(h:O2 b=true){place:Int}(h1:1<=place)(h2:place<=1000000):(1<=V4 b place/\V4 b place<=1000000)/\(1<=N7 b place/\N7 b place<=2000001):=by
 obtain⟨⟨a1,a2⟩,⟨b1,b2⟩,⟨c1,c2⟩,d1,d2⟩:=G1.1 h;unfold V4 N7;rw[Int.tdiv_eq_ediv_of_nonneg va5,Int.tdiv_eq_ediv_of_nonneg va5];have u1:0<=(place-1) / (b.step+b.A0):=Int.ediv_nonneg va5 va5;have u2:(place-1) / (b.step+b.A0)<=place-1:=Int.ediv_le_self _ va5;have v1:0<=(place+b.len) / (b.step-b.A0):=Int.ediv_nonneg va5 va5;have v2:(place+b.len) / (b.step-b.A0)<=place+b.len:=Int.ediv_le_self _ va5;omega
def Q5(l:List x7)(k:Nat):x7:=if k=0 then⟨-1,-1,0,false⟩else l.getD (k-1) n4
theorem Dt(l:List x7):Q5 l 0=⟨-1,-1,0,false⟩:=rfl
theorem gM(l:List x7)(k:Nat):Q5 l (k+1)=l.getD k n4:=by simp[Q5]
def ub(t:TrackT)(k:Nat):Bool :=
 decide ((Q5 t.k9 k).id<(t.k9.getD k n4).id/\(t.k9.getD k n4).id<t.next/\(Q5 t.k9 k).cnt<(t.k9.getD k n4).cnt/\(t.k9.getD k n4).cnt<=t.count/\t.count<(t.k9.getD k n4).cnt+N7 t.n8 t.n8.y9 /\
  (t.k9.getD k n4).o6<=3/\((t.k9.getD k n4).hit=true->(t.k9.getD k n4).cnt+V4 t.n8 t.n8.y9<=t.count))
theorem mI{t:TrackT}{k:Nat}:ub t k=true↔((Q5 t.k9 k).id<(t.k9.getD k n4).id/\(t.k9.getD k n4).id<t.next/\(Q5 t.k9 k).cnt<(t.k9.getD k n4).cnt/\(t.k9.getD k n4).cnt<=t.count/\t.count<(t.k9.getD k n4).cnt+N7 t.n8 t.n8.y9 /\
  (t.k9.getD k n4).o6<=3/\((t.k9.getD k n4).hit=true->(t.k9.getD k n4).cnt+V4 t.n8 t.n8.y9<=t.count)):=decide_eq_true_iff
def Rp(t:TrackT):Bool:=decide ((0<=t.count/\t.count<=1099511627776)/\(0<=t.next/\t.next<=1099511627776)/\t.k9.length<=32)
theorem mJ{t:TrackT}:Rp t=true↔(0<=t.count/\t.count<=1099511627776)/\(0<=t.next/\t.next<=1099511627776)/\t.k9.length<=32:=decide_eq_true_iff
def mK(t:TrackT):Bool:=Rp t && (List.range t.k9.length).all (ub t)
def eT(t:TrackT):Int:=if O2 t.n8=true then(if mK t=true then 0 else 8)else 90
theorem cU{t:TrackT}:eT t=0↔O2 t.n8=true/\mK t=true:=by
 unfold eT;split
 ·split
  ·exact⟨fun _=>⟨by assumption,by assumption⟩,fun _=>rfl⟩
  ·rename_i h;exact⟨fun q=>(by cases q),fun q=>absurd q.2 h⟩
 ·rename_i h;exact⟨fun q=>(by cases q),fun q=>absurd q.1 h⟩
theorem Aw{t:TrackT}{k:Nat}(h:∀ i,i<k->ub t i=true) : -1<=(Q5 t.k9 k).id /\ -1<=(Q5 t.k9 k).cnt/\(0<k->0<=(Q5 t.k9 k).id/\0<=(Q5 t.k9 k).cnt/\(Q5 t.k9 k).cnt<=t.count):=by
 induction k with
 | zero=>exact⟨Int.le_refl _,Int.le_refl _,fun h=>absurd h (Nat.lt_irrefl 0)⟩
 | succ k ih =>
  have a:=ih fun i hi=>h i va5
  have b:=mI.1 (h k va5);rw[gM];omega
def Z4(d:P8):Bool:=decide ((0<=d.hits/\d.hits<=d.rounds)/\d.rounds<=500)
theorem nV{d:P8}:Z4 d=true↔(0<=d.hits/\d.hits<=d.rounds)/\d.rounds<=500:=decide_eq_true_iff
def T4(a b:G3):Prop:=a.step=b.step/\a.A0=b.A0/\a.y9=b.y9/\a.len=b.len
instance (a b:G3):Decidable (T4 a b):=by unfold T4;infer_instance
def bW(a b:A5):Prop:=T4 a.n8 b.n8/\a.lag=b.lag/\a.keep=b.keep/\a.p=b.p/\a.q=b.q/\a.al.1=b.al.1/\a.al.2=b.al.2
instance (a b:A5):Decidable (bW a b):=by unfold bW;infer_instance
def kl(a b:x7):Bool:=decide (a.id=b.id/\a.cnt=b.cnt/\a.o6=b.o6) && (a.hit == b.hit)
def tg(a b:B6):Bool:=decide (a.id=b.id/\a.front=b.front/\a.len=b.len/\a.o6=b.o6/\a.due=b.due/\a.seq=b.seq) && (a.out == b.out)
def sM(a b:P8):Bool:=decide (a.hits=b.hits/\a.rounds=b.rounds) && (a.alarm == b.alarm)
theorem Du(a:x7):kl a a=true:=by simp[kl]
theorem Ax(a:B6):tg a a=true:=by simp[tg]
theorem Dv(a:P8):sM a a=true:=by simp[sM]
theorem eV(a:G3):T4 a a:=⟨rfl,rfl,rfl,rfl⟩
theorem uc(a:A5):bW a a:=⟨eV _,rfl,rfl,rfl,rfl,rfl,rfl⟩
def kX(a b:TrackT):Bool:=decide (T4 a.n8 b.n8/\a.count=b.count/\a.next=b.next) && rW kl n4 a.k9 b.k9
theorem Ay(a:TrackT):kX a a=true:=by
 unfold kX;rw[zA4 ⟨eV _,rfl,rfl⟩,dm Du];rfl
def vw(a b:n9):Bool:=decide (bW a.line b.line) && (kX a.o8 b.o8 && (pj a.l9 b.l9 && (sM a.drift b.drift && rW tg n5 a.n6 b.n6)))
theorem gN(a:n9):vw a a=true:=by
 unfold vw;rw[zA4 (uc _),Ay,a2I,Dv,dm Ax];rfl
/- Numbers as digits to a base, the lowest first. A helper text: it speaks of no program. -/
def Om(B:Nat):Nat->Nat->List Nat
 | 0,_=>[]
 | f+1,n=>if n=0 then []else(n % B) :: Om B f (n / B)
def dg(B n:Nat):List Nat:=Om B n n
theorem mM(B f:Nat):Om B f 0=[]:=by cases f<;>simp[Om]
theorem Az{B:Nat}(hB:2<=B):∀ (f n g:Nat),n<=f->f<=g->Om B g n=Om B f n
 | 0,n,g,h,_=>by
  obtain rfl:n=0:=by omega
  rw[mM,mM]
 | f+1,n,g,h,hg=>by
  obtain⟨g,rfl⟩:∃ k,g=k+1:=⟨g-1,va5⟩
  by_cases e:n=0
  ·subst e;rw[mM,mM]
  ·simp only[Om,if_neg e];have:n / B<n:=Nat.div_lt_self va5 va5;rw[Az hB f (n / B) g va5 va5]
theorem jA(B:Nat):dg B 0=[]:=rfl
theorem nW{B n:Nat}(hB:2<=B)(h:0<n):dg B n=(n % B) :: dg B (n / B):=by
 obtain⟨k,rfl⟩:∃ k,n=k+1:=⟨n-1,va5⟩
 have:(k+1) / B<k+1:=Nat.div_lt_self va5 va5;show Om B (k+1) (k+1)=_
 rw[Om,if_neg va5,dg,Az hB ((k+1) / B) ((k+1) / B) k (Nat.le_refl _) va5]
def vl(B:Nat):List Nat->Nat
 | []=>0
 | d :: l=>d+B*vl B l
def Fh(B:Nat)(l:List Nat):Prop:=∀ d ∈ l,d<B
theorem AA{B:Nat}(hB:2<=B)(n:Nat):vl B (dg B n)=n:=by
 induction n using Nat.strongRecOn with
 | ind n ih =>
  by_cases e:n=0
  ·subst e;rfl
  ·have:n / B<n:=Nat.div_lt_self va5 va5;rw[nW hB va5,vl,ih _ this];exact Nat.mod_add_div n B
theorem xV{B:Nat}(hB:2<=B)(n:Nat):Fh B (dg B n):=by
 induction n using Nat.strongRecOn with
 | ind n ih =>
  by_cases e:n=0
  ·subst e;intro d h;cases h
  ·have:n / B<n:=Nat.div_lt_self va5 va5;rw[nW hB va5];intro d h;rcases List.mem_cons.1 h with rfl|h
   ·exact Nat.mod_lt _ va5
   ·exact ih _ this d h
theorem Rq{B:Nat}(hB:2<=B){n:Nat}(h:dg B n=[]):n=0:=by
 have:=AA hB n;rw[h]at this;exact this.symm
def hX:List Nat->List Nat
 | []=>[]
 | d :: l=>match hX l with
  | []=>if d=0 then []else [d]
  | e :: m=>d :: e :: m
theorem Fi{B:Nat}(hB:2<=B):∀ {l:List Nat},Fh B l->hX l=dg B (vl B l)
 | [],_=>rfl
 | d :: l,h=>by
  have ih:=Fi hB (l:=l) fun x hx=>h x (List.mem_cons_of_mem _ hx)
  have hd:d<B:=h d (List.mem_cons_self ..);rw[hX,ih,vl];cases hv:dg B (vl B l)with
  | nil =>
   have e:=Rq hB hv;rw[e];by_cases h0:d=0
   ·subst h0;simp[jA]
   ·simp only[if_neg h0,Nat.mul_zero,Nat.add_zero];rw[nW hB va5,Nat.mod_eq_of_lt hd,Nat.div_eq_of_lt hd,jA]
  | cons e m =>
   have hp:0<vl B l:=Nat.pos_of_ne_zero fun q=>by rw[q,jA]at hv;cases hv
   have hq:0<B*vl B l:=Nat.mul_pos va5 hp;show d :: e :: m=_
   rw[nW (n:=d+B*vl B l) hB va5,Nat.add_mul_mod_self_left,Nat.mod_eq_of_lt hd,Nat.add_mul_div_left _ _ va5,Nat.div_eq_of_lt hd,Nat.zero_add,hv]
theorem Hm{l:List Nat}{k:Nat}(h:∀ j,k<=j->l.getD j 0=0):hX l=hX (l.take k):=by
 induction l generalizing k with
 | nil=>rw[List.take_nil]
 | cons d l ih =>
  cases k with
  | zero =>
   have e:=ih (k:=0) fun j _=>by have:=h (j+1) va5;simpa using this
   have h0:d=0:=by simpa using h 0 va5
   rw[List.take_zero]at e ⊢;have e:hX l=[]:=e;simp only[hX,e,h0,if_true]
  | succ k =>
   have e:=ih (k:=k) fun j hj=>by have:=h (j+1) va5;simpa using this
   rw[List.take_succ_cons];simp only[hX,e]
theorem Hn{l:List Nat}{k:Nat}(hk:k<l.length)(hl:l.length=k+1)(h:l.getD k 0≠0):hX l=l:=by
 induction l generalizing k with
 | nil=>rfl
 | cons d l ih =>
  cases k with
  | zero =>
   obtain rfl:l=[]:=List.length_eq_zero_iff.1 (by simpa using hl);have h0:d≠0:=by simpa using h
   simp[hX,h0]
  | succ k =>
   have e:=ih (k:=k) (by simpa using hk) (by simpa using hl) (by simpa using h);rw[hX,e];cases l with
   | nil=>simp at hl
   | cons=>rfl
theorem qe{B:Nat}:∀ (l:List Nat) (k:Nat),vl B (l.take (k+1))=vl B (l.take k)+l.getD k 0*B^k
 | [],k=>by simp[vl]
 | d :: l,0=>by simp[vl]
 | d :: l,k+1=>by
  rw[List.take_succ_cons,List.take_succ_cons,vl,vl,qe l k];have e:(d :: l).getD (k+1) 0=l.getD k 0:=by simp
  rw[e,Nat.pow_succ,Nat.mul_add];have:B*(l.getD k 0*B^k)=l.getD k 0*(B^k*B):=by rw[<- Nat.mul_assoc,Nat.mul_comm B,Nat.mul_assoc,Nat.mul_comm B]
  omega
theorem Fj{B:Nat}(hB:2<=B):∀ {l:List Nat},Fh B l->vl B l<B^l.length
 | [],_=>by simp[vl]
 | d :: l,h=>by
  have ih:=Fj hB (l:=l) fun x hx=>h x (List.mem_cons_of_mem _ hx)
  have hd:d<B:=h d (List.mem_cons_self ..);rw[vl,zB2,Nat.pow_succ,Nat.mul_comm (B^l.length)];have:B*(vl B l+1)<=B*B^l.length:=Nat.mul_le_mul_left _ ih;rw[Nat.mul_add]at this;omega
theorem Dw{B:Nat}:∀ {l:List Nat} {k:Nat} (v:Nat),k<l.length->vl B (l.set k v)+l.getD k 0*B^k=vl B l+v*B^k
 | d :: l,0,v,_=>by simp[vl];omega
 | d :: l,k+1,v,h=>by
  have ih:=Dw (B:=B) (l:=l) (k:=k) v (by simpa using h);have e:(d :: l).getD (k+1) 0=l.getD k 0:=by simp
  rw[List.set_cons_succ,vl,vl,e,Nat.pow_succ];have h1:l.getD k 0*(B^k*B)=B*(l.getD k 0*B^k):=by rw[<- Nat.mul_assoc,Nat.mul_comm]
  have h2:v*(B^k*B)=B*(v*B^k):=by rw[<- Nat.mul_assoc,Nat.mul_comm]
  rw[h1,h2];have:=congrArg (B * ·) ih;simp only[Nat.mul_add]at this;omega
theorem Fk{B:Nat}{l:List Nat}(h:Fh B l)(k:Nat){v:Nat}(hv:v<B):Fh B (l.set k v):=fun d hd=>by
 rcases List.mem_or_eq_of_mem_set hd with h1|h1
 ·exact h d h1
 ·subst h1;exact hv
theorem AB{B:Nat}(hB:0<B){l:List Nat}(h:Fh B l)(k:Nat):l.getD k 0<B:=by
 by_cases hk:k<l.length
 ·simp only[List.getD,zA6 hk,Option.getD_some];exact h _ (List.getElem_mem hk)
 ·simp[List.getD,zA7 (Nat.le_of_not_lt hk),hB]
theorem AD{B:Nat}{l:List Nat}(h:Fh B l)(k:Nat):Fh B (l.take k):=fun d hd=>h d (List.mem_of_mem_take hd)
theorem Dx{B:Nat}(hB:2<=B):∀ {k n:Nat},n<B^k->(dg B n).length<=k
 | 0,n,h=>by
  obtain rfl:n=0:=by simpa using h
  simp[jA]
 | k+1,n,h=>by
  by_cases e:n=0
  ·subst e;simp[jA]
  ·rw[nW hB va5,zB2];have:n / B<B^k:=Nat.div_lt_of_lt_mul (by rw[Nat.pow_succ,Nat.mul_comm]at h;exact h);have:=Dx hB this;omega
theorem a1Q{B:Nat}(hB:2<=B):∀ {k n:Nat},B^k<=n->k<(dg B n).length
 | 0,n,h=>by
  have e:B^0=1:=Nat.pow_zero B;rw[nW hB va5];simp
 | k+1,n,h=>by
  have hp:0<B^(k+1):=Nat.pow_pos va5;rw[nW hB va5,zB2];have:B^k<=n / B:=(Nat.le_div_iff_mul_le va5).2 (by rw[<- Nat.pow_succ];exact h);have:=a1Q hB this;omega
theorem vx{B:Nat}(hB:2<=B){a b:Nat}(h:(dg B a).length<(dg B b).length):a<b:=by
 have h1:=Fj hB (xV hB a);rw[AA hB]at h1;by_cases hb:b<B^(dg B a).length
 ·have:=Dx hB hb;omega
 ·omega
def Le(a b:List Nat):Nat->Bool
 | 0=>true
 | k+1=>if a.getD k 0=b.getD k 0 then Le a b k else decide (a.getD k 0<b.getD k 0)
theorem Lf{B:Nat}(hB:2<=B){a b:List Nat}(ha:Fh B a)(hb:Fh B b):∀ k,Le a b k=decide (vl B (a.take k)<=vl B (b.take k))
 | 0=>by simp[Le,vl]
 | k+1=>by
  rw[Le,qe,qe,Lf hB ha hb k];have pa:vl B (a.take k)<B^k:=by
   have:=Fj hB (AD ha k);exact zB5 this (Nat.pow_le_pow_right va5 (by rw[zB1];omega))
  have pb:vl B (b.take k)<B^k:=by
   have:=Fj hB (AD hb k);exact zB5 this (Nat.pow_le_pow_right va5 (by rw[zB1];omega))
  by_cases e:a.getD k 0=b.getD k 0
  ·rw[if_pos e,e];simp only[Nat.add_le_add_iff_right]
  ·rw[if_neg e];generalize a.getD k 0=x at *
   generalize b.getD k 0=y at *
   generalize B^k=q at *
   by_cases h:x<y
   ·have:(x+1)*q<=y*q:=Nat.mul_le_mul_right _ h;rw[Nat.add_mul,Nat.one_mul]at this;rw[zA4 h,eq_comm,zA3];omega
   ·have:(y+1)*q<=x*q:=Nat.mul_le_mul_right _ va5;rw[Nat.add_mul,Nat.one_mul]at this;rw[zA5 h,eq_comm,decide_eq_false_iff_not];omega
theorem Rr{B:Nat}(hB:2<=B){a b k:Nat}(ha:(dg B a).length<=k)(hb:(dg B b).length<=k):Le (dg B a) (dg B b) k=decide (a<=b):=by
 rw[Lf hB (xV hB a) (xV hB b),List.take_of_length_le ha,List.take_of_length_le hb,AA hB,AA hB]
def PO(f p h n:Nat):Nat:=f*p^h*(256-p)^(n-h)
theorem xW(m:Nat):(1073741824:Nat)*256^m=2^(30+8*m):=by
 rw[show(256:Nat)=2^8 from rfl,<- Nat.pow_mul,show(1073741824:Nat)=2^30 from rfl,<- Nat.pow_add]
theorem Lg{f p h n:Nat}(hf:f<=1073741824)(hp:p<=256)(hh:h<=n):PO f p h n<=2^(30+8*n):=by
 have h1:p^h<=256^h:=Nat.pow_le_pow_left va5 h;have h2:(256-p)^(n-h)<=256^(n-h):=Nat.pow_le_pow_left va5 _;have h3:PO f p h n<=f*256^h*256^(n-h):=Nat.mul_le_mul (Nat.mul_le_mul_left _ h1) h2;rw[Nat.mul_assoc f,<- Nat.pow_add,show h+(n-h)=n by omega]at h3;have h5:f*256^n<=1073741824*256^n:=Nat.mul_le_mul_right _ hf;rw[xW]at h5;exact Nat.le_trans h3 h5
theorem Rs{c a k N:Nat}(h:N<=2^a)(hc:0<c)(hk:a<c*k):(dg (2^c) N).length<=k:=by
 have h2:(2:Nat)<=2^c:=by
  have:=Nat.pow_le_pow_right (n:=2) va8 hc;simpa using this
 refine Dx h2 ?_;rw[<- Nat.pow_mul];exact Nat.lt_of_le_of_lt h (Nat.pow_lt_pow_right va8 hk)
def Rt(p q num den h n:Nat):Bool:=decide (PO den p h n<=PO num q h n)
theorem a0h(n lo hi:Int):va6 63 [i64 n,i64 lo,i64 hi] (.bool (D1 n lo hi)):=by
 refine pF Tryz.func63 ?_;conv=>whnf
 refine⟨fun h=>?_,fun h=>?_⟩<;>((conv=>whnf);simp_all [-decide_eq_true_eq,-decide_eq_false_iff_not,D1])
theorem sN(lo hi n:Int):va6 60 [i64 lo,i64 hi,i64 n] (.bool (D1 n lo hi)):=by
 refine pF Tryz.func60 ?_;conv=>whnf
 refine⟨fun h=>?_,fun h=>?_⟩<;>((conv=>whnf);simp_all [-decide_eq_true_eq,-decide_eq_false_iff_not,D1])
def lk(n:Int):Bool := !D1 n (-64) 64
theorem a0Y(n:Int):va6 83 [i64 n] (.bool (lk n)):=by
 refine pF Tryz.func83 ?_;conv=>whnf
 (first|(refine Or.inl ?_;(conv=>whnf);refine⟨_,sN (-64) 64 n,?_⟩)|refine⟨_,sN (-64) 64 n,?_⟩)
 conv=>whnf
 rfl
theorem a1R(p n:List Int)(hp:p.length<2^40)(hn:n.length<2^40):va6 182 [C8 p,C8 n] (.bool (decide (p.length=n.length) && !n.any lk)):=by
 refine pF Tryz.func182 ?_;conv=>whnf
 refine⟨fun h=>?_,fun h=>?_⟩
 ·(conv=>whnf);have:¬ p.length=n.length:=by simp at h;omega
  simp[this]
 have UF:p.length=n.length:=by simp at h;omega
 conv=>whnf
 refine Or.inr ⟨Nat,[5],[],[],fun k=>[i64 k],fun _=>[],fun _=>[],fun k=>n.length-k,fun k=>k<=n.length/\∀ i,i<k->lk (n.getD i 0)=false,?_⟩;conv=>whnf
 refine⟨⟨0,?_⟩,?_⟩
 ·(conv=>whnf);exact kK ⟨by simp,rfl,rfl,rfl⟩
 ·intro k hk;conv=>whnf
  refine⟨fun h=>?_,fun h=>?_⟩
  ·have h:=zA1 h;conv=>whnf
   refine⟨⟨va5,va5⟩,?_⟩;conv=>whnf
   (first|(refine Or.inl ?_;(conv=>whnf);refine⟨_,a0h _ _ _,?_⟩)|refine⟨_,a0h _ _ _,?_⟩)
   conv=>whnf
   refine⟨fun h2=>?_,fun h2=>?_⟩
   ·(conv=>whnf)
    congr 1
    have hm:lk (n.getD k 0)=true:=by simpa[lk]using h2
    have:n.any lk=true:=List.any_eq_true.2 ⟨n.getD k 0,by simp[List.getD,show k<n.length by omega],hm⟩;simp[this]
   ·refine⟨k+1,?_⟩;conv=>whnf
    refine kK ⟨⟨?_,?_,?_⟩,?_,rfl,rfl⟩
    ·show n.length-(k+1)<n.length-k;omega
    ·omega
    ·intro i hi;by_cases e:i=k
     ·subst e;simpa[lk]using h2
     ·exact hk.2 i va5
    ·rw[C7 _ va5 va5];rfl
  ·have h:=zA0 h;conv=>whnf
   congr 1
   have:n.any lk=false:=List.any_eq_false.2 fun x hx=>by
    obtain⟨i,hi,rfl⟩:=List.getElem_of_mem hx;have:=hk.2 i va5;simpa[List.getD,hi]using this
   simp[this,UF]
theorem sP(n:List Int):va6 85 [C8 n] (.fn (.func 139) [] [.pt [C8 n] 0]):=by
 refine pF Tryz.func85 ?_;conv=>whnf
def gO(p n:List Int)(i:Nat):Int:=Ks (p.getD i 0+n.getD i 0)
def H4(p n:List Int):List Int:=(List.range p.length).map (gO p n)
theorem aF(p n:List Int):(H4 p n).length=p.length:=by simp[H4]
theorem AE{l:List Int}(h:l.any lk=false)(i:Nat)(hi:i<l.length) : -64<=l.getD i 0/\l.getD i 0<=64:=by
 have:=zU h i hi;simp only[lk,D1,Bool.not_eq_false',zA2,zA3]at this;exact this
theorem AF(p n:List Int)(h0:p≠[])(hl:p.length<2^30)(UF:p.length=n.length)(hp:p.any Dd=false)(hn:n.any lk=false):va7 139 [C8 p,.pt [C8 n] 0] [] (.own 0) [.vec 3 1 0 eI (H4 p n)]:=by
 refine pW Tryz.func139 ⟨va4,?_⟩;conv=>whnf
 (refine va2 [] [8] ?_;(conv=>whnf);refine va3 [] (zR p h0 hl) ?_);conv=>whnf
 refine Or.inr ⟨Nat,[11],[8],[],fun k=>[i64 k],fun k=>[.vec 3 1 0 eI (bu p (gO p n) k)],fun _=>[],fun k=>n.length-k,fun k=>k<=n.length,?_⟩;conv=>whnf
 refine⟨⟨0,?_⟩,?_⟩
 ·(conv=>whnf);refine kK ⟨zB4 _,rfl,?_,rfl⟩;show [Row.vec 3 1 0 eI p]=[Row.vec 3 1 0 eI (bu p (gO p n) 0)]
  rw[uZ]
 ·intro k hk;conv=>whnf
  refine⟨fun h=>?_,fun h=>?_⟩
  ·have h:=zA1 h;have a1:=rO hp k va5;have a2:=AE hn k va5;conv=>whnf
   refine⟨⟨va5,va5⟩,?_⟩;conv=>whnf
   refine⟨⟨va5,by rw[R3];omega⟩,?_⟩;conv=>whnf
   refine⟨by rw[R3];omega,?_⟩;conv=>whnf
   refine⟨⟨va5,by rw[R3];omega⟩,?_⟩;conv=>whnf
   refine⟨gO p n k,?_,by rw[R3];omega,?_⟩
   ·have e1:(bu p (gO p n) k).getD (Int.toNat (k:Int)) 0=p.getD k 0:=by
     show(bu p (gO p n) k).getD k 0=_
     rw[uY p _ k k va5];simp
    rw[e1,C7 (p.getD k 0+n.getD (Int.toNat (k:Int)) 0) (by show _<=p.getD k 0+n.getD k 0;omega) (by show p.getD k 0+n.getD k 0<=_;omega)];rfl
   conv=>whnf
   refine⟨k+1,?_⟩;conv=>whnf
   refine kK ⟨⟨Nat.sub_lt_sub_left va5 (Nat.lt_succ_self k),va5⟩,?_,?_,rfl⟩
   ·rw[C7 _ va5 va5];rfl
   ·show [Row.vec _ 1 0 eI ((bu p (gO p n) k).set k (gO p n k))]=_
    rw[a1M]
  ·have h:=zA0 h;obtain rfl:k=p.length:=by omega
   conv=>whnf
   refine⟨[8],va4,?_⟩;conv=>whnf
   refine⟨rfl,?_⟩;show [Row.vec _ 1 0 eI (bu p (gO p n) p.length)]=_
   rw[zT];rfl
theorem a3c(p n:List Int)(UF:p.length=n.length)(hl:p.length<2^30)(hp:p.any Dd=false)(hn:n.any lk=false):va6 185 [C8 p,C8 n] (C8 (H4 p n)):=by
 refine pF Tryz.func185 ?_;conv=>whnf
 refine Or.inr ⟨Nat,[6],[],[(5,⟨Int,3,1,0,eI⟩)],fun i=>[i64 i],fun _=>[],fun i=>[.vec 3 1 0 eI ((List.range i).map (gO p n))],fun i=>p.length-i,fun i=>i<=p.length,?_⟩;conv=>whnf
 refine⟨⟨0,?_⟩,?_⟩
 ·(conv=>whnf);exact kK ⟨zB4 _,rfl,rfl,rfl⟩
 ·intro k hk;conv=>whnf
  refine⟨fun h=>?_,fun h=>?_⟩
  ·have h:=zA1 h;have a1:=rO hp k va5;have a2:=AE hn k va5;conv=>whnf
   refine vb8 ?_;(repeat intro hh);refine⟨⟨Int,1,0,eI,(List.range k).map (gO p n)⟩,[gO p n k],rfl,rfl,⟨rfl,?_⟩,?_,?_,fun y _=>⟨rfl,rfl,rfl⟩,?_⟩
   ·rw[C7 (p.getD (Int.toNat (k:Int)) 0+n.getD (Int.toNat (k:Int)) 0) (by show _<=p.getD k 0+n.getD k 0;omega) (by show p.getD k 0+n.getD k 0<=_;omega)];show [[i64 _]]=[[i64 (Ks (p.getD k 0+n.getD k 0))]]
    rw[a2S];rfl
   ·show(((List.range k).map (gO p n)).length+1)*8<=_;simp;omega
   ·show((List.range k).map (gO p n)).length+1<=_;simp;omega
   conv=>whnf
   refine vb8 ?_;(repeat intro hh);refine⟨k+1,?_⟩;conv=>whnf
   refine kK ⟨⟨Nat.sub_lt_sub_left va5 (Nat.lt_succ_self k),va5⟩,?_,rfl,?_⟩
   ·rw[C7 _ va5 va5];rfl
   ·show [Row.vec _ 1 0 eI ((List.range k).map (gO p n)++[gO p n k])]=[Row.vec _ 1 0 eI ((List.range (k+1)).map (gO p n))]
    rw[List.range_succ,List.map_append];rfl
  ·have h:=zA0 h;obtain rfl:k=p.length:=by omega
   conv=>whnf
   rfl
def fJ(p n:List Int):Prop:=L2 p=true/\p.length=n.length/\n.any lk=false
theorem Dy(p n:List Int)(h:fJ p n):va7 41 [C8 p,C8 n] [] (.tup [.own 0,i64 0]) [.vec 3 1 0 eI (H4 p n)]:=by
 obtain⟨h1,h2,h3⟩:=h;have hl:=M0 h1;have hv:=zV h1;have c1:=cE p va5;rw[h1,if_pos rfl]at c1;have c2:=bt _ lk a0Y n va5;rw[h3]at c2;have h0:p≠[]:=by rintro rfl;simp at hl
 refine pW Tryz.func41 ⟨va4,?_⟩;conv=>whnf
 refine vb7 ?_;(repeat intro hh)
 (first|(refine Or.inl ?_;(conv=>whnf);refine⟨_,sP n,?_⟩)|refine⟨_,sP n,?_⟩)
 conv=>whnf
 (refine va2 [] [26] ?_;(conv=>whnf);refine va3 [] (AF p n h0 va5 h2 hv h3) ?_);conv=>whnf
 refine⟨[26],va4,?_⟩;conv=>whnf
 exact⟨rfl,rfl⟩
theorem du(p n:List Int)(hp:p.length<2^40)(hn:n.length<2^40)(h:¬ fJ p n):va6 41 [C8 p,C8 n] (.tup [.nils,i64 (if L2 p then 2 else 50)]):=by
 unfold fJ at h;have c1:=cE p hp;have c2:=bt _ lk a0Y n hn;refine pF Tryz.func41 ?_;conv=>whnf
 by_cases h1:L2 p=true
 ·rw[h1,if_pos rfl];rw[h1,if_pos rfl]at c1;refine vb7 ?_;(repeat intro hh);refine(h ⟨h1,?_,?_⟩).elim
  ·omega
  ·assumption
 ·rw[if_neg h1];rw[if_neg h1]at c1;try exact va1
structure r8 where
 kind:Int
 j8:Int
 a7:Int
 n:Int
 j9:Int
 gauge:x8
 tru:List Int
 a8:List Int
structure V5 where
 id:Int
 seq:Int
 o6:Int
 hit:Bool
 out:Bool
structure bX where
 e:Int
 n:Int
 n7:List V5
structure km where
 id:Int
 o6:Int
 hit:Bool
def K4:V5:=⟨0,0,0,false,false⟩
def Y1:bX:=⟨0,0,[]⟩
def Lh:km:=⟨0,0,false⟩
def B7:r8:=⟨0,0,0,0,0,ao,[],[]⟩
def bD(o:r8):List AV:=[u8 o.kind,i64 o.j8,i64 o.a7,i64 o.n,u8 o.j9,i64 (H8 o.gauge),i64 (D9 o.gauge),i64 (J5 o.gauge).1.1,i64 (J5 o.gauge).1.2,i64 (J5 o.gauge).2.1,i64 (J5 o.gauge).2.2,i64 o.gauge.1.2.1,i64 o.gauge.1.2.2,i64 o.gauge.2.1,i64 o.gauge.2.2,C8 o.tru,C8 o.a8]
abbrev ord(o:r8):AV := .agg (bD o)
abbrev cG(l:List r8):AV := .sl 17 B7 bD l
def bE(o:V5):List AV:=[i64 o.id,i64 o.seq,u8 o.o6,.bool o.hit,.bool o.out]
abbrev n7(l:List V5):AV := .sl 5 K4 bE l
def AG(o:km):List AV:=[i64 o.id,u8 o.o6,.bool o.hit]
abbrev AH(l:List km):AV := .sl 3 Lh AG l
def xX(a:bX):List AV:=[i64 a.e,i64 a.n,n7 a.n7]
abbrev jB(a:bX):AV := .agg (xX a)
abbrev XE(l:List bX):AV := .sl 3 Y1 xX l
def Z5(g:x8):Bool:=decide (H8 g=0/\D9 g=0/\(J5 g).1.1=0/\(J5 g).1.2=0/\(J5 g).2.1=0/\(J5 g).2.2=0/\g.1.2.1=0/\g.1.2.2=0/\g.2.1=0/\g.2.2=0)
def B2(o:r8):Bool :=
 decide ((1<=o.kind/\o.kind<=10)/\(o.kind<=3->o.j8=0)/\(o.kind<=4∨o.kind=7∨o.kind=10->o.a7=0)/\(3<=o.kind->o.n=0)/\(o.kind≠3->o.j9=0) /\
  (o.kind≠2->o.tru.length+o.a8.length=0)) && (decide (o.kind=4) || Z5 o.gauge)
def W5(q:Int)(x:x7):Bool:=decide (x.id=q)
def mN(t:TrackT)(q v:Int):Int :=
 if v<1∨3<v then 2 else if ¬t.k9.any (W5 q)=true then 6 else
  if ¬(t.k9.getD (t.k9.findIdx (W5 q)) n4).o6=0∨(t.k9.getD (t.k9.findIdx (W5 q)) n4).cnt+V4 t.n8 t.n8.y9<=t.count then 91 else 0
def Ru(x:x7)(v:Int):x7:=⟨x.id,x.cnt,v,x.hit⟩
def xY(t:TrackT)(q v:Int):TrackT:=⟨t.n8,t.count,t.next,t.k9.set (t.k9.findIdx (W5 q)) (Ru (t.k9.getD (t.k9.findIdx (W5 q)) n4) v)⟩
def ud(t:TrackT)(x:B6):TrackT:=if x.o6=0∨¬x.due=t.count then t else if mN t x.id x.o6=0 then xY t x.id x.o6 else t
def jQ(t:TrackT)(l:List B6):TrackT:=l.foldl ud t
def aG(b:G3)(x:x7)(n:Int):Bool:=decide (x.cnt+V4 b b.y9<=n) && decide (n<=x.cnt+N7 b b.y9)
def cH(t:TrackT)(n:Int):Bool:=t.k9.any fun x => !decide (x.o6=1) && aG t.n8 x n
def S9(b:G3)(op:Bool)(n:Int)(x:x7):x7:=⟨x.id,x.cnt,x.o6,x.hit || (op && aG b x n)⟩
def N2(t:TrackT):Bool:=decide (0<t.k9.length/\(t.k9.getD 0 n4).cnt+N7 t.n8 t.n8.y9=t.count+1)
def hits(t:TrackT):List x7:=t.k9.map (S9 t.n8 (cH t (t.count+1)) (t.count+1))
def gP(t:TrackT):TrackT:=⟨t.n8,t.count+1,t.next,if N2 t=true then(hits t).drop 1 else hits t⟩
def ja(x:x7):km:=⟨x.id,x.o6,x.hit⟩
def nX(t:TrackT):List km:=if N2 t=true then [ja ((hits t).getD 0 n4)]else []
def nY(t:TrackT):Int:=if 0<t.k9.length/\(t.k9.getD (t.k9.length-1) n4).cnt=t.count then 91 else if t.k9.length=32∨t.next=1099511627776 then 9 else 0
def ue(t:TrackT):TrackT:=⟨t.n8,t.count,t.next+1,t.k9++[⟨t.next,t.count,0,false⟩]⟩
def sQ(l:A5)(d:P8)(hit:Bool):P8 :=
 ⟨if hit=true then d.hits+1 else d.hits,d.rounds+1,d.alarm || Rt l.p.toNat l.q.toNat l.al.1.toNat l.al.2.toNat (if hit=true then d.hits+1 else d.hits).toNat (d.rounds+1).toNat⟩
def X3:P8:=⟨0,0,false⟩
def nZ(b:G3)(op:Bool)(n:Int)(x:B6):B6:=⟨x.id,x.front+n,x.len,x.o6,x.due,x.seq,x.out || (op && (decide (b.y9<=x.front+n) && decide (x.front<=b.y9+x.len)))⟩
def ir(w:n9)(n:Int):Int:=if ¬(w.line.n8.step-w.line.n8.A0<=n/\n<=w.line.n8.step+w.line.n8.A0)then 2 else if w.o8.count=1099511627776 then 9 else 0
def v8(w:n9):TrackT:=jQ w.o8 w.n6
def moved(w:n9)(n:Int):List B6:=w.n6.map (nZ w.line.n8 (cH (v8 w) (w.o8.count+1)) n)
def Rv(x:B6)(f:km):V5:=⟨x.id,x.seq,f.o6,f.hit,x.out⟩
def aH(w:n9)(n:Int):List V5:=if N2 (v8 w)=true then [Rv ((moved w n).getD 0 n5) (ja ((hits (v8 w)).getD 0 n4))]else []
def X4(w:n9)(n:Int):n9:=⟨w.line,gP (v8 w),w.l9,w.drift,if N2 (v8 w)=true then(moved w n).drop 1 else moved w n⟩
instance (p n:List Int):Decidable (fJ p n):=by unfold fJ;infer_instance
def jR(w:n9)(o:r8):Int:=if ¬(fJ o.tru o.a8/\(0<=o.n/\o.n<=w.line.n8.len))then 2 else if w.drift.alarm=true then 101 else nY w.o8
def UG(w:n9)(o:r8):B6:=⟨w.o8.next,0,o.n,0,w.o8.count+w.line.lag,-1,false⟩
def sR(w:n9)(o:r8):Prop:=nS w.l9 w.o8.next (H4 o.tru o.a8)=0
instance (w:n9)(o:r8):Decidable (sR w o):=by unfold sR;infer_instance
def Ho(w:n9)(o:r8):Int:=(F8 (gK w.l9) (H4 o.tru o.a8)).2.1
def jb(d:P8):P8:=if d.rounds=500 then X3 else d
def jc(w:n9)(o:r8):n9 :=
 if sR w o then⟨w.line,ue w.o8,pM w.l9 w.o8.next (H4 o.tru o.a8),sQ w.line (jb w.drift) (!decide (Ho w o=1)),w.n6++[⟨w.o8.next,0,o.n,Ho w o,w.o8.count+w.line.lag,w.l9.next,false⟩]⟩
 else⟨w.line,ue w.o8,w.l9,w.drift,w.n6++[UG w o]⟩
def oa(w:n9)(j8:Int):Int:=if ¬(0<=j8/\j8<=(w.l9.p9.length:Int)-1)then 6 else if ¬w.l9.p9.getD j8.toNat 0=3 then 100 else 0
def Dz(w:n9):n9:=⟨w.line,w.o8,w.l9,X3,w.n6⟩
def bG(o:r8):tZ:=⟨if o.kind<=7 then o.kind-3 else o.kind-2,o.j8,o.a7,o.j9,o.gauge,[]⟩
def lr(w:n9)(b:o7):n9:=⟨w.line,w.o8,b,w.drift,w.n6⟩
def XF(b:o7)(o:r8):Int:=if o.kind=3 then b.p9.length else if o.kind=4 then b.recipes.length else 0
def K0(w:n9)(o:r8):Int:=if o.kind=1 then ir w o.n else if o.kind=2 then jR w o else if o.kind=10 then oa w o.j8 else Oc w.l9 (bG o)
def od(w:n9)(o:r8):n9:=if o.kind=1 then X4 w o.n else if o.kind=2 then jc w o else if o.kind=10 then Dz w else lr w (lq w.l9 (bG o))
def AI(w:n9)(o:r8):Int:=if o.kind=1 then w.o8.count+1 else if o.kind=2 then w.o8.next else if o.kind=10 then 0 else XF w.l9 o
def mO(w:n9)(o:r8):List V5:=if o.kind=1 then aH w o.n else []
def Q6(w:n9)(o:r8):n9:=if K0 w o=0 then od w o else w
def G9(w:n9)(o:r8):bX:=if K0 w o=0 then⟨0,AI w o,mO w o⟩else⟨K0 w o,0,[]⟩
def I8(l:A5):n9:=⟨l,⟨l.n8,0,0,[]⟩,⟨l.keep,[],[],0,[]⟩,X3,[]⟩
def N3(w:n9):List r8->n9
 | []=>w
 | o :: l=>N3 (Q6 w o) l
def bY(w:n9):List r8->List bX
 | []=>[]
 | o :: l=>G9 w o :: bY (Q6 w o) l
def Rw(t:TrackT)(s:x7):Prop :=
 (0<=s.id/\s.id<t.next)/\(0<=s.cnt/\s.cnt<=t.count/\t.count<s.cnt+N7 t.n8 t.n8.y9)/\s.o6<=3/\(s.hit=true->s.cnt+V4 t.n8 t.n8.y9<=t.count)
def oe(s s':x7):Prop:=s.id<s'.id/\s.cnt<s'.cnt
structure T9 (t:TrackT):Prop where
 bl:O2 t.n8=true
 ct:0<=t.count/\t.count<=1099511627776
 nx:0<=t.next/\t.next<=1099511627776
 ln:t.k9.length<=32
 up:List.Pairwise oe t.k9
 sn:∀ s,s ∈ t.k9->Rw t s
theorem bH{n:Nat}{p:Nat->Bool}:(List.range n).all p=true↔∀ i,i<n->p i=true:=by
 rw[List.all_eq_true];exact⟨fun h i hi=>h i (List.mem_range.2 hi),fun h i hi=>h i (List.mem_range.1 hi)⟩
theorem L3{t:TrackT}:eT t=0↔T9 t:=by
 rw[cU];unfold mK;rw[zA2,mJ,bH]
 constructor
 ·rintro⟨hb,⟨hc,hn,hl⟩,h⟩;have low:∀ i,i<t.k9.length -> -1<=(Q5 t.k9 i).id /\ -1<=(Q5 t.k9 i).cnt:=fun i hi=>by
   have:=Aw (t:=t) (k:=i) fun j hj=>h j va5
   omega
  have YN:=fun i hi=>mI.1 (h i hi)
  refine⟨hb,hc,hn,hl,?_,?_⟩
  ·have up:∀ j,j<t.k9.length->∀ i,i<j->oe (t.k9.getD i n4) (t.k9.getD j n4):=by
    intro j
    induction j with
    | zero=>intro _ i hi;exact absurd hi (zB3 i)
    | succ j ih =>
     intro hj i hi;have a:=YN (j+1) hj;rw[gM]at a;by_cases e:i=j
     ·subst e;exact⟨a.1,a.2.2.1⟩
     ·have:=ih va5 i va5;exact⟨by have:=this.1;omega,by have:=this.2;omega⟩
   refine List.pairwise_iff_getElem.2 fun i j hi hj zk=>?_
   have:=up j hj i zk;rwa[x9 hi,x9 hj]at this
  ·intro s hs;obtain⟨i,hi,e⟩:=List.getElem_of_mem hs;have a:=YN i hi;have b:=low i hi;rw[x9 hi,e]at a;exact⟨⟨va5,a.2.1⟩,⟨va5,a.2.2.2.1,a.2.2.2.2.1⟩,a.2.2.2.2.2.1,a.2.2.2.2.2.2⟩
 ·intro g;refine⟨g.bl,⟨g.ct,g.nx,g.ln⟩,fun i hi=>mI.2 ?_⟩;have s:=g.sn _ (List.getElem_mem hi);rw[x9 hi];obtain⟨s1,s2,s3,s4⟩:=s;cases i with
  | zero =>
   rw[Dt];exact⟨by show(-1:Int)<_;omega,s1.2,by show(-1:Int)<_;omega,s2.2.1,s2.2.2,s3,s4⟩
  | succ i =>
   rw[gM,x9 (show i<t.k9.length by omega)];have:=List.pairwise_iff_getElem.1 g.up i (i+1) va5 hi va5;exact⟨this.1,s1.2,this.2,s2.2.1,s2.2.2,s3,s4⟩
def qf(w:n9)(x:B6)(s:x7):Prop :=
 x.id=s.id/\(0<=x.len/\x.len<=w.line.n8.len)/\((w.o8.count-s.cnt)*(w.line.n8.step-w.line.n8.A0)<=x.front/\x.front<=(w.o8.count-s.cnt)*(w.line.n8.step+w.line.n8.A0)) /\
  x.o6<=3/\(0<=x.due/\x.due<=1099511627876)/\(-1<=x.seq/\x.seq<=w.l9.next-1)
structure I6 (w:n9):Prop where
 ln:J3 w.line=0
 bl:w.o8.n8=w.line.n8
 kp:w.l9.keep=w.line.keep
 lt:w.n6.length=w.o8.k9.length
 df:Z4 w.drift=true
 tk:T9 w.o8
 bk:L5 w.l9
 th:∀ i,i<w.n6.length->qf w (w.n6.getD i n5) (w.o8.k9.getD i n4)
theorem Li{α:Type}{R:α->α->Prop}{d y:α}{l:List α}{i:Nat}(hR:∀ z,(R (l.getD i d) z->R y z)/\(R z (l.getD i d)->R z y))(h:List.Pairwise R l):List.Pairwise R (l.set i y):=by
 by_cases hi:i<l.length
 ·refine List.pairwise_iff_getElem.2 fun a b ha hb Xs=>?_
  have Qx:a<l.length:=by simpa using ha
  have pU:b<l.length:=by simpa using hb
  have:=List.pairwise_iff_getElem.1 h a b Qx pU Xs;rw[List.getElem_set,List.getElem_set];by_cases e1:i=a
  ·rw[if_pos e1,if_neg va5];exact(hR _).1 (by rw[x9 hi];simpa[e1]using this)
  ·rw[if_neg e1];by_cases e2:i=b
   ·rw[if_pos e2];exact(hR _).2 (by rw[x9 hi];simpa[e2]using this)
   ·rw[if_neg e2];exact this
 ·rw[List.set_eq_of_length_le va5];exact h
theorem og{t:TrackT}{q v:Int}(h:mN t q v=0):(1<=v/\v<=3)/\t.k9.any (W5 q)=true/\(t.k9.getD (t.k9.findIdx (W5 q)) n4).o6=0/\t.count<(t.k9.getD (t.k9.findIdx (W5 q)) n4).cnt+V4 t.n8 t.n8.y9:=by
 unfold mN at h;by_cases h1:v<1∨3<v
 ·rw[if_pos h1]at h;cases h
 ·rw[if_neg h1]at h;by_cases h2:t.k9.any (W5 q)=true
  ·rw[if_neg (fun e=>e h2)]at h;by_cases h3:¬(t.k9.getD (t.k9.findIdx (W5 q)) n4).o6=0∨(t.k9.getD (t.k9.findIdx (W5 q)) n4).cnt+V4 t.n8 t.n8.y9<=t.count
   ·rw[if_pos h3]at h;cases h
   ·exact⟨va5,h2,Decidable.byContradiction fun e=>h3 (.inl e),by have:=fun e=>h3 (.inr e);omega⟩
  ·rw[if_pos h2]at h;cases h
theorem fK{q:Int}{l:List x7}(h:l.any (W5 q)=true):l.findIdx (W5 q)<l.length:=by
 obtain⟨x,hx,hp⟩:=List.any_eq_true.1 h;exact List.findIdx_lt_length_of_exists ⟨x,hx,hp⟩
theorem Lj{t:TrackT}(g:T9 t){q v:Int}(h:mN t q v=0):T9 (xY t q v):=by
 obtain⟨hv,ha,_,_⟩:=og h;have hi:=fK ha;unfold xY;generalize t.k9.findIdx (W5 q)=i at *
 refine⟨g.bl,g.ct,g.nx,by simpa using g.ln,Li (d:=n4) (fun z=>⟨fun h=>h,fun h=>h⟩) g.up,fun s hs=>?_⟩;rcases List.mem_or_eq_of_mem_set hs with h1|h1
 ·exact g.sn s h1
 ·subst h1;have m:=g.sn _ (List.getElem_mem hi);rw[x9 hi];exact⟨m.1,m.2.1,hv.2,m.2.2.2⟩
theorem Hp{t:TrackT}(g:T9 t)(x:B6):T9 (ud t x):=by
 unfold ud;by_cases h:x.o6=0∨¬x.due=t.count
 ·rw[if_pos h];exact g
 ·rw[if_neg h];by_cases e:mN t x.id x.o6=0
  ·rw[if_pos e];exact Lj g e
  ·rw[if_neg e];exact g
def fM(t u:TrackT):Prop:=u.n8=t.n8/\u.count=t.count/\u.next=t.next/\u.k9.length=t.k9.length/\∀ i,(u.k9.getD i n4).id=(t.k9.getD i n4).id/\(u.k9.getD i n4).cnt=(t.k9.getD i n4).cnt/\(u.k9.getD i n4).hit=(t.k9.getD i n4).hit
theorem fM.refl(t:TrackT):fM t t:=⟨rfl,rfl,rfl,rfl,fun _=>⟨rfl,rfl,rfl⟩⟩
theorem fM.trans{t u v:TrackT}(h:fM t u)(k:fM u v):fM t v :=
 ⟨k.1.trans h.1,k.2.1.trans h.2.1,k.2.2.1.trans h.2.2.1,k.2.2.2.1.trans h.2.2.2.1,fun i=>⟨(k.2.2.2.2 i).1.trans (h.2.2.2.2 i).1,(k.2.2.2.2 i).2.1.trans (h.2.2.2.2 i).2.1,(k.2.2.2.2 i).2.2.trans (h.2.2.2.2 i).2.2⟩⟩
theorem oq{l:List x7}{i j:Nat}{y:x7}:(l.set i y).getD j n4=if i=j/\i<l.length then y else l.getD j n4:=by
 simp only[List.getD,List.getElem?_set];by_cases e:i=j
 ·subst e;by_cases h:i<l.length<;>simp[h]
 ·simp[e]
theorem Hq(t:TrackT)(q v:Int):fM t (xY t q v):=by
 refine⟨rfl,rfl,rfl,by simp[xY],fun j=>?_⟩;unfold xY;simp only[oq];by_cases h:t.k9.findIdx (W5 q)=j/\t.k9.findIdx (W5 q)<t.k9.length
 ·rw[if_pos h,h.1];exact⟨rfl,rfl,rfl⟩
 ·rw[if_neg h];exact⟨rfl,rfl,rfl⟩
theorem Hr(t:TrackT)(x:B6):fM t (ud t x):=by
 unfold ud;by_cases h:x.o6=0∨¬x.due=t.count
 ·rw[if_pos h];exact fM.refl t
 ·rw[if_neg h];by_cases e:mN t x.id x.o6=0
  ·rw[if_pos e];exact Hq t _ _
  ·rw[if_neg e];exact fM.refl t
theorem ot(l:List B6):∀ t,fM t (jQ t l):=by
 induction l with
 | nil=>intro t;exact fM.refl t
 | cons x l ih=>intro t;exact(Hr t x).trans (ih _)
theorem ou(l:List B6):∀ t,T9 t->T9 (jQ t l):=by
 induction l with
 | nil=>intro t g;exact g
 | cons x l ih=>intro t g;exact ih _ (Hp g x)
theorem fN(t:TrackT):(hits t).length=t.k9.length:=by simp[hits]
theorem bI(t:TrackT)(i:Nat)(hi:i<t.k9.length):(hits t).getD i n4=S9 t.n8 (cH t (t.count+1)) (t.count+1) (t.k9.getD i n4):=by
 simp[hits,List.getD,List.getElem?_map,zA6 hi]
theorem aj{α:Type}{R:α->α->Prop}{d:α}{l:List α}(h:List.Pairwise R l){i j:Nat}(zk:i<j)(hj:j<l.length):R (l.getD i d) (l.getD j d):=by
 have:=List.pairwise_iff_getElem.1 h i j va5 hj zk;rwa[x9 (show i<l.length by omega),x9 hj]
theorem I2{α:Type}{d:α}{l:List α}{i:Nat}(hi:i<l.length):l.getD i d ∈ l:=by rw[x9 hi];exact List.getElem_mem hi
theorem DA{t:TrackT}(g:T9 t){i:Nat}(hi:i<t.k9.length)(h:(t.k9.getD i n4).cnt+N7 t.n8 t.n8.y9=t.count+1):i=0:=by
 by_cases e:i=0
 ·exact e
 ·have a:=g.sn _ (I2 (d:=n4) (show 0<t.k9.length by omega));have b:=(aj (d:=n4) g.up (show 0<i by omega) hi).2;have:=a.2.1.2.2;omega
theorem bZ{t:TrackT}(g:T9 t):(hits t).filter (fun x => !decide (x.cnt+N7 t.n8 t.n8.y9=t.count+1))=(gP t).k9/\(hits t).filter (fun x=>decide (x.cnt+N7 t.n8 t.n8.y9=t.count+1))=if N2 t=true then [(hits t).getD 0 n4]else []:=by
 have key:∀ i,(hi:i<t.k9.length)->(decide (((hits t).getD i n4).cnt+N7 t.n8 t.n8.y9=t.count+1)=(decide (i=0) && N2 t)):=by
  intro i hi;have e:((hits t).getD i n4).cnt=(t.k9.getD i n4).cnt:=by rw[bI t i hi];rfl
  rw[e];unfold N2;by_cases h:(t.k9.getD i n4).cnt+N7 t.n8 t.n8.y9=t.count+1
  ·obtain rfl:=DA g hi h;rw[zA4 h,zA4 (show 0<t.k9.length/\(t.k9.getD 0 n4).cnt+N7 t.n8 t.n8.y9=t.count+1 from⟨hi,h⟩)];rfl
  ·rw[zA5 h];by_cases e:i=0
   ·subst e;rw[zA5 (show ¬(0<t.k9.length/\(t.k9.getD 0 n4).cnt+N7 t.n8 t.n8.y9=t.count+1) from fun q=>h q.2)];rfl
   ·rw[zA5 e];rfl
 have hl:=fN t;have adv:(gP t).k9=if N2 t=true then(hits t).drop 1 else hits t:=rfl
 rw[adv];cases hh:hits t with
 | nil =>
  have hz:N2 t=false:=zA5 fun q=>by
   rw[hh]at hl;simp at hl;omega
  rw[hz];simp
 | cons a l =>
  rw[hh]at key hl;have tail:∀ x,x ∈ l->decide (x.cnt+N7 t.n8 t.n8.y9=t.count+1)=false:=by
   intro x hx;obtain⟨i,hi,e⟩:=List.getElem_of_mem hx;have:=key (i+1) (by rw[<- hl,zB2];omega);have e2:(a :: l).getD (i+1) n4=x:=by simp[List.getD,zA6 hi,e]
   rw[e2]at this;rw[this];simp
  have head:decide (a.cnt+N7 t.n8 t.n8.y9=t.count+1)=N2 t:=by
   have:=key 0 (by rw[<- hl,zB2];omega);simpa using this
  have f1:l.filter (fun x => !decide (x.cnt+N7 t.n8 t.n8.y9=t.count+1))=l:=List.filter_eq_self.2 fun x hx=>by rw[tail x hx];rfl
  have f2:l.filter (fun x=>decide (x.cnt+N7 t.n8 t.n8.y9=t.count+1))=[]:=List.filter_eq_nil_iff.2 fun x hx=>by rw[tail x hx];decide
  rw[List.filter_cons,List.filter_cons,f1,f2,head];cases N2 t<;>simp

end Go.Proofs.Tryz.My
