/- Helper lemmas. -/
import Derived.Test.YtdpnpdjnaimgaaaGreatMzWaA
set_option linter.unusedVariables false
set_option linter.unusedSimpArgs false
set_option maxRecDepth 100000
set_option maxHeartbeats 0
namespace Go.Proofs.Tryz.My
open Go Go.Ev
theorem Rx{t:TrackT}(g:T9 t):(1<=V4 t.n8 t.n8.y9/\V4 t.n8 t.n8.y9<=1000000)/\(1<=N7 t.n8 t.n8.y9/\N7 t.n8 t.n8.y9<=2000001):=by
 have:=G1.1 g.bl;exact bC g.bl this.2.2.1.1 this.2.2.1.2
theorem Hs{t:TrackT}(g:T9 t){s:x7}(h:s ∈ (gP t).k9):∃ x,x ∈ t.k9/\s=S9 t.n8 (cH t (t.count+1)) (t.count+1) x/\¬x.cnt+N7 t.n8 t.n8.y9=t.count+1:=by
 rw[<- (bZ g).1]at h;obtain⟨h1,h2⟩:=List.mem_filter.1 h;obtain⟨x,hx,e⟩:=List.mem_map.1 h1;refine⟨x,hx,e.symm,?_⟩;subst e;have h2:(!decide (x.cnt+N7 t.n8 t.n8.y9=t.count+1))=true:=h2;simpa using h2
theorem Lm{t:TrackT}(g:T9 t)(hc:t.count<1099511627776):T9 (gP t):=by
 have hp:(gP t).k9.length<=t.k9.length:=by
  rw[<- (bZ g).1];exact Nat.le_trans (List.length_filter_le _ _) (by rw[fN];exact Nat.le_refl _)
 refine⟨g.bl,⟨by show 0<=t.count+1;have:=g.ct;omega,by show t.count+1<=_;omega⟩,g.nx,Nat.le_trans hp g.ln,?_,fun s hs=>?_⟩
 ·rw[<- (bZ g).1];refine List.Pairwise.filter _ ?_;unfold hits;rw[List.pairwise_map];exact g.up.imp fun h=>h
 ·obtain⟨x,hx,rfl,hn⟩:=Hs g hs;obtain⟨s1,s2,s3,s4⟩:=g.sn x hx;refine⟨s1,⟨s2.1,by show x.cnt<=t.count+1;omega,by show t.count+1<x.cnt+N7 t.n8 t.n8.y9;omega⟩,s3,fun h=>?_⟩;show x.cnt+V4 t.n8 t.n8.y9<=t.count+1
  have h:(x.hit || (cH t (t.count+1) && aG t.n8 x (t.count+1)))=true:=h;rw[zA9,zA2]at h;rcases h with h|⟨_,h⟩
  ·have:=s4 h;omega
  ·unfold aG at h;simp only[zA2,zA3]at h;exact h.1
theorem Ht{t:TrackT}(h:nY t=0):¬(0<t.k9.length/\(t.k9.getD (t.k9.length-1) n4).cnt=t.count)/\¬t.k9.length=32/\¬t.next=1099511627776:=by
 unfold nY at h;by_cases h1:0<t.k9.length/\(t.k9.getD (t.k9.length-1) n4).cnt=t.count
 ·rw[if_pos h1]at h;cases h
 ·rw[if_neg h1]at h;by_cases h2:t.k9.length=32∨t.next=1099511627776
  ·rw[if_pos h2]at h;cases h
  ·exact⟨h1,fun e=>h2 (.inl e),fun e=>h2 (.inr e)⟩
theorem Ln{t:TrackT}(g:T9 t)(h:nY t=0):T9 (ue t):=by
 obtain⟨h1,h2,h3⟩:=Ht h;have w:=Rx g;have ln:=g.ln;have nx:=g.nx;have last:∀ s,s ∈ t.k9->s.cnt<t.count:=by
  intro s hs;obtain⟨i,hi,e⟩:=List.getElem_of_mem hs;have a:=(g.sn _ (I2 (d:=n4) (show t.k9.length-1<t.k9.length by omega))).2.1.2.1;have hl:(t.k9.getD (t.k9.length-1) n4).cnt<t.count:=by
   have:¬(t.k9.getD (t.k9.length-1) n4).cnt=t.count:=fun e=>h1 ⟨va5,e⟩
   omega
  by_cases e2:i=t.k9.length-1
  ·subst e2;rw[x9 hi,e]at hl;exact hl
  ·have:=(aj (d:=n4) g.up (show i<t.k9.length-1 by omega) va5).2;rw[x9 hi,e]at this;omega
 refine⟨g.bl,g.ct,⟨by show 0<=t.next+1;omega,by show t.next+1<=_;omega⟩,?_,?_,?_⟩
 ·show(t.k9++[_]).length<=32
  rw[List.length_append];simp only[zB2,List.length_nil];omega
 ·refine List.pairwise_append.2 ⟨g.up,List.pairwise_singleton _ _,fun a ha b hb=>?_⟩;obtain rfl:=List.mem_singleton.1 hb;exact⟨(g.sn a ha).1.2,last a ha⟩
 ·intro s hs;rcases List.mem_append.1 hs with hs|hs
  ·obtain⟨s1,s2,s3,s4⟩:=g.sn s hs;exact⟨⟨s1.1,by show s.id<t.next+1;omega⟩,s2,s3,s4⟩
  ·obtain rfl:=List.mem_singleton.1 hs;exact⟨⟨nx.1,by show t.next<t.next+1;omega⟩,⟨g.ct.1,Int.le_refl _,by show t.count<t.count+N7 t.n8 t.n8.y9;omega⟩,by show(0:Int)<=3;decide,fun h=>by cases h⟩
theorem Q7{α:Type}{d y:α}{l:List α}{i:Nat}:(l++[y]).getD i d=if i<l.length then l.getD i d else if i=l.length then y else d:=by
 simp only[List.getD];by_cases h:i<l.length
 ·rw[if_pos h,List.getElem?_append_left h]
 ·rw[if_neg h,List.getElem?_append_right va5];by_cases e:i=l.length
  ·rw[if_pos e,e];simp
  ·rw[if_neg e,zA7 (by simp;omega)];rfl
theorem Fl{l:A5}{d:P8}(h:Z4 d=true)(hit:Bool):Z4 (sQ l (jb d) hit)=true:=by
 have:=nV.1 h;refine nV.2 ?_;unfold sQ jb;by_cases e:d.rounds=500
 ·rw[if_pos e];cases hit
  ·exact⟨⟨Int.le_refl 0,by show(0:Int)<=0+1;decide⟩,by show(0:Int)+1<=500;decide⟩
  ·exact⟨⟨by show(0:Int)<=0+1;decide,by show(0:Int)+1<=0+1;decide⟩,by show(0:Int)+1<=500;decide⟩
 ·rw[if_neg e];cases hit
  ·exact⟨⟨this.1.1,by show d.hits<=d.rounds+1;omega⟩,by show d.rounds+1<=500;omega⟩
  ·exact⟨⟨by show 0<=d.hits+1;omega,by show d.hits+1<=d.rounds+1;omega⟩,by show d.rounds+1<=500;omega⟩
theorem jC:Z4 X3=true:=by decide
theorem xZ{l:A5}(h:J3 l=0):1<=l.lag/\l.lag<=100:=(K3 h).2.1.1
theorem Hu(s t:X2):0<=mr s t/\mr s t<=3:=by
 unfold mr;split
 ·split<;>decide
 ·decide
theorem Fm{g:x8}{p:List Int}:0<=(F8 g p).2.1/\(F8 g p).2.1<=3:=by
 have z:(0:Int)<=0/\(0:Int)<=3:=by decide
 unfold F8;split
 ·unfold xm;split
  ·show 0<=(if H8 g<=ES p (p.length-1)+D9 g then(3:Int)else 2)/\(if H8 g<=ES p (p.length-1)+D9 g then(3:Int)else 2)<=3
   split<;>decide
  ·split
   ·split
    ·exact Hu _ _
    ·exact z
   ·exact z
 ·exact z
theorem fP{w:n9}{o:r8}(h:jR w o=0):fJ o.tru o.a8/\(0<=o.n/\o.n<=w.line.n8.len)/\w.drift.alarm=false/\nY w.o8=0:=by
 unfold jR at h;by_cases h1:fJ o.tru o.a8/\(0<=o.n/\o.n<=w.line.n8.len)
 ·rw[if_neg (fun e=>e h1)]at h;by_cases h2:w.drift.alarm=true
  ·rw[if_pos h2]at h;cases h
  ·rw[if_neg h2]at h;exact⟨h1.1,h1.2,by simpa using h2,h⟩
 ·rw[if_pos h1]at h;cases h
theorem kY{w:n9}(g:I6 w)(hs:nY w.o8=0){x:B6}{b:o7}{d:P8}(hx:x.id=w.o8.next/\x.front=0/\(0<=x.len/\x.len<=w.line.n8.len)/\x.o6<=3/\x.due=w.o8.count+w.line.lag/\(-1<=x.seq/\x.seq<=b.next-1))
  (hb:L5 b) (hk:b.keep=w.l9.keep) (hn:w.l9.next<=b.next) (hd:Z4 d=true):I6 ⟨w.line,ue w.o8,b,d,w.n6++[x]⟩:=by
 have lg:=xZ g.ln;have ct:=g.tk.ct;obtain⟨x1,x2,x3,x4,x5,x6⟩:=hx;refine⟨g.ln,g.bl,hk.trans g.kp,?_,hd,Ln g.tk hs,hb,fun i hi=>?_⟩
 ·show(w.n6++[x]).length=(w.o8.k9++[_]).length
  rw[List.length_append,List.length_append,g.lt];rfl
 ·have hi:i<(w.n6++[x]).length:=hi;rw[List.length_append]at hi;simp only[zB2,List.length_nil]at hi;show qf ⟨w.line,ue w.o8,b,d,w.n6++[x]⟩ ((w.n6++[x]).getD i n5) ((w.o8.k9++[_]).getD i n4)
  rw[Q7,Q7];by_cases e:i<w.n6.length
  ·rw[if_pos e,if_pos (by rw[<- g.lt];exact e)];obtain⟨t1,t2,t3,t4,t5,t6⟩:=g.th i e;exact⟨t1,t2,t3,t4,t5,⟨t6.1,by show _<=b.next-1;omega⟩⟩
  ·have e2:i=w.n6.length:=by omega
   rw[if_neg e,if_pos e2,if_neg (by rw[<- g.lt];exact e),if_pos (by rw[<- g.lt];exact e2)];refine⟨x1,x3,?_,x4,?_,x6⟩
   ·show(w.o8.count-w.o8.count)*_<=x.front/\x.front<=(w.o8.count-w.o8.count)*_
    rw[x2,Int.sub_self,Int.zero_mul,Int.zero_mul];decide
   ·rw[x5];omega
theorem Lo{w:n9}(g:I6 w){o:r8}(h:jR w o=0):I6 (jc w o):=by
 obtain⟨h1,h2,h3,h4⟩:=fP h;have nx:=g.bk.nx;unfold jc;by_cases hr:sR w o
 ·rw[if_pos hr];refine kY g h4 ⟨rfl,rfl,h2,Fm.2,rfl,⟨by show -1<=w.l9.next;omega,by show w.l9.next<=w.l9.next+1-1;omega⟩⟩ (sH g.bk hr) rfl (by show w.l9.next<=w.l9.next+1;omega) (Fl g.df _)
 ·rw[if_neg hr];exact kY g h4 ⟨rfl,rfl,h2,by show(0:Int)<=3;decide,rfl,⟨by show(-1:Int) <= -1;decide,by show -1<=w.l9.next-1;omega⟩⟩ g.bk rfl (Int.le_refl _) g.df
theorem AK{w:n9}(g:I6 w){b:o7}(hb:L5 b)(hk:b.keep=w.l9.keep)(hn:w.l9.next<=b.next):I6 (lr w b) :=
 ⟨g.ln,g.bl,hk.trans g.kp,g.lt,g.df,g.tk,hb,fun i hi=>by
  obtain⟨t1,t2,t3,t4,t5,t6⟩:=g.th i hi
  exact⟨t1,t2,t3,t4,t5,⟨t6.1,by show(w.n6.getD i n5).seq<=b.next-1;omega⟩⟩⟩
theorem AL{w:n9}(g:I6 w):I6 (Dz w):=⟨g.ln,g.bl,g.kp,g.lt,jC,g.tk,g.bk,g.th⟩
theorem Fo{b:o7}(a:tZ):b.next<=(lq b a).next:=by
 have c:=(sJ b).2.2.2.1;unfold lq;split
 ·exact Int.le_refl _
 ·split
  ·exact Int.le_refl _
  ·split
   ·exact Int.le_refl _
   ·split
    ·exact Int.le_of_eq c.symm
    ·split
     ·exact Int.le_refl _
     ·split
      ·show b.next<=b.next+1;omega
      ·split
       ·exact Int.le_refl _
       ·exact Int.le_refl _
theorem fQ{w:n9}{n:Int}(h:ir w n=0):(w.line.n8.step-w.line.n8.A0<=n/\n<=w.line.n8.step+w.line.n8.A0)/\¬w.o8.count=1099511627776:=by
 unfold ir at h;by_cases h1:w.line.n8.step-w.line.n8.A0<=n/\n<=w.line.n8.step+w.line.n8.A0
 ·rw[if_neg (fun e=>e h1)]at h;by_cases h2:w.o8.count=1099511627776
  ·rw[if_pos h2]at h;cases h
  ·exact⟨h1,h2⟩
 ·rw[if_pos h1]at h;cases h
theorem ak{w:n9}(g:I6 w):T9 (v8 w)/\fM w.o8 (v8 w):=⟨ou _ _ g.tk,ot _ _⟩
theorem gQ{w:n9}{n:Int}{i:Nat}(hi:i<w.n6.length):(moved w n).getD i n5=nZ w.line.n8 (cH (v8 w) (w.o8.count+1)) n (w.n6.getD i n5):=by
 simp[moved,List.getD,List.getElem?_map,zA6 hi]
theorem W6(w:n9)(n:Int):(moved w n).length=w.n6.length:=by simp[moved]
theorem dw{α:Type}{d:α}{l:List α}{i:Nat}:(l.drop 1).getD i d=l.getD (i+1) d:=by simp[List.getD,Nat.add_comm]
theorem AM{w:n9}(g:I6 w){n:Int}(h:ir w n=0){i:Nat}(hi:i<w.n6.length) :
  qf (X4 w n) ((moved w n).getD i n5) ((hits (v8 w)).getD i n4):=by
 obtain⟨h1,h2⟩:=fQ h;obtain⟨t1,t2,t3,t4,t5,t6⟩:=g.th i hi;obtain⟨k1,k2,k3,k4,k5⟩:=(ak g).2;rw[gQ hi,bI _ _ (by rw[k4,<- g.lt];exact hi)];have ec:((v8 w).k9.getD i n4).cnt=(w.o8.k9.getD i n4).cnt:=(k5 i).2.1;have eid:((v8 w).k9.getD i n4).id=(w.o8.k9.getD i n4).id:=(k5 i).1;refine⟨t1.trans eid.symm,t2,?_,t4,t5,t6⟩;show((v8 w).count+1-((v8 w).k9.getD i n4).cnt)*(w.line.n8.step-w.line.n8.A0)<=(w.n6.getD i n5).front+n/\(w.n6.getD i n5).front+n<=((v8 w).count+1-((v8 w).k9.getD i n4).cnt)*(w.line.n8.step+w.line.n8.A0)
 rw[ec,k2,show w.o8.count+1-(w.o8.k9.getD i n4).cnt=(w.o8.count-(w.o8.k9.getD i n4).cnt)+1 by omega,Int.add_mul,Int.add_mul,Int.one_mul,Int.one_mul];omega
theorem AN{w:n9}(g:I6 w){n:Int}(h:ir w n=0):I6 (X4 w n):=by
 obtain⟨h1,h2⟩:=fQ h;obtain⟨gk,sk⟩:=ak g;have sk':=sk;obtain⟨k1,k2,k3,k4,k5⟩:=sk;have ct:=g.tk.ct;have ok:=fun i hi=>AM g h (i:=i) hi
 refine⟨g.ln,k1.trans g.bl,g.kp,?_,g.df,Lm gk (by rw[k2];omega),g.bk,fun i hi=>?_⟩
 ·show(if N2 (v8 w)=true then(moved w n).drop 1 else moved w n).length=(if N2 (v8 w)=true then(hits (v8 w)).drop 1 else hits (v8 w)).length
  by_cases hg:N2 (v8 w)=true
  ·rw[if_pos hg,if_pos hg,List.length_drop,List.length_drop,W6,fN,k4,g.lt]
  ·rw[if_neg hg,if_neg hg,W6,fN,k4,g.lt]
 ·have hi:i<(if N2 (v8 w)=true then(moved w n).drop 1 else moved w n).length:=hi;show qf (X4 w n) ((if N2 (v8 w)=true then(moved w n).drop 1 else moved w n).getD i n5) ((if N2 (v8 w)=true then(hits (v8 w)).drop 1 else hits (v8 w)).getD i n4)
  by_cases hg:N2 (v8 w)=true
  ·rw[if_pos hg]at hi;rw[if_pos hg,if_pos hg,dw,dw];rw[List.length_drop,W6]at hi;exact ok (i+1) va5
  ·rw[if_neg hg]at hi;rw[if_neg hg,if_neg hg];rw[W6]at hi;exact ok i hi
theorem AO{w:n9}(g:I6 w)(o:r8):I6 (Q6 w o):=by
 unfold Q6;by_cases h:K0 w o=0
 ·rw[if_pos h];unfold K0 at h;unfold od;by_cases k1:o.kind=1
  ·rw[if_pos k1]at h ⊢; exact AN g h
  rw[if_neg k1]at h ⊢;by_cases k2:o.kind=2
  ·rw[if_pos k2]at h ⊢; exact Lo g h
  rw[if_neg k2]at h ⊢;by_cases k3:o.kind=10
  ·rw[if_pos k3];exact AL g
  rw[if_neg k3]at h ⊢;exact AK g (Ff g.bk h) (Fg g.bk h).1 (Fo _)
 ·rw[if_neg h];exact g
def ov(l:A5)(v:Int):Int:=if V4 l.n8 l.n8.y9<=l.lag then 0 else v
structure PairOK (l:A5) (n:Int) (x:B6) (s:x7):Prop where
 dl:x.due=s.cnt+l.lag
 vr:0<=x.o6
 ve:s.o6=if l.lag<n then ov l x.o6 else 0
 oh:x.out=true->s.hit=true
 ho:¬ov l x.o6=1->l.n8.y9<=x.front->x.out=true
theorem vy(t:TrackT)(l:List B6)(x:B6):jQ t (l++[x])=ud (jQ t l) x:=by simp[jQ,List.foldl_append]
def AP(w:n9)(t:TrackT):n9:=⟨w.line,t,w.l9,w.drift,w.n6⟩
theorem Hy(t:TrackT){l:List B6}{k:Nat}(hk:k<l.length):jQ t (l.take (k+1))=ud (jQ t (l.take k)) (l.getD k n5):=by
 rw[List.take_add_one,zA6 hk,x9 hk];exact vy _ _ _
theorem AQ{w:n9}(g:I6 w){i:Nat}(hi:i<w.n6.length):0<=(w.n6.getD i n5).front/\(w.n6.getD i n5).front<=4000002000:=by
 obtain⟨t1,t2,⟨t3,t4⟩,_⟩:=g.th i hi;have hs:=g.tk.sn _ (I2 (d:=n4) (l:=w.o8.k9) (i:=i) (by rw[<- g.lt];exact hi));have bl:=G1.1 g.tk.bl;have wr:=bC g.tk.bl bl.2.2.1.1 bl.2.2.1.2;rw[g.bl]at bl;have a:=hs.2.1;generalize (w.o8.k9.getD i n4).cnt=c at *
 have p1:0<=(w.o8.count-c)*(w.line.n8.step-w.line.n8.A0):=Int.mul_nonneg va5 va5;have p2:(w.o8.count-c)*(w.line.n8.step+w.line.n8.A0)<=2000001*2000:=Int.mul_le_mul va5 va5 va5 va5;omega
theorem a1w{w:n9}{n:Int}{k:Nat}(hk:k<w.n6.length):(moved w n).take (k+1)=(moved w n).take k++[nZ w.line.n8 (cH (v8 w) (w.o8.count+1)) n (w.n6.getD k n5)]:=by
 have hl:=W6 w n;rw[List.take_add_one,<- gQ hk,zA6 va5,x9 va5];rfl
def m0(w:n9)(n:Int)(k:Nat):List B6:=if N2 (v8 w)=true then((moved w n).take k).drop 1 else(moved w n).take k
def mo(w:n9)(n:Int)(k:Nat):List V5:=if k=0 then []else aH w n
theorem a2p(w:n9)(n:Int)(k:Nat):(m0 w n k).length<=k:=by
 unfold m0;split
 ·rw[List.length_drop,zB1];omega
 ·rw[zB1];omega
theorem a2q(w:n9)(n:Int):m0 w n w.n6.length=(X4 w n).n6:=by
 have e:(moved w n).take w.n6.length=moved w n:=List.take_of_length_le (by rw[W6];omega);unfold m0 X4;rw[e]
theorem a1T{w:n9}{n:Int}{k:Nat}(hk:k<w.n6.length)(h:¬(N2 (v8 w)=true/\k=0)):m0 w n (k+1)=m0 w n k++[nZ w.line.n8 (cH (v8 w) (w.o8.count+1)) n (w.n6.getD k n5)]:=by
 unfold m0;rw[a1w hk];split
 ·rename_i hg;have Uc:0<k:=Nat.pos_of_ne_zero fun e=>h ⟨hg,e⟩
  rw[List.drop_append_of_le_length (by rw[zB1,W6];omega)]
 ·rfl
theorem a2c{w:n9}{n:Int}(hk:0<w.n6.length)(h:N2 (v8 w)=true):m0 w n 1=m0 w n 0:=by
 unfold m0;rw[if_pos h,if_pos h,a1w (k:=0) hk];rfl
structure G2 where
 ord:r8
 gauge:x8
 o6:Int
 seq:Int
structure G4 where
 line:A5
 gauges:List x8
 active:Int
 pieces:List G2
 drift:P8
 n7:List V5
 world:n9
def A1:G2:=⟨B7,ao,0,0⟩
structure fR (l:A5) (i:Nat) (y:V5) (p:G2):Prop where
 id:y.id=i
 vr:y.o6=ov l p.o6
 sq:y.seq=p.seq
 nt:¬y.o6=1->y.out=true/\y.hit=true
 oh:y.out=true->y.hit=true
structure qi (l:A5) (next:Int) (p:G2):Prop where
 ob:fJ p.ord.tru p.ord.a8
 ln:0<=p.ord.n/\p.ord.n<=l.n8.len
 rc:(p.seq = -1/\p.o6=0)∨((0<=p.seq/\p.seq<next)/\S6 p.gauge=true/\(F8 p.gauge (H4 p.ord.tru p.ord.a8)).2.2=0/\(F8 p.gauge (H4 p.ord.tru p.ord.a8)).2.1=p.o6)
structure sU (w:n9) (ps:List G2) (s:B8):Prop where
 pt:0<=s.part/\s.part<ps.length
 sq:(ps.getD s.part.toNat A1).seq=s.seq
 pf:s.o9=H4 (ps.getD s.part.toNat A1).ord.tru (ps.getD s.part.toNat A1).ord.a8
 ga:(w.l9.recipes.getD s.recipe.toNat r9).gauge=(ps.getD s.part.toNat A1).gauge
 vr:s.o6=(ps.getD s.part.toNat A1).o6
structure Told (l:A5) (w:n9) (b:G4):Prop where
 gw:I6 w
 ln:w.line=l/\b.line=l
 ga:b.gauges.length=w.l9.recipes.length/\∀ i,i<w.l9.recipes.length->b.gauges.getD i ao=(w.l9.recipes.getD i r9).gauge
 ac:if w.l9.recipes.any C9=true then b.active=A4 w.l9.recipes else b.active = -1
 df:b.drift=w.drift
 np:(b.pieces.length:Int)=w.o8.next
 le:b.n7.length+w.n6.length=b.pieces.length
 th:∀ i,i<w.n6.length->(w.n6.getD i n5).id=(b.n7.length+i:Nat)/\(w.n6.getD i n5).len=(b.pieces.getD (b.n7.length+i) A1).ord.n/\(w.n6.getD i n5).o6=(b.pieces.getD (b.n7.length+i) A1).o6 /\
  (w.n6.getD i n5).seq=(b.pieces.getD (b.n7.length+i) A1).seq
 pr:∀ i,i<w.n6.length->PairOK l (w.o8.count-(w.o8.k9.getD i n4).cnt) (w.n6.getD i n5) (w.o8.k9.getD i n4)
 oc:∀ i,i<b.n7.length->fR l i (b.n7.getD i K4) (b.pieces.getD i A1)
 pc:∀ i,i<b.pieces.length->qi l w.l9.next (b.pieces.getD i A1)
 lg:∀ s,s ∈ w.l9.log->sU w b.pieces s

end Go.Proofs.Tryz.My
