/- Helper lemmas. -/
import Derived.Test.YtacahppoighegaaGreatMzWaA
set_option linter.unusedVariables false
set_option linter.unusedSimpArgs false
set_option maxRecDepth 100000
set_option maxHeartbeats 0
namespace Go.Proofs.Tryz.My
open Go Go.Ev
theorem Vm{t:r9}(g:S5 t):(1<=Y1 t.m0 t.m0.w9/\Y1 t.m0 t.m0.w9<=1000000)/\(1<=M4 t.m0 t.m0.w9/\M4 t.m0 t.m0.w9<=2000001):=by
 have:=D3.1 g.bl;exact R7 g.bl this.2.2.1.1 this.2.2.1.2
theorem JV{t:r9}(g:S5 t){s:u6}(h:s ∈ (W9 t).k9):∃ x,x ∈ t.k9/\s=G5 t.m0 (N5 t (t.count+1)) (t.count+1) x/\¬x.cnt+M4 t.m0 t.m0.w9=t.count+1:=by
 rw[<- (T4 g).1]at h;obtain⟨h1,h2⟩:=List.mem_filter.1 h;obtain⟨x,hx,e⟩:=List.mem_map.1 h1;refine⟨x,hx,e.symm,?_⟩;subst e;have h2:(!decide (x.cnt+M4 t.m0 t.m0.w9=t.count+1))=true:=h2;simpa using h2
theorem Ol{t:r9}(g:S5 t)(hc:t.count<1099511627776):S5 (W9 t):=by
 have hp:(W9 t).k9.length<=t.k9.length:=by
  rw[<- (T4 g).1];exact Nat.le_trans (List.length_filter_le _ _) (by rw[ab];exact Nat.le_refl _)
 refine⟨g.bl,⟨by show 0<=t.count+1;have:=g.ct;omega,by show t.count+1<=_;omega⟩,g.nx,Nat.le_trans hp g.ln,?_,fun s hs=>?_⟩
 ·rw[<- (T4 g).1];refine List.Pairwise.filter _ ?_;unfold hits;rw[List.pairwise_map];exact g.up.imp fun h=>h
 ·obtain⟨x,hx,rfl,hn⟩:=JV g hs;obtain⟨s1,s2,s3,s4⟩:=g.sn x hx;refine⟨s1,⟨s2.1,by show x.cnt<=t.count+1;omega,by show t.count+1<x.cnt+M4 t.m0 t.m0.w9;omega⟩,s3,fun h=>?_⟩;show x.cnt+Y1 t.m0 t.m0.w9<=t.count+1
  have h:(x.hit || (N5 t (t.count+1) && K2 t.m0 x (t.count+1)))=true:=h;rw[zA9,zA2]at h;rcases h with h|⟨_,h⟩
  ·have:=s4 h;omega
  ·unfold K2 at h;simp only[zA2,zA3]at h;exact h.1
theorem JW{t:r9}(h:jA t=0):¬(0<t.k9.length/\(t.k9.getD (t.k9.length-1) l9).cnt=t.count)/\¬t.k9.length=32/\¬t.next=1099511627776:=by
 unfold jA at h;by_cases h1:0<t.k9.length/\(t.k9.getD (t.k9.length-1) l9).cnt=t.count
 ·rw[if_pos h1]at h;cases h
 ·rw[if_neg h1]at h;by_cases h2:t.k9.length=32∨t.next=1099511627776
  ·rw[if_pos h2]at h;cases h
  ·exact⟨h1,fun e=>h2 (.inl e),fun e=>h2 (.inr e)⟩
theorem Om{t:r9}(g:S5 t)(h:jA t=0):S5 (oF t):=by
 obtain⟨h1,h2,h3⟩:=JW h;have w:=Vm g;have ln:=g.ln;have nx:=g.nx;have last:∀ s,s ∈ t.k9->s.cnt<t.count:=by
  intro s hs;obtain⟨i,hi,e⟩:=List.getElem_of_mem hs;have a:=(g.sn _ (G6 (d:=l9) (show t.k9.length-1<t.k9.length by omega))).2.1.2.1;have hl:(t.k9.getD (t.k9.length-1) l9).cnt<t.count:=by
   have:¬(t.k9.getD (t.k9.length-1) l9).cnt=t.count:=fun e=>h1 ⟨va5,e⟩
   omega
  by_cases e2:i=t.k9.length-1
  ·subst e2;rw[A6 hi,e]at hl;exact hl
  ·have:=(ck (d:=l9) g.up (show i<t.k9.length-1 by omega) va5).2;rw[A6 hi,e]at this;omega
 refine⟨g.bl,g.ct,⟨by show 0<=t.next+1;omega,by show t.next+1<=_;omega⟩,?_,?_,?_⟩
 ·show(t.k9++[_]).length<=32
  rw[List.length_append];simp only[zB2,List.length_nil];omega
 ·refine List.pairwise_append.2 ⟨g.up,List.pairwise_singleton _ _,fun a ha b hb=>?_⟩;obtain rfl:=List.mem_singleton.1 hb;exact⟨(g.sn a ha).1.2,last a ha⟩
 ·intro s hs;rcases List.mem_append.1 hs with hs|hs
  ·obtain⟨s1,s2,s3,s4⟩:=g.sn s hs;exact⟨⟨s1.1,by show s.id<t.next+1;omega⟩,s2,s3,s4⟩
  ·obtain rfl:=List.mem_singleton.1 hs;exact⟨⟨nx.1,by show t.next<t.next+1;omega⟩,⟨g.ct.1,Int.le_refl _,by show t.count<t.count+M4 t.m0 t.m0.w9;omega⟩,by show(0:Int)<=3;decide,fun h=>by cases h⟩
theorem Dh{α:Type}{d y:α}{l:List α}{i:Nat}:(l++[y]).getD i d=if i<l.length then l.getD i d else if i=l.length then y else d:=by
 simp only[List.getD];by_cases h:i<l.length
 ·rw[if_pos h,List.getElem?_append_left h]
 ·rw[if_neg h,List.getElem?_append_right va5];by_cases e:i=l.length
  ·rw[if_pos e,e];simp
  ·rw[if_neg e,zA7 (by simp;omega)];rfl
theorem Rv{l:K1}{d:Q5}(h:bn d=true)(hit:Bool):bn (wF l (qe d) hit)=true:=by
 have:=kX.1 h;refine kX.2 ?_;unfold wF qe;by_cases e:d.rounds=500
 ·rw[if_pos e];cases hit
  ·exact⟨⟨Int.le_refl 0,by show(0:Int)<=0+1;decide⟩,by show(0:Int)+1<=500;decide⟩
  ·exact⟨⟨by show(0:Int)<=0+1;decide,by show(0:Int)+1<=0+1;decide⟩,by show(0:Int)+1<=500;decide⟩
 ·rw[if_neg e];cases hit
  ·exact⟨⟨this.1.1,by show d.hits<=d.rounds+1;omega⟩,by show d.rounds+1<=500;omega⟩
  ·exact⟨⟨by show 0<=d.hits+1;omega,by show d.hits+1<=d.rounds+1;omega⟩,by show d.rounds+1<=500;omega⟩
theorem qn:bn fj=true:=by decide
theorem mN{l:K1}(h:bG l=0):1<=l.lag/\l.lag<=100:=(aA h).2.1.1
theorem JX(s t:V3):0<=mA s t/\mA s t<=3:=by
 unfold mA;split
 ·split<;>decide
 ·decide
theorem Rw{g:v7}{p:List Int}:0<=(E8 g p).2.1/\(E8 g p).2.1<=3:=by
 have z:(0:Int)<=0/\(0:Int)<=3:=by decide
 unfold E8;split
 ·unfold um;split
  ·show 0<=(if G2 g<=uk p (p.length-1)+E7 g then(3:Int)else 2)/\(if G2 g<=uk p (p.length-1)+E7 g then(3:Int)else 2)<=3
   split<;>decide
  ·split
   ·split
    ·exact JX _ _
    ·exact z
   ·exact z
 ·exact z
theorem lf{w:n8}{o:B5}(h:mM w o=0):fg o.o8 o.a8/\(0<=o.n/\o.n<=w.line.m0.len)/\w.drift.alarm=false/\jA w.o6=0:=by
 unfold mM at h;by_cases h1:fg o.o8 o.a8/\(0<=o.n/\o.n<=w.line.m0.len)
 ·rw[if_neg (fun e=>e h1)]at h;by_cases h2:w.drift.alarm=true
  ·rw[if_pos h2]at h;cases h
  ·rw[if_neg h2]at h;exact⟨h1.1,h1.2,by simpa using h2,h⟩
 ·rw[if_pos h1]at h;cases h
theorem vj{w:n8}(g:C9 w)(hs:jA w.o6=0){x:B7}{b:n9}{d:Q5}(hx:x.id=w.o6.next/\x.front=0/\(0<=x.len/\x.len<=w.line.m0.len)/\x.o5<=3/\x.due=w.o6.count+w.line.lag/\(-1<=x.seq/\x.seq<=b.next-1))
  (hb:P4 b) (hk:b.keep=w.n6.keep) (hn:w.n6.next<=b.next) (hd:bn d=true):C9 ⟨w.line,oF w.o6,b,d,w.k8++[x]⟩:=by
 have lg:=mN g.ln;have ct:=g.tk.ct;obtain⟨x1,x2,x3,x4,x5,x6⟩:=hx;refine⟨g.ln,g.bl,hk.trans g.kp,?_,hd,Om g.tk hs,hb,fun i hi=>?_⟩
 ·show(w.k8++[x]).length=(w.o6.k9++[_]).length
  rw[List.length_append,List.length_append,g.lt];rfl
 ·have hi:i<(w.k8++[x]).length:=hi;rw[List.length_append]at hi;simp only[zB2,List.length_nil]at hi;show sv ⟨w.line,oF w.o6,b,d,w.k8++[x]⟩ ((w.k8++[x]).getD i l5) ((w.o6.k9++[_]).getD i l9)
  rw[Dh,Dh];by_cases e:i<w.k8.length
  ·rw[if_pos e,if_pos (by rw[<- g.lt];exact e)];obtain⟨t1,t2,t3,t4,t5,t6⟩:=g.th i e;exact⟨t1,t2,t3,t4,t5,⟨t6.1,by show _<=b.next-1;omega⟩⟩
  ·have e2:i=w.k8.length:=by omega
   rw[if_neg e,if_pos e2,if_neg (by rw[<- g.lt];exact e),if_pos (by rw[<- g.lt];exact e2)];refine⟨x1,x3,?_,x4,?_,x6⟩
   ·show(w.o6.count-w.o6.count)*_<=x.front/\x.front<=(w.o6.count-w.o6.count)*_
    rw[x2,Int.sub_self,Int.zero_mul,Int.zero_mul];decide
   ·rw[x5];omega
theorem On{w:n8}(g:C9 w){o:B5}(h:mM w o=0):C9 (jB w o):=by
 obtain⟨h1,h2,h3,h4⟩:=lf h;have nx:=g.bk.nx;unfold jB;by_cases hr:wG w o
 ·rw[if_pos hr];refine vj g h4 ⟨rfl,rfl,h2,Rw.2,rfl,⟨by show -1<=w.n6.next;omega,by show w.n6.next<=w.n6.next+1-1;omega⟩⟩ (CY g.bk hr) rfl (by show w.n6.next<=w.n6.next+1;omega) (Rv g.df _)
 ·rw[if_neg hr];exact vj g h4 ⟨rfl,rfl,h2,by show(0:Int)<=3;decide,rfl,⟨by show(-1:Int) <= -1;decide,by show -1<=w.n6.next-1;omega⟩⟩ g.bk rfl (Int.le_refl _) g.df
theorem Oo{w:n8}(g:C9 w){b:n9}(hb:P4 b)(hk:b.keep=w.n6.keep)(hn:w.n6.next<=b.next):C9 (cV w b) :=
 ⟨g.ln,g.bl,hk.trans g.kp,g.lt,g.df,g.tk,hb,fun i hi=>by
  obtain⟨t1,t2,t3,t4,t5,t6⟩:=g.th i hi
  exact⟨t1,t2,t3,t4,t5,⟨t6.1,by show(w.k8.getD i l5).seq<=b.next-1;omega⟩⟩⟩
theorem Oq{w:n8}(g:C9 w):C9 (Dg w):=⟨g.ln,g.bl,g.kp,g.lt,qn,g.tk,g.bk,g.th⟩
theorem Rx{b:n9}(a:Ay):b.next<=(Ve b a).next:=by
 have c:=(Da b).2.2.2.1;unfold Ve;split
 ·exact Int.le_refl _
 ·split
  ·exact Int.le_refl _
  ·split
   ·exact Int.le_refl _
   ·split
    ·exact Int.le_of_eq c.symm
    ·split
     ·exact Int.le_refl _
     ·split
      ·show b.next<=b.next+1;omega
      ·split
       ·exact Int.le_refl _
       ·exact Int.le_refl _
theorem cn{w:n8}{n:Int}(h:bz w n=0):(w.line.m0.step-w.line.m0.v8<=n/\n<=w.line.m0.step+w.line.m0.v8)/\¬w.o6.count=1099511627776:=by
 unfold bz at h;by_cases h1:w.line.m0.step-w.line.m0.v8<=n/\n<=w.line.m0.step+w.line.m0.v8
 ·rw[if_neg (fun e=>e h1)]at h;by_cases h2:w.o6.count=1099511627776
  ·rw[if_pos h2]at h;cases h
  ·exact⟨h1,h2⟩
 ·rw[if_pos h1]at h;cases h
theorem V5{w:n8}(g:C9 w):S5 (s7 w)/\iv w.o6 (s7 w):=⟨qg _ _ g.tk,qf _ _⟩
theorem cu{w:n8}{n:Int}{i:Nat}(hi:i<w.k8.length):(moved w n).getD i l5=dy w.line.m0 (N5 (s7 w) (w.o6.count+1)) n (w.k8.getD i l5):=by
 simp[moved,List.getD,List.getElem?_map,zA6 hi]
theorem V6(w:n8)(n:Int):(moved w n).length=w.k8.length:=by simp[moved]
theorem vk{α:Type}{d:α}{l:List α}{i:Nat}:(l.drop 1).getD i d=l.getD (i+1) d:=by simp[List.getD,Nat.add_comm]
theorem Ot{w:n8}(g:C9 w){n:Int}(h:bz w n=0){i:Nat}(hi:i<w.k8.length) :
  sv (gz w n) ((moved w n).getD i l5) ((hits (s7 w)).getD i l9):=by
 obtain⟨h1,h2⟩:=cn h;obtain⟨t1,t2,t3,t4,t5,t6⟩:=g.th i hi;obtain⟨k1,k2,k3,k4,k5⟩:=(V5 g).2;rw[cu hi,Y5 _ _ (by rw[k4,<- g.lt];exact hi)];have ec:((s7 w).k9.getD i l9).cnt=(w.o6.k9.getD i l9).cnt:=(k5 i).2.1;have eid:((s7 w).k9.getD i l9).id=(w.o6.k9.getD i l9).id:=(k5 i).1;refine⟨t1.trans eid.symm,t2,?_,t4,t5,t6⟩;show((s7 w).count+1-((s7 w).k9.getD i l9).cnt)*(w.line.m0.step-w.line.m0.v8)<=(w.k8.getD i l5).front+n/\(w.k8.getD i l5).front+n<=((s7 w).count+1-((s7 w).k9.getD i l9).cnt)*(w.line.m0.step+w.line.m0.v8)
 rw[ec,k2,show w.o6.count+1-(w.o6.k9.getD i l9).cnt=(w.o6.count-(w.o6.k9.getD i l9).cnt)+1 by omega,Int.add_mul,Int.add_mul,Int.one_mul,Int.one_mul];omega
theorem Ou{w:n8}(g:C9 w){n:Int}(h:bz w n=0):C9 (gz w n):=by
 obtain⟨h1,h2⟩:=cn h;obtain⟨gk,sk⟩:=V5 g;have sk':=sk;obtain⟨k1,k2,k3,k4,k5⟩:=sk;have ct:=g.tk.ct;have ok:=fun i hi=>Ot g h (i:=i) hi
 refine⟨g.ln,k1.trans g.bl,g.kp,?_,g.df,Ol gk (by rw[k2];omega),g.bk,fun i hi=>?_⟩
 ·show(if I9 (s7 w)=true then(moved w n).drop 1 else moved w n).length=(if I9 (s7 w)=true then(hits (s7 w)).drop 1 else hits (s7 w)).length
  by_cases hg:I9 (s7 w)=true
  ·rw[if_pos hg,if_pos hg,List.length_drop,List.length_drop,V6,ab,k4,g.lt]
  ·rw[if_neg hg,if_neg hg,V6,ab,k4,g.lt]
 ·have hi:i<(if I9 (s7 w)=true then(moved w n).drop 1 else moved w n).length:=hi;show sv (gz w n) ((if I9 (s7 w)=true then(moved w n).drop 1 else moved w n).getD i l5) ((if I9 (s7 w)=true then(hits (s7 w)).drop 1 else hits (s7 w)).getD i l9)
  by_cases hg:I9 (s7 w)=true
  ·rw[if_pos hg]at hi;rw[if_pos hg,if_pos hg,vk,vk];rw[List.length_drop,V6]at hi;exact ok (i+1) va5
  ·rw[if_neg hg]at hi;rw[if_neg hg,if_neg hg];rw[V6]at hi;exact ok i hi
theorem Ov{w:n8}(g:C9 w)(o:B5):C9 (R9 w o):=by
 unfold R9;by_cases h:I7 w o=0
 ·rw[if_pos h];unfold I7 at h;unfold JN;by_cases k1:o.kind=1
  ·rw[if_pos k1]at h ⊢; exact Ou g h
  rw[if_neg k1]at h ⊢;by_cases k2:o.kind=2
  ·rw[if_pos k2]at h ⊢; exact On g h
  rw[if_neg k2]at h ⊢;by_cases k3:o.kind=10
  ·rw[if_pos k3];exact Oq g
  rw[if_neg k3]at h ⊢;exact Oo g (Rp g.bk h) (Rq g.bk h).1 (Rx _)
 ·rw[if_neg h];exact g
def Vn(l:K1)(v:Int):Int:=if Y1 l.m0 l.m0.w9<=l.lag then 0 else v
structure Vo (l:K1) (n:Int) (x:B7) (s:u6):Prop where
 dl:x.due=s.cnt+l.lag
 vr:0<=x.o5
 ve:s.o5=if l.lag<n then Vn l x.o5 else 0
 oh:x.out=true->s.hit=true
 ho:¬Vn l x.o5=1->l.m0.w9<=x.front->x.out=true
theorem JY(t:r9)(l:List B7)(x:B7):ir t (l++[x])=uW (ir t l) x:=by simp[ir,List.foldl_append]
def U0(w:n8)(t:r9):n8:=⟨w.line,t,w.n6,w.drift,w.k8⟩
theorem yc(t:r9){l:List B7}{k:Nat}(hk:k<l.length):ir t (l.take (k+1))=uW (ir t (l.take k)) (l.getD k l5):=by
 rw[List.take_add_one,zA6 hk,A6 hk];exact JY _ _ _
theorem kr{w:n8}(g:C9 w){i:Nat}(hi:i<w.k8.length):0<=(w.k8.getD i l5).front/\(w.k8.getD i l5).front<=4000002000:=by
 obtain⟨t1,t2,⟨t3,t4⟩,_⟩:=g.th i hi;have hs:=g.tk.sn _ (G6 (d:=l9) (l:=w.o6.k9) (i:=i) (by rw[<- g.lt];exact hi));have bl:=D3.1 g.tk.bl;have wr:=R7 g.tk.bl bl.2.2.1.1 bl.2.2.1.2;rw[g.bl]at bl;have a:=hs.2.1;generalize (w.o6.k9.getD i l9).cnt=c at *
 have p1:0<=(w.o6.count-c)*(w.line.m0.step-w.line.m0.v8):=Int.mul_nonneg va5 va5;have p2:(w.o6.count-c)*(w.line.m0.step+w.line.m0.v8)<=2000001*2000:=Int.mul_le_mul va5 va5 va5 va5;omega
theorem vm{w:n8}{n:Int}{k:Nat}(hk:k<w.k8.length):(moved w n).take (k+1)=(moved w n).take k++[dy w.line.m0 (N5 (s7 w) (w.o6.count+1)) n (w.k8.getD k l5)]:=by
 have hl:=V6 w n;rw[List.take_add_one,<- cu hk,zA6 va5,A6 va5];rfl
def L5(w:n8)(n:Int)(k:Nat):List B7:=if I9 (s7 w)=true then((moved w n).take k).drop 1 else(moved w n).take k
def dP(w:n8)(n:Int)(k:Nat):List dO:=if k=0 then []else cj w n
theorem Di(w:n8)(n:Int)(k:Nat):(L5 w n k).length<=k:=by
 unfold L5;split
 ·rw[List.length_drop,zB1];omega
 ·rw[zB1];omega
theorem Dj(w:n8)(n:Int):L5 w n w.k8.length=(gz w n).k8:=by
 have e:(moved w n).take w.k8.length=moved w n:=List.take_of_length_le (by rw[V6];omega);unfold L5 gz;rw[e]
theorem yd{w:n8}{n:Int}{k:Nat}(hk:k<w.k8.length)(h:¬(I9 (s7 w)=true/\k=0)):L5 w n (k+1)=L5 w n k++[dy w.line.m0 (N5 (s7 w) (w.o6.count+1)) n (w.k8.getD k l5)]:=by
 unfold L5;rw[vm hk];split
 ·rename_i hg;have LW:0<k:=Nat.pos_of_ne_zero fun e=>h ⟨hg,e⟩
  rw[List.drop_append_of_le_length (by rw[zB1,V6];omega)]
 ·rfl
theorem AL{w:n8}{n:Int}(hk:0<w.k8.length)(h:I9 (s7 w)=true):L5 w n 1=L5 w n 0:=by
 unfold L5;rw[if_pos h,if_pos h,vm (k:=0) hk];rfl
def qo(o:B5):Bool:=decide (100<o.o8.length∨100<o.a8.length)
theorem JZ(o:B5):va6 5 [ord o] (.bool (qo o)):=by
 unfold qo;refine vb4 Tryz.func5 ?_;refine ve5 ?_ ?_<;>intros
 all_goals (first|(refine congrArg AV.bool (Bool.eq_iff_iff.2 ?_);simp only[zA2,zA9,Bool.not_eq_true',zA3,decide_eq_false_iff_not,zB0,iff_false,iff_true,true_iff,false_iff,reduceCtorEq,not_true_eq_false,not_false_eq_true];omega))
def qp(x y:dO):Prop:=x.id=y.id/\x.seq=y.seq/\x.o5=y.o5/\x.hit=y.hit/\x.out=y.out
instance (x y:dO):Decidable (qp x y):=by unfold qp;infer_instance
def je(a b:oE):Bool:=decide (a.e=b.e/\a.n=b.n/\a.o9.length=b.o9.length) && (List.range a.o9.length).all fun i=>decide (qp (a.o9.getD i aa) (b.o9.getD i aa))
theorem lW(a b:oE)(hl:a.o9.length<2^20)(Lp:b.o9.length<2^20):va6 10 [bw a,bw b] (.bool (je a b)):=by
 by_cases h0:a.e=b.e/\a.n=b.n/\a.o9.length=b.o9.length
 ·obtain⟨h1,h2,h3⟩:=h0;refine vb4 Tryz.func10 ?_;refine ve4 ?_;(repeat intro hh);refine Or.inr ⟨Nat,[5],[],[],fun k=>[i64 k],fun _=>[],fun _=>[],fun k=>a.o9.length-k,fun k=>k<=a.o9.length/\∀ j,j<k->qp (a.o9.getD j aa) (b.o9.getD j aa),vb3 ?_⟩;refine⟨⟨0,?_⟩,?_⟩
  ·(conv=>whnf);exact kK ⟨⟨zB4 _,fun j hj=>absurd hj (zB3 j)⟩,rfl,rfl,rfl⟩
  rintro k ⟨hk,hn⟩;conv=>whnf
  refine⟨fun h=>?_,fun h=>?_⟩
  ·have h:=zA1 h;have L4:k<a.o9.length:=by omega
   conv=>whnf
   refine vf3 ?_ ?_<;>(repeat intro hh)
   ·have V8:¬qp (a.o9.getD k aa) (b.o9.getD k aa):=fun q=>by
     obtain⟨q1,q2,q3,q4,q5⟩:=q;rcases hh with z|z|z|z|z|z
     ·exact z q1
     ·exact z q2
     ·exact z q3
     ·rw[beq_eq_false_iff_ne]at z;exact z q4
     ·rw[beq_eq_false_iff_ne]at z;exact z q5
     ·cases z
    have e:je a b=false:=by
     unfold je;rw[Bool.and_eq_false_iff]
     right
     rw[<- Bool.not_eq_true,List.all_eq_true];intro q;exact V8 (zA1 (q k (List.mem_range.2 L4)))
    rw[e]
   ·have hy:qp (a.o9.getD k aa) (b.o9.getD k aa):=by
     obtain⟨q1,q2,q3,q4,q5,_⟩:=hh;exact⟨q1,q2,q3,eq_of_beq q4,eq_of_beq q5⟩
    refine⟨k+1,vb3 ?_⟩;refine kK ⟨⟨?_,?_,fun j hj=>?_⟩,?_,rfl,rfl⟩
    ·show a.o9.length-(k+1)<a.o9.length-k;omega
    ·show k+1<=a.o9.length;omega
    ·by_cases z:j=k
     ·subst z;exact hy
     ·exact hn j (by have hj:j<k+1:=hj;omega)
    ·rw[z5 _ va5 va5];rfl
  ·have h:=zA0 h;have ek:k=a.o9.length:=by omega
   rw[ek]at hn;conv=>whnf
   have e:je a b=true:=by
    unfold je;rw[zA4 ⟨h1,h2,h3⟩,Bool.true_and,List.all_eq_true];exact fun i hi=>zA4 (hn i (List.mem_range.1 hi))
   rw[e];all_goals rfl
 ·have e:je a b=false:=by unfold je;rw[zA5 h0];rfl
  rw[e];refine pF Tryz.func10 ?_;conv=>whnf
  try exact va1
  all_goals rfl
structure vn where
 ord:B5
 j9:v7
 o5:Int
 seq:Int
structure Yx where
 line:K1
 gauges:List v7
 active:Int
 pieces:List vn
 drift:Q5
 o9:List dO
 world:n8
def gA:vn:=⟨a1t,NA,0,0⟩
structure Ka (l:K1) (i:Nat) (y:dO) (p:vn):Prop where
 id:y.id=i
 vr:y.o5=Vn l p.o5
 sq:y.seq=p.seq
 nt:¬y.o5=1->y.out=true/\y.hit=true
 oh:y.out=true->y.hit=true
structure Ry (l:K1) (next:Int) (p:vn):Prop where
 ob:fg p.ord.o8 p.ord.a8
 ln:0<=p.ord.n/\p.ord.n<=l.m0.len
 rc:(p.seq = -1/\p.o5=0)∨((0<=p.seq/\p.seq<next)/\N0 p.j9=true/\(E8 p.j9 (K8 p.ord.o8 p.ord.a8)).2.2=0/\(E8 p.j9 (K8 p.ord.o8 p.ord.a8)).2.1=p.o5)
structure Yy (w:n8) (ps:List vn) (s:A2):Prop where
 pt:0<=s.part/\s.part<ps.length
 sq:(ps.getD s.part.toNat gA).seq=s.seq
 pf:s.n7=K8 (ps.getD s.part.toNat gA).ord.o8 (ps.getD s.part.toNat gA).ord.a8
 ga:(w.n6.j8.getD s.recipe.toNat p9).j9=(ps.getD s.part.toNat gA).j9
 vr:s.o5=(ps.getD s.part.toNat gA).o5
structure Told (l:K1) (w:n8) (b:Yx):Prop where
 gw:C9 w
 ln:w.line=l/\b.line=l
 ga:b.gauges.length=w.n6.j8.length/\∀ i,i<w.n6.j8.length->b.gauges.getD i NA=(w.n6.j8.getD i p9).j9
 ac:if w.n6.j8.any K7=true then b.active=C6 w.n6.j8 else b.active = -1
 df:b.drift=w.drift
 np:(b.pieces.length:Int)=w.o6.next
 le:b.o9.length+w.k8.length=b.pieces.length
 th:∀ i,i<w.k8.length->(w.k8.getD i l5).id=(b.o9.length+i:Nat)/\(w.k8.getD i l5).len=(b.pieces.getD (b.o9.length+i) gA).ord.n/\(w.k8.getD i l5).o5=(b.pieces.getD (b.o9.length+i) gA).o5 /\
  (w.k8.getD i l5).seq=(b.pieces.getD (b.o9.length+i) gA).seq
 pr:∀ i,i<w.k8.length->Vo l (w.o6.count-(w.o6.k9.getD i l9).cnt) (w.k8.getD i l5) (w.o6.k9.getD i l9)
 oc:∀ i,i<b.o9.length->Ka l i (b.o9.getD i aa) (b.pieces.getD i gA)
 pc:∀ i,i<b.pieces.length->Ry l w.n6.next (b.pieces.getD i gA)
 lg:∀ s,s ∈ w.n6.log->Yy w b.pieces s

end Go.Proofs.Tryz.My
