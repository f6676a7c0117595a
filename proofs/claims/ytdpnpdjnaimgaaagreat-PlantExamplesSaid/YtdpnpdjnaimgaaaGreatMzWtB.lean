/- Helper lemmas. -/
import Derived.Test.YtdpnpdjnaimgaaaGreatMzWaA
set_option linter.unusedVariables false
set_option linter.unusedSimpArgs false
set_option maxRecDepth 100000
set_option maxHeartbeats 0
namespace Go.Proofs.Tryz.My
open Go Go.Ev
theorem Rx {t:w8} (g:T9 t):(1<=V4 t.n8 t.n8.y9/\V4 t.n8 t.n8.y9<=1000000)/\(1<=N7 t.n8 t.n8.y9/\N7 t.n8 t.n8.y9<=2000001):=by
 have:=G1.1 g.bl
 exact bC g.bl this.2.2.1.1 this.2.2.1.2
theorem Hs {t:w8} (g:T9 t) {s:x7} (h:s ∈ (gP t).k9):∃ x,x ∈ t.k9/\s=S9 t.n8 (cH t (t.count + 1)) (t.count + 1) x/\¬x.cnt + N7 t.n8 t.n8.y9=t.count + 1:=by
 rw [<- (bZ g).1] at h
 obtain ⟨h1,h2⟩:=List.mem_filter.1 h
 obtain ⟨x,hx,e⟩:=List.mem_map.1 h1
 refine ⟨x,hx,e.symm,?_⟩
 subst e
 have h2:(!decide (x.cnt + N7 t.n8 t.n8.y9=t.count + 1))=true:=h2
 simpa using h2
theorem Lm {t:w8} (g:T9 t) (hc:t.count < 1099511627776):T9 (gP t):=by
 have hp:(gP t).k9.length<=t.k9.length:=by
  rw [<- (bZ g).1]
  exact Nat.le_trans (List.length_filter_le _ _) (by rw [fN];exact Nat.le_refl _)
 refine ⟨g.bl,⟨by show 0<=t.count + 1;have:=g.ct;omega,by show t.count + 1<=_;omega⟩,g.nx,Nat.le_trans hp g.ln,?_,fun s hs=>?_⟩
 ·rw [<- (bZ g).1]
  refine List.Pairwise.filter _ ?_
  unfold hits
  rw [List.pairwise_map]
  exact g.up.imp fun h=>h
 ·obtain ⟨x,hx,rfl,hn⟩:=Hs g hs
  obtain ⟨s1,s2,s3,s4⟩:=g.sn x hx
  refine ⟨s1,⟨s2.1,by show x.cnt<=t.count + 1;omega,by show t.count + 1 < x.cnt + N7 t.n8 t.n8.y9;omega⟩,s3,fun h=>?_⟩
  show x.cnt + V4 t.n8 t.n8.y9<=t.count + 1
  have h:(x.hit || (cH t (t.count + 1) && aG t.n8 x (t.count + 1)))=true:=h
  rw [Bool.or_eq_true,Bool.and_eq_true] at h
  rcases h with h|⟨_,h⟩
  ·have:=s4 h;omega
  ·unfold aG at h
   simp only [Bool.and_eq_true,decide_eq_true_eq] at h
   exact h.1
theorem Ht {t:w8} (h:nY t=0):¬(0 < t.k9.length/\(t.k9.getD (t.k9.length - 1) n4).cnt=t.count)/\¬t.k9.length=32/\¬t.next=1099511627776:=by
 unfold nY at h
 by_cases h1:0 < t.k9.length/\(t.k9.getD (t.k9.length - 1) n4).cnt=t.count
 ·rw [if_pos h1] at h;cases h
 ·rw [if_neg h1] at h
  by_cases h2:t.k9.length=32∨t.next=1099511627776
  ·rw [if_pos h2] at h;cases h
  ·exact ⟨h1,fun e=>h2 (.inl e),fun e=>h2 (.inr e)⟩
theorem Ln {t:w8} (g:T9 t) (h:nY t=0):T9 (ue t):=by
 obtain ⟨h1,h2,h3⟩:=Ht h
 have w:=Rx g
 have ln:=g.ln
 have nx:=g.nx
 have last:∀ s,s ∈ t.k9->s.cnt < t.count:=by
  intro s hs
  obtain ⟨i,hi,e⟩:=List.getElem_of_mem hs
  have a:=(g.sn _ (I2 (d:=n4) (show t.k9.length - 1 < t.k9.length by omega))).2.1.2.1
  have hl:(t.k9.getD (t.k9.length - 1) n4).cnt < t.count:=by
   have:¬(t.k9.getD (t.k9.length - 1) n4).cnt=t.count:=fun e=>h1 ⟨by omega,e⟩
   omega
  by_cases e2:i=t.k9.length - 1
  ·subst e2;rw [x9 hi,e] at hl;exact hl
  ·have:=(aj (d:=n4) g.up (show i < t.k9.length - 1 by omega) (by omega)).2
   rw [x9 hi,e] at this
   omega
 refine ⟨g.bl,g.ct,⟨by show 0<=t.next + 1;omega,by show t.next + 1<=_;omega⟩,?_,?_,?_⟩
 ·show (t.k9++[_]).length<=32
  rw [List.length_append]
  simp only [List.length_cons,List.length_nil]
  omega
 ·refine List.pairwise_append.2 ⟨g.up,List.pairwise_singleton _ _,fun a ha b hb=>?_⟩
  obtain rfl:=List.mem_singleton.1 hb
  exact ⟨(g.sn a ha).1.2,last a ha⟩
 ·intro s hs
  rcases List.mem_append.1 hs with hs|hs
  ·obtain ⟨s1,s2,s3,s4⟩:=g.sn s hs
   exact ⟨⟨s1.1,by show s.id < t.next + 1;omega⟩,s2,s3,s4⟩
  ·obtain rfl:=List.mem_singleton.1 hs
   exact ⟨⟨nx.1,by show t.next < t.next + 1;omega⟩,⟨g.ct.1,Int.le_refl _,by show t.count < t.count + N7 t.n8 t.n8.y9;omega⟩,by show (0:Int)<=3;decide,fun h=>by cases h⟩
theorem Q7 {α:Type} {d y:α} {l:List α} {i:Nat}:(l++[y]).getD i d=if i < l.length then l.getD i d else if i=l.length then y else d:=by
 simp only [List.getD]
 by_cases h:i < l.length
 ·rw [if_pos h,List.getElem?_append_left h]
 ·rw [if_neg h,List.getElem?_append_right (by omega)]
  by_cases e:i=l.length
  ·rw [if_pos e,e];simp
  ·rw [if_neg e,List.getElem?_eq_none (by simp;omega)];rfl
theorem Fl {l:A5} {d:P8} (h:Z4 d=true) (hit:Bool):Z4 (sQ l (jb d) hit)=true:=by
 have:=nV.1 h
 refine nV.2 ?_
 unfold sQ jb
 by_cases e:d.rounds=500
 ·rw [if_pos e]
  cases hit
  ·exact ⟨⟨Int.le_refl 0,by show (0:Int)<=0 + 1;decide⟩,by show (0:Int) + 1<=500;decide⟩
  ·exact ⟨⟨by show (0:Int)<=0 + 1;decide,by show (0:Int) + 1<=0 + 1;decide⟩,by show (0:Int) + 1<=500;decide⟩
 ·rw [if_neg e]
  cases hit
  ·exact ⟨⟨this.1.1,by show d.hits<=d.rounds + 1;omega⟩,by show d.rounds + 1<=500;omega⟩
  ·exact ⟨⟨by show 0<=d.hits + 1;omega,by show d.hits + 1<=d.rounds + 1;omega⟩,by show d.rounds + 1<=500;omega⟩
theorem jC:Z4 X3=true:=by decide
theorem xZ {l:A5} (h:J3 l=0):1<=l.lag/\l.lag<=100:=(K3 h).2.1.1
theorem Hu (s t:X2):0<=mr s t/\mr s t<=3:=by
 unfold mr
 split
 ·split<;>decide
 ·decide
theorem Fm {g:x8} {p:List Int}:0<=(F8 g p).2.1/\(F8 g p).2.1<=3:=by
 have z:(0:Int)<=0/\(0:Int)<=3:=by decide
 unfold F8
 split
 ·unfold xm
  split
  ·show 0<=(if H8 g<=ES p (p.length - 1) + D9 g then (3:Int) else 2)/\(if H8 g<=ES p (p.length - 1) + D9 g then (3:Int) else 2)<=3
   split<;>decide
  ·split
   ·split
    ·exact Hu _ _
    ·exact z
   ·exact z
 ·exact z
theorem fP {w:n9} {o:r8} (h:jR w o=0):fJ o.tru o.a8/\(0<=o.n/\o.n<=w.line.n8.len)/\w.drift.alarm=false/\nY w.o8=0:=by
 unfold jR at h
 by_cases h1:fJ o.tru o.a8/\(0<=o.n/\o.n<=w.line.n8.len)
 ·rw [if_neg (fun e=>e h1)] at h
  by_cases h2:w.drift.alarm=true
  ·rw [if_pos h2] at h;cases h
  ·rw [if_neg h2] at h
   exact ⟨h1.1,h1.2,by simpa using h2,h⟩
 ·rw [if_pos h1] at h;cases h
theorem kY {w:n9} (g:I6 w) (hs:nY w.o8=0) {x:B6} {b:o7} {d:P8} (hx:x.id=w.o8.next/\x.front=0/\(0<=x.len/\x.len<=w.line.n8.len)/\x.o6<=3/\x.due=w.o8.count + w.line.lag/\(-1<=x.seq/\x.seq<=b.next - 1))
  (hb:L5 b) (hk:b.keep=w.l9.keep) (hn:w.l9.next<=b.next) (hd:Z4 d=true):I6 ⟨w.line,ue w.o8,b,d,w.n6++[x]⟩:=by
 have lg:=xZ g.ln
 have ct:=g.tk.ct
 obtain ⟨x1,x2,x3,x4,x5,x6⟩:=hx
 refine ⟨g.ln,g.bl,hk.trans g.kp,?_,hd,Ln g.tk hs,hb,fun i hi=>?_⟩
 ·show (w.n6++[x]).length=(w.o8.k9++[_]).length
  rw [List.length_append,List.length_append,g.lt];rfl
 ·have hi:i < (w.n6++[x]).length:=hi
  rw [List.length_append] at hi
  simp only [List.length_cons,List.length_nil] at hi
  show qf ⟨w.line,ue w.o8,b,d,w.n6++[x]⟩ ((w.n6++[x]).getD i n5) ((w.o8.k9++[_]).getD i n4)
  rw [Q7,Q7]
  by_cases e:i < w.n6.length
  ·rw [if_pos e,if_pos (by rw [<- g.lt];exact e)]
   obtain ⟨t1,t2,t3,t4,t5,t6⟩:=g.th i e
   exact ⟨t1,t2,t3,t4,t5,⟨t6.1,by show _<=b.next - 1;omega⟩⟩
  ·have e2:i=w.n6.length:=by omega
   rw [if_neg e,if_pos e2,if_neg (by rw [<- g.lt];exact e),if_pos (by rw [<- g.lt];exact e2)]
   refine ⟨x1,x3,?_,x4,?_,x6⟩
   ·show (w.o8.count - w.o8.count) * _<=x.front/\x.front<=(w.o8.count - w.o8.count) * _
    rw [x2,Int.sub_self,Int.zero_mul,Int.zero_mul];decide
   ·rw [x5];omega
theorem Lo {w:n9} (g:I6 w) {o:r8} (h:jR w o=0):I6 (jc w o):=by
 obtain ⟨h1,h2,h3,h4⟩:=fP h
 have nx:=g.bk.nx
 unfold jc
 by_cases hr:sR w o
 ·rw [if_pos hr]
  refine kY g h4 ⟨rfl,rfl,h2,Fm.2,rfl,⟨by show -1<=w.l9.next;omega,by show w.l9.next<=w.l9.next + 1 - 1;omega⟩⟩ (sH g.bk hr) rfl (by show w.l9.next<=w.l9.next + 1;omega) (Fl g.df _)
 ·rw [if_neg hr]
  exact kY g h4 ⟨rfl,rfl,h2,by show (0:Int)<=3;decide,rfl,⟨by show (-1:Int) <= -1;decide,by show -1<=w.l9.next - 1;omega⟩⟩ g.bk rfl (Int.le_refl _) g.df
theorem AK {w:n9} (g:I6 w) {b:o7} (hb:L5 b) (hk:b.keep=w.l9.keep) (hn:w.l9.next<=b.next):I6 (dv w b) :=
 ⟨g.ln,g.bl,hk.trans g.kp,g.lt,g.df,g.tk,hb,fun i hi=>by
  obtain ⟨t1,t2,t3,t4,t5,t6⟩:=g.th i hi
  exact ⟨t1,t2,t3,t4,t5,⟨t6.1,by show (w.n6.getD i n5).seq<=b.next - 1;omega⟩⟩⟩
theorem AL {w:n9} (g:I6 w):I6 (Dz w):=⟨g.ln,g.bl,g.kp,g.lt,jC,g.tk,g.bk,g.th⟩
theorem Fo {b:o7} (a:tZ):b.next<=(lq b a).next:=by
 have c:=(sJ b).2.2.2.1
 unfold lq
 split
 ·exact Int.le_refl _
 ·split
  ·exact Int.le_refl _
  ·split
   ·exact Int.le_refl _
   ·split
    ·exact Int.le_of_eq c.symm
    ·split
     ·exact Int.le_refl _
     ·split
      ·show b.next<=b.next + 1;omega
      ·split
       ·exact Int.le_refl _
       ·exact Int.le_refl _
theorem fQ {w:n9} {n:Int} (h:ir w n=0):(w.line.n8.step - w.line.n8.A0<=n/\n<=w.line.n8.step + w.line.n8.A0)/\¬w.o8.count=1099511627776:=by
 unfold ir at h
 by_cases h1:w.line.n8.step - w.line.n8.A0<=n/\n<=w.line.n8.step + w.line.n8.A0
 ·rw [if_neg (fun e=>e h1)] at h
  by_cases h2:w.o8.count=1099511627776
  ·rw [if_pos h2] at h;cases h
  ·exact ⟨h1,h2⟩
 ·rw [if_pos h1] at h;cases h
theorem ak {w:n9} (g:I6 w):T9 (v8 w)/\fM w.o8 (v8 w):=⟨ou _ _ g.tk,ot _ _⟩
theorem gQ {w:n9} {n:Int} {i:Nat} (hi:i < w.n6.length):(moved w n).getD i n5=nZ w.line.n8 (cH (v8 w) (w.o8.count + 1)) n (w.n6.getD i n5):=by
 simp [moved,List.getD,List.getElem?_map,List.getElem?_eq_getElem hi]
theorem W6 (w:n9) (n:Int):(moved w n).length=w.n6.length:=by simp [moved]
theorem dw {α:Type} {d:α} {l:List α} {i:Nat}:(l.drop 1).getD i d=l.getD (i + 1) d:=by simp [List.getD,Nat.add_comm]
theorem AM {w:n9} (g:I6 w) {n:Int} (h:ir w n=0) {i:Nat} (hi:i < w.n6.length) :
  qf (X4 w n) ((moved w n).getD i n5) ((hits (v8 w)).getD i n4):=by
 obtain ⟨h1,h2⟩:=fQ h
 obtain ⟨t1,t2,t3,t4,t5,t6⟩:=g.th i hi
 obtain ⟨k1,k2,k3,k4,k5⟩:=(ak g).2
 rw [gQ hi,bI _ _ (by rw [k4,<- g.lt];exact hi)]
 have ec:((v8 w).k9.getD i n4).cnt=(w.o8.k9.getD i n4).cnt:=(k5 i).2.1
 have eid:((v8 w).k9.getD i n4).id=(w.o8.k9.getD i n4).id:=(k5 i).1
 refine ⟨t1.trans eid.symm,t2,?_,t4,t5,t6⟩
 show ((v8 w).count + 1 - ((v8 w).k9.getD i n4).cnt) * (w.line.n8.step - w.line.n8.A0)<=(w.n6.getD i n5).front + n/\(w.n6.getD i n5).front + n<=((v8 w).count + 1 - ((v8 w).k9.getD i n4).cnt) * (w.line.n8.step + w.line.n8.A0)
 rw [ec,k2,show w.o8.count + 1 - (w.o8.k9.getD i n4).cnt=(w.o8.count - (w.o8.k9.getD i n4).cnt) + 1 by omega,Int.add_mul,Int.add_mul,Int.one_mul,Int.one_mul]
 omega
theorem AN {w:n9} (g:I6 w) {n:Int} (h:ir w n=0):I6 (X4 w n):=by
 obtain ⟨h1,h2⟩:=fQ h
 obtain ⟨gk,sk⟩:=ak g
 have sk':=sk
 obtain ⟨k1,k2,k3,k4,k5⟩:=sk
 have ct:=g.tk.ct
 have ok:=fun i hi=>AM g h (i:=i) hi
 refine ⟨g.ln,k1.trans g.bl,g.kp,?_,g.df,Lm gk (by rw [k2];omega),g.bk,fun i hi=>?_⟩
 ·show (if N2 (v8 w)=true then (moved w n).drop 1 else moved w n).length=(if N2 (v8 w)=true then (hits (v8 w)).drop 1 else hits (v8 w)).length
  by_cases hg:N2 (v8 w)=true
  ·rw [if_pos hg,if_pos hg,List.length_drop,List.length_drop,W6,fN,k4,g.lt]
  ·rw [if_neg hg,if_neg hg,W6,fN,k4,g.lt]
 ·have hi:i < (if N2 (v8 w)=true then (moved w n).drop 1 else moved w n).length:=hi
  show qf (X4 w n) ((if N2 (v8 w)=true then (moved w n).drop 1 else moved w n).getD i n5) ((if N2 (v8 w)=true then (hits (v8 w)).drop 1 else hits (v8 w)).getD i n4)
  by_cases hg:N2 (v8 w)=true
  ·rw [if_pos hg] at hi
   rw [if_pos hg,if_pos hg,dw,dw]
   rw [List.length_drop,W6] at hi
   exact ok (i + 1) (by omega)
  ·rw [if_neg hg] at hi
   rw [if_neg hg,if_neg hg]
   rw [W6] at hi
   exact ok i hi
theorem AO {w:n9} (g:I6 w) (o:r8):I6 (Q6 w o):=by
 unfold Q6
 by_cases h:K0 w o=0
 ·rw [if_pos h]
  unfold K0 at h
  unfold od
  by_cases k1:o.kind=1
  ·rw [if_pos k1] at h ⊢; exact AN g h
  rw [if_neg k1] at h ⊢
  by_cases k2:o.kind=2
  ·rw [if_pos k2] at h ⊢; exact Lo g h
  rw [if_neg k2] at h ⊢
  by_cases k3:o.kind=10
  ·rw [if_pos k3];exact AL g
  rw [if_neg k3] at h ⊢
  exact AK g (Ff g.bk h) (Fg g.bk h).1 (Fo _)
 ·rw [if_neg h];exact g
theorem Ry {b:G3} (h:O2 b=true):V4 b b.y9<=N7 b b.y9:=by
 obtain ⟨⟨a1,a2⟩,⟨b1,b2⟩,⟨c1,c2⟩,d1,d2⟩:=G1.1 h
 unfold V4 N7
 rw [Int.tdiv_eq_ediv_of_nonneg (by omega),Int.tdiv_eq_ediv_of_nonneg (by omega)]
 have:(b.y9 - 1) / (b.step + b.A0)<=(b.y9 + b.len) / (b.step - b.A0):=by
  have e1:(b.y9 - 1) / (b.step + b.A0)<=(b.y9 - 1) / (b.step - b.A0):=by
   rw [Int.le_ediv_iff_mul_le (by omega)]
   have q0:0<=(b.y9 - 1) / (b.step + b.A0):=Int.ediv_nonneg (by omega) (by omega)
   have q1:(b.y9 - 1) / (b.step + b.A0) * (b.step + b.A0)<=b.y9 - 1:=Int.ediv_mul_le _ (by omega)
   have q2:(b.y9 - 1) / (b.step + b.A0) * (b.step - b.A0)<=(b.y9 - 1) / (b.step + b.A0) * (b.step + b.A0):=Int.mul_le_mul_of_nonneg_left (by omega) q0
   omega
  have e2:(b.y9 - 1) / (b.step - b.A0)<=(b.y9 + b.len) / (b.step - b.A0):=Int.ediv_le_ediv (by omega) (by omega)
  omega
 omega
theorem Hv {b:G3} (h:O2 b=true) {n:Int} (hn:0<=n) (hf:b.y9<=n * (b.step + b.A0)):V4 b b.y9<=n:=by
 obtain ⟨⟨a1,a2⟩,⟨b1,b2⟩,⟨c1,c2⟩,d1,d2⟩:=G1.1 h
 unfold V4
 rw [Int.tdiv_eq_ediv_of_nonneg (by omega)]
 have:(b.y9 - 1) / (b.step + b.A0) < n:=by
  rw [Int.ediv_lt_iff_lt_mul (by omega)]
  omega
 omega
theorem Lp {b:G3} (h:O2 b=true):b.y9 + b.len < N7 b b.y9 * (b.step - b.A0):=by
 obtain ⟨⟨a1,a2⟩,⟨b1,b2⟩,⟨c1,c2⟩,d1,d2⟩:=G1.1 h
 unfold N7
 rw [Int.tdiv_eq_ediv_of_nonneg (by omega)]
 have:=Int.lt_ediv_add_one_mul_self (b.y9 + b.len) (show 0 < b.step - b.A0 by omega)
 exact this
def ov (l:A5) (v:Int):Int:=if V4 l.n8 l.n8.y9<=l.lag then 0 else v
theorem Hw (l:A5):ov l 0=0:=by unfold ov;split<;>rfl
structure ox (l:A5) (n:Int) (x:B6) (s:x7):Prop where
 dl:x.due=s.cnt + l.lag
 vr:0<=x.o6
 ve:s.o6=if l.lag < n then ov l x.o6 else 0
 oh:x.out=true->s.hit=true
 ho:¬ov l x.o6=1->l.n8.y9<=x.front->x.out=true
def uf (t:w8) (x:B6) (s:x7):x7 :=
 if x.o6=0∨¬x.due=t.count then s else if (1<=x.o6/\x.o6<=3)/\s.o6=0/\t.count < s.cnt + V4 t.n8 t.n8.y9 then Ru s x.o6 else s
theorem On {l:List x7} (h:List.Pairwise oe l) {k:Nat} (hk:k < l.length):l.any (W5 (l.getD k n4).id)=true/\l.findIdx (W5 (l.getD k n4).id)=k:=by
 have hp:W5 (l.getD k n4).id (l.getD k n4)=true:=decide_eq_true rfl
 have ha:l.any (W5 (l.getD k n4).id)=true:=List.any_eq_true.2 ⟨_,I2 hk,hp⟩
 refine ⟨ha,?_⟩
 have hi:=fK ha
 have him:=List.findIdx_getElem (p:=W5 (l.getD k n4).id) (xs:=l) (w:=hi)
 have e:(l.getD (l.findIdx (W5 (l.getD k n4).id)) n4).id=(l.getD k n4).id:=by rw [x9 hi];exact of_decide_eq_true him
 rcases Nat.lt_trichotomy (l.findIdx (W5 (l.getD k n4).id)) k with q|q|q
 ·have:=(aj (d:=n4) h q hk).1;omega
 ·exact q
 ·have:=(aj (d:=n4) h q hi).1;omega
theorem vy (t:w8) (l:List B6) (x:B6):jQ t (l++[x])=ud (jQ t l) x:=by simp [jQ,List.foldl_append]
theorem Oo {t:w8} (g:T9 t) {l:List B6} (hl:l.length=t.k9.length) (BZ:∀ i,i < l.length->(l.getD i n5).id=(t.k9.getD i n4).id) :
  ∀ k,k<=l.length->∀ i,i < l.length->(jQ t (l.take k)).k9.getD i n4=if i < k then uf t (l.getD i n5) (t.k9.getD i n4) else t.k9.getD i n4:=by
 intro k
 induction k with
 | zero=>intro _ i hi;rw [List.take_zero,if_neg (Nat.not_lt_zero i)];rfl
 | succ k ih =>
  intro hk i hi
  have L7:k < l.length:=by omega
  have et:l.take (k + 1)=l.take k++[l.getD k n5]:=by
   rw [List.take_add_one,List.getElem?_eq_getElem L7,x9 L7];rfl
  have ih:=ih (by omega)
  rw [et,vy]
  have gu:=ou (l.take k) t g
  obtain ⟨u1,u2,u3,u4,u5⟩:=ot (l.take k) t
  generalize jQ t (l.take k)=u at *
  have ek:u.k9.getD k n4=t.k9.getD k n4:=by rw [ih k L7,if_neg (Nat.lt_irrefl k)]
  have XG:k < u.k9.length:=by omega
  obtain ⟨f1,f2⟩:=On gu.up XG
  rw [ek,<- BZ k L7] at f1 f2
  generalize hx:l.getD k n5=x at *
  have other:∀ y,(i=k->y=uf t x (t.k9.getD k n4))->(u.k9.set k y).getD i n4=if i < k + 1 then uf t (l.getD i n5) (t.k9.getD i n4) else t.k9.getD i n4:=by
   intro y hy
   rw [oq]
   by_cases e:i=k
   ·subst e
    rw [if_pos ⟨rfl,XG⟩,if_pos (Nat.lt_succ_self _),hx,hy rfl]
   ·rw [if_neg (fun q=>e q.1.symm),ih i hi]
    by_cases e2:i < k
    ·rw [if_pos e2,if_pos (by omega)]
    ·rw [if_neg e2,if_neg (by omega)]
  have stay:uf t x (t.k9.getD k n4)=t.k9.getD k n4->u.k9.getD i n4=if i < k + 1 then uf t (l.getD i n5) (t.k9.getD i n4) else t.k9.getD i n4:=by
   intro e
   have:=other (u.k9.getD k n4) fun _=>by rw [ek,e]
   rw [<- this,oq]
   by_cases e2:k=i
   ·rw [if_pos ⟨e2,XG⟩,e2]
   ·rw [if_neg (fun q=>e2 q.1)]
  unfold ud
  by_cases c1:x.o6=0∨¬x.due=u.count
  ·rw [if_pos c1]
   exact stay (by unfold uf;rw [if_pos (by rw [<- u2];exact c1)])
  ·rw [if_neg c1]
   have YO:¬(x.o6=0∨¬x.due=t.count):=by rw [<- u2];exact c1
   by_cases c2:mN u x.id x.o6=0
   ·rw [if_pos c2]
    obtain ⟨z1,_,z3,z4⟩:=og c2
    rw [f2,ek] at z3 z4
    rw [u1,u2] at z4
    unfold xY
    rw [f2,ek]
    refine other _ fun _=>?_
    unfold uf
    rw [if_neg YO,if_pos ⟨z1,z3,z4⟩]
   ·rw [if_neg c2]
    refine stay ?_
    unfold uf
    rw [if_neg YO,if_neg]
    rintro ⟨z1,z3,z4⟩
    apply c2
    unfold mN
    rw [if_neg (by omega),if_neg (fun q=>q f1),f2,ek,if_neg]
    rw [u1,u2]
    rintro (q|q)
    ·exact q z3
    ·omega
theorem Oq {w:n9} (g:I6 w) {i:Nat} (hi:i < w.n6.length):(v8 w).k9.getD i n4=uf w.o8 (w.n6.getD i n5) (w.o8.k9.getD i n4):=by
 have:=Oo g.tk g.lt (fun i hi=>(g.th i hi).1) w.n6.length (Nat.le_refl _) i hi
 rw [List.take_length,if_pos hi] at this
 exact this
theorem Lq {w:n9} (g:I6 w) {n:Int} (h:ir w n=0) {i:Nat} (hi:i < w.n6.length) (p:ox w.line (w.o8.count - (w.o8.k9.getD i n4).cnt) (w.n6.getD i n5) (w.o8.k9.getD i n4)) :
  ox w.line (w.o8.count + 1 - ((hits (v8 w)).getD i n4).cnt) ((moved w n).getD i n5) ((hits (v8 w)).getD i n4):=by
 obtain ⟨h1,h2⟩:=fQ h
 obtain ⟨gk,k1,k2,k3,k4,k5⟩:=ak g
 obtain ⟨t1,t2,t3,t4,t5,t6⟩:=g.th i hi
 have hb:=(K3 g.ln).1
 have Td:=g.bl
 have YP:i < w.o8.k9.length:=by rw [<- g.lt];exact hi
 have hit:i < (v8 w).k9.length:=by rw [k4];exact YP
 have sn:=g.tk.sn _ (I2 (d:=n4) YP)
 have mem:(v8 w).k9.getD i n4 ∈ (v8 w).k9:=I2 hit
 rw [gQ hi,bI _ _ hit]
 have ec:=(k5 i).2.1
 have eh:=(k5 i).2.2
 have ev:((v8 w).k9.getD i n4).o6=if w.line.lag < w.o8.count + 1 - (w.o8.k9.getD i n4).cnt then ov w.line (w.n6.getD i n5).o6 else 0:=by
  rw [Oq g hi]
  have e1:=p.dl
  have e2:=p.ve
  have e3:=p.vr
  unfold uf
  by_cases c1:(w.n6.getD i n5).o6=0∨¬(w.n6.getD i n5).due=w.o8.count
  ·rw [if_pos c1,e2]
   by_cases q1:w.line.lag < w.o8.count - (w.o8.k9.getD i n4).cnt
   ·rw [if_pos q1,if_pos (by omega)]
   ·rw [if_neg q1]
    by_cases q2:w.line.lag < w.o8.count + 1 - (w.o8.k9.getD i n4).cnt
    ·rw [if_pos q2]
     rcases c1 with c1|c1
     ·rw [c1,Hw]
     ·omega
    ·rw [if_neg q2]
  ·rw [if_neg c1]
   have hd:(w.n6.getD i n5).due=w.o8.count:=Decidable.byContradiction fun q=>c1 (.inr q)
   have hv:¬(w.n6.getD i n5).o6=0:=fun q=>c1 (.inl q)
   rw [if_neg (show ¬w.line.lag < w.o8.count - (w.o8.k9.getD i n4).cnt by omega)] at e2
   rw [if_pos (show w.line.lag < w.o8.count + 1 - (w.o8.k9.getD i n4).cnt by omega)]
   unfold ov
   rw [Td]
   by_cases q:V4 w.line.n8 w.line.n8.y9<=w.line.lag
   ·rw [if_neg (fun z=>by omega),if_pos q,e2]
   ·rw [if_pos ⟨by omega,e2,by omega⟩,if_neg q];rfl
 generalize hs:(v8 w).k9.getD i n4=s at *
 generalize hx:w.n6.getD i n5=x at *
 generalize hs0:w.o8.k9.getD i n4=s0 at *
 have hn:w.o8.count + 1 - s0.cnt=(w.o8.count - s0.cnt) + 1:=by omega
 have XH:x.front + n<=(w.o8.count + 1 - s0.cnt) * (w.line.n8.step + w.line.n8.A0):=by
  rw [hn,Int.add_mul,Int.one_mul];omega
 have here:w.line.n8.y9<=x.front + n->aG w.line.n8 s (w.o8.count + 1)=true:=by
  intro hg
  have s1:=sn.2.1.2.1
  have s2:=sn.2.1.2.2
  rw [Td] at s2
  have:=Hv hb (n:=w.o8.count + 1 - s0.cnt) (by omega) (by omega)
  unfold aG
  rw [ec,decide_eq_true (by omega),decide_eq_true (by omega)]
  rfl
 have op:¬ov w.line x.o6=1->w.line.n8.y9<=x.front + n->cH (v8 w) (w.o8.count + 1)=true:=by
  intro hv hg
  refine List.any_eq_true.2 ⟨s,mem,?_⟩
  have:¬s.o6=1:=by
   rw [ev]
   split
   ·exact hv
   ·decide
  rw [decide_eq_false this,k1,Td,here hg]
  rfl
 refine ⟨p.dl.trans (by show _=s.cnt + w.line.lag;rw [ec]),p.vr,?_,?_,?_⟩
 ·show s.o6=if w.line.lag < w.o8.count + 1 - s.cnt then ov w.line x.o6 else 0
  rw [ec];exact ev
 ·intro ho
  show (s.hit || (cH (v8 w) ((v8 w).count + 1) && aG (v8 w).n8 s ((v8 w).count + 1)))=true
  have ho:(x.out || (cH (v8 w) (w.o8.count + 1) && (decide (w.line.n8.y9<=x.front + n) && decide (x.front<=w.line.n8.y9 + x.len))))=true:=ho
  rw [k2,k1,Td]
  simp only [Bool.or_eq_true,Bool.and_eq_true,decide_eq_true_eq] at ho ⊢
  rcases ho with ho|⟨ho,hg,_⟩
  ·exact .inl (by rw [eh];exact p.oh ho)
  ·exact .inr ⟨ho,here hg⟩
 ·intro hv hg
  have hg:w.line.n8.y9<=x.front + n:=hg
  show (x.out || (cH (v8 w) (w.o8.count + 1) && (decide (w.line.n8.y9<=x.front + n) && decide (x.front<=w.line.n8.y9 + x.len))))=true
  by_cases q:w.line.n8.y9<=x.front
  ·rw [p.ho hv q];rfl
  ·rw [op hv hg,decide_eq_true hg,decide_eq_true (by omega)]
   simp
def AP (w:n9) (t:w8):n9:=⟨w.line,t,w.l9,w.drift,w.n6⟩
theorem Hy (t:w8) {l:List B6} {k:Nat} (hk:k < l.length):jQ t (l.take (k + 1))=ud (jQ t (l.take k)) (l.getD k n5):=by
 rw [List.take_add_one,List.getElem?_eq_getElem hk,x9 hk]
 exact vy _ _ _
theorem AQ {w:n9} (g:I6 w) {i:Nat} (hi:i < w.n6.length):0<=(w.n6.getD i n5).front/\(w.n6.getD i n5).front<=4000002000:=by
 obtain ⟨t1,t2,⟨t3,t4⟩,_⟩:=g.th i hi
 have hs:=g.tk.sn _ (I2 (d:=n4) (l:=w.o8.k9) (i:=i) (by rw [<- g.lt];exact hi))
 have bl:=G1.1 g.tk.bl
 have wr:=bC g.tk.bl bl.2.2.1.1 bl.2.2.1.2
 rw [g.bl] at bl
 have a:=hs.2.1
 generalize (w.o8.k9.getD i n4).cnt=c at *
 have p1:0<=(w.o8.count - c) * (w.line.n8.step - w.line.n8.A0):=Int.mul_nonneg (by omega) (by omega)
 have p2:(w.o8.count - c) * (w.line.n8.step + w.line.n8.A0)<=2000001 * 2000:=Int.mul_le_mul (by omega) (by omega) (by omega) (by omega)
 omega

end Go.Proofs.Tryz.My
