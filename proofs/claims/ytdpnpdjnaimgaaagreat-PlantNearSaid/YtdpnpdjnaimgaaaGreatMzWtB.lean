/- A helper text: contracts of functions of the program, and plain lemmas. -/
import Derived.Test.YtdpnpdjnaimgaaaGreatMzWaA
set_option maxRecDepth 100000
set_option maxHeartbeats 0
set_option linter.unusedVariables false
set_option linter.unusedSimpArgs false
namespace Go.Proofs.Tryz.My
open Go Go.Ev
theorem b48 {t:TrackT} (g:GoodTk t):(1<=winA t.belt t.belt.gate/\winA t.belt t.belt.gate<=1000000)/\(1<=winB t.belt t.belt.gate/\winB t.belt t.belt.gate<=2000001):=by
 have:=z7.1 g.bl
 exact I8 g.bl this.2.2.1.1 this.2.2.1.2
theorem b0T {t:TrackT} (g:GoodTk t) {s:SeenT} (h:s ∈ (advT t).parts):∃ x,x ∈ t.parts/\s=hitS t.belt (opnB t (t.count + 1)) (t.count + 1) x/\¬x.cnt + winB t.belt t.belt.gate=t.count + 1:=by
 rw [<- (J8 g).1] at h
 obtain ⟨h1,h2⟩:=List.mem_filter.1 h
 obtain ⟨x,hx,e⟩:=List.mem_map.1 h1
 refine ⟨x,hx,e.symm,?_⟩
 subst e
 have h2:(!decide (x.cnt + winB t.belt t.belt.gate=t.count + 1))=true:=h2
 simpa using h2
theorem b2E {t:TrackT} (g:GoodTk t) (hc:t.count < 1099511627776):GoodTk (advT t):=by
 have hp:(advT t).parts.length<=t.parts.length:=by
  rw [<- (J8 g).1]
  exact Nat.le_trans (List.length_filter_le _ _) (by rw [S7]; exact Nat.le_refl _)
 refine ⟨g.bl,⟨by show 0<=t.count + 1; have:=g.ct; omega,by show t.count + 1<=_; omega⟩,g.nx,Nat.le_trans hp g.ln,?_,fun s hs => ?_⟩
 ·rw [<- (J8 g).1]
  refine List.Pairwise.filter _ ?_
  unfold hits
  rw [List.pairwise_map]
  exact g.up.imp fun h=>h
 ·obtain ⟨x,hx,rfl,hn⟩:=b0T g hs
  obtain ⟨s1,s2,s3,s4⟩:=g.sn x hx
  refine ⟨s1,⟨s2.1,by show x.cnt<=t.count + 1; omega,by show t.count + 1 < x.cnt + winB t.belt t.belt.gate; omega⟩,s3,fun h => ?_⟩
  show x.cnt + winA t.belt t.belt.gate<=t.count + 1
  have h:(x.hit || (opnB t (t.count + 1) && K8 t.belt x (t.count + 1)))=true:=h
  rw [Bool.or_eq_true,Bool.and_eq_true] at h
  rcases h with h | ⟨_,h⟩
  ·have:=s4 h; omega
  ·unfold K8 at h
   simp only [Bool.and_eq_true,decide_eq_true_eq] at h
   exact h.1
theorem b0U {t:TrackT} (h:senE t=0):¬(0 < t.parts.length/\(t.parts.getD (t.parts.length - 1) a8).cnt=t.count)/\¬t.parts.length=32/\¬t.next=1099511627776:=by
 unfold senE at h
 by_cases h1:0 < t.parts.length/\(t.parts.getD (t.parts.length - 1) a8).cnt=t.count
 ·rw [if_pos h1] at h; cases h
 ·rw [if_neg h1] at h
  by_cases h2:t.parts.length=32∨t.next=1099511627776
  ·rw [if_pos h2] at h; cases h
  ·exact ⟨h1,fun e=>h2 (.inl e),fun e=>h2 (.inr e)⟩
theorem b2F {t:TrackT} (g:GoodTk t) (h:senE t=0):GoodTk (senT t):=by
 obtain ⟨h1,h2,h3⟩:=b0U h
 have w:=b48 g
 have ln:=g.ln
 have nx:=g.nx
 have last:∀ s,s ∈ t.parts->s.cnt < t.count:=by
  intro s hs
  obtain ⟨i,hi,e⟩:=List.getElem_of_mem hs
  have a:=(g.sn _ (C0 (d:=a8) (show t.parts.length - 1 < t.parts.length by omega))).2.1.2.1
  have hl:(t.parts.getD (t.parts.length - 1) a8).cnt < t.count:=by
   have:¬(t.parts.getD (t.parts.length - 1) a8).cnt=t.count:=fun e=>h1 ⟨by omega,e⟩
   omega
  by_cases e2:i=t.parts.length - 1
  ·subst e2; rw [l0 hi,e] at hl; exact hl
  ·have:=(M1 (d:=a8) g.up (show i < t.parts.length - 1 by omega) (by omega)).2
   rw [l0 hi,e] at this
   omega
 refine ⟨g.bl,g.ct,⟨by show 0<=t.next + 1; omega,by show t.next + 1<=_; omega⟩,?_,?_,?_⟩
 ·show (t.parts++[_]).length<=32
  rw [List.length_append]
  simp only [List.length_cons,List.length_nil]
  omega
 ·refine List.pairwise_append.2 ⟨g.up,List.pairwise_singleton _ _,fun a ha b hb => ?_⟩
  obtain rfl:=List.mem_singleton.1 hb
  exact ⟨(g.sn a ha).1.2,last a ha⟩
 ·intro s hs
  rcases List.mem_append.1 hs with hs | hs
  ·obtain ⟨s1,s2,s3,s4⟩:=g.sn s hs
   exact ⟨⟨s1.1,by show s.id < t.next + 1; omega⟩,s2,s3,s4⟩
  ·obtain rfl:=List.mem_singleton.1 hs
   exact ⟨⟨nx.1,by show t.next < t.next + 1; omega⟩,⟨g.ct.1,Int.le_refl _,by show t.count < t.count + winB t.belt t.belt.gate; omega⟩,by show (0:Int)<=3; decide,fun h=>by cases h⟩
theorem a7F {α:Type} {d y:α} {l:List α} {i:Nat}:(l++[y]).getD i d=if i < l.length then l.getD i d else if i=l.length then y else d:=by
 simp only [List.getD]
 by_cases h:i < l.length
 ·rw [if_pos h,List.getElem?_append_left h]
 ·rw [if_neg h,List.getElem?_append_right (by omega)]
  by_cases e:i=l.length
  ·rw [if_pos e,e]; simp
  ·rw [if_neg e,List.getElem?_eq_none (by simp; omega)]; rfl
theorem b3W {l:LineT} {d:DriftT} (h:U8 d=true) (hit:Bool):U8 (takD l (drfS d) hit)=true:=by
 have:=a1F.1 h
 refine a1F.2 ?_
 unfold takD drfS
 by_cases e:d.rounds=500
 ·rw [if_pos e]
  cases hit
  ·exact ⟨⟨Int.le_refl 0,by show (0:Int)<=0 + 1; decide⟩,by show (0:Int) + 1<=500; decide⟩
  ·exact ⟨⟨by show (0:Int)<=0 + 1; decide,by show (0:Int) + 1<=0 + 1; decide⟩,by show (0:Int) + 1<=500; decide⟩
 ·rw [if_neg e]
  cases hit
  ·exact ⟨⟨this.1.1,by show d.hits<=d.rounds + 1; omega⟩,by show d.rounds + 1<=500; omega⟩
  ·exact ⟨⟨by show 0<=d.hits + 1; omega,by show d.hits + 1<=d.rounds + 1; omega⟩,by show d.rounds + 1<=500; omega⟩
theorem a4H:U8 Y5=true:=by decide
theorem a8V {l:LineT} (h:S5 l=0):1<=l.lag/\l.lag<=100:=(N7 h).2.1.1
theorem b0V (s t:SpT):0<=verV s t/\verV s t<=3:=by
 unfold verV
 split
 ·split<;>decide
 ·decide
theorem b3X {g:GauT} {p:List Int}:0<=(meaF g p).2.1/\(meaF g p).2.1<=3:=by
 have z:(0:Int)<=0/\(0:Int)<=3:=by decide
 unfold meaF
 split
 ·unfold meaG
  split
  ·show 0<=(if gThr g<=mxK p (p.length - 1) + gNoi g then (3:Int) else 2)/\(if gThr g<=mxK p (p.length - 1) + gNoi g then (3:Int) else 2)<=3
   split<;>decide
  ·split
   ·split
    ·exact b0V _ _
    ·exact z
   ·exact z
 ·exact z
theorem a4I {w:WorldT} {o:OrderT} (h:prtE w o=0):V9 o.tru o.noise/\(0<=o.n/\o.n<=w.line.belt.len)/\w.drift.alarm=false/\senE w.track=0:=by
 unfold prtE at h
 by_cases h1:V9 o.tru o.noise/\(0<=o.n/\o.n<=w.line.belt.len)
 ·rw [if_neg (fun e=>e h1)] at h
  by_cases h2:w.drift.alarm=true
  ·rw [if_pos h2] at h; cases h
  ·rw [if_neg h2] at h
   exact ⟨h1.1,h1.2,by simpa using h2,h⟩
 ·rw [if_pos h1] at h; cases h
theorem a3s {w:WorldT} (g:GoodW w) (hs:senE w.track=0) {x:ThingT} {b:BooksT} {d:DriftT} (hx:x.id=w.track.next/\x.front=0/\(0<=x.len/\x.len<=w.line.belt.len)/\x.verdict<=3/\x.due=w.track.count + w.line.lag/\(-1<=x.seq/\x.seq<=b.next - 1))
  (hb:GoodB b) (hk:b.keep=w.books.keep) (hn:w.books.next<=b.next) (hd:U8 d=true):GoodW ⟨w.line,senT w.track,b,d,w.things++[x]⟩:=by
 have lg:=a8V g.ln
 have ct:=g.tk.ct
 obtain ⟨x1,x2,x3,x4,x5,x6⟩:=hx
 refine ⟨g.ln,g.bl,hk.trans g.kp,?_,hd,b2F g.tk hs,hb,fun i hi => ?_⟩
 ·show (w.things++[x]).length=(w.track.parts++[_]).length
  rw [List.length_append,List.length_append,g.lt]; rfl
 ·have hi:i < (w.things++[x]).length:=hi
  rw [List.length_append] at hi
  simp only [List.length_cons,List.length_nil] at hi
  show a2g ⟨w.line,senT w.track,b,d,w.things++[x]⟩ ((w.things++[x]).getD i b8) ((w.track.parts++[_]).getD i a8)
  rw [a7F,a7F]
  by_cases e:i < w.things.length
  ·rw [if_pos e,if_pos (by rw [<- g.lt]; exact e)]
   obtain ⟨t1,t2,t3,t4,t5,t6⟩:=g.th i e
   exact ⟨t1,t2,t3,t4,t5,⟨t6.1,by show _<=b.next - 1; omega⟩⟩
  ·have e2:i=w.things.length:=by omega
   rw [if_neg e,if_pos e2,if_neg (by rw [<- g.lt]; exact e),if_pos (by rw [<- g.lt]; exact e2)]
   refine ⟨x1,x3,?_,x4,?_,x6⟩
   ·show (w.track.count - w.track.count) * _<=x.front/\x.front<=(w.track.count - w.track.count) * _
    rw [x2,Int.sub_self,Int.zero_mul,Int.zero_mul]; decide
   ·rw [x5]; omega
theorem b2G {w:WorldT} (g:GoodW w) {o:OrderT} (h:prtE w o=0):GoodW (prtW w o):=by
 obtain ⟨h1,h2,h3,h4⟩:=a4I h
 have nx:=g.bk.nx
 unfold prtW
 by_cases hr:recd w o
 ·rw [if_pos hr]
  refine a3s g h4 ⟨rfl,rfl,h2,b3X.2,rfl,⟨by show -1<=w.books.next; omega,by show w.books.next<=w.books.next + 1 - 1; omega⟩⟩ (a7t g.bk hr) rfl (by show w.books.next<=w.books.next + 1; omega) (b3W g.df _)
 ·rw [if_neg hr]
  exact a3s g h4 ⟨rfl,rfl,h2,by show (0:Int)<=3; decide,rfl,⟨by show (-1:Int) <= -1; decide,by show -1<=w.books.next - 1; omega⟩⟩ g.bk rfl (Int.le_refl _) g.df
theorem b2H {w:WorldT} (g:GoodW w) {b:BooksT} (hb:GoodB b) (hk:b.keep=w.books.keep) (hn:w.books.next<=b.next):GoodW (bokW w b) :=
 ⟨g.ln,g.bl,hk.trans g.kp,g.lt,g.df,g.tk,hb,fun i hi=>by
  obtain ⟨t1,t2,t3,t4,t5,t6⟩:=g.th i hi
  exact ⟨t1,t2,t3,t4,t5,⟨t6.1,by show (w.things.getD i b8).seq<=b.next - 1; omega⟩⟩⟩
theorem b2I {w:WorldT} (g:GoodW w):GoodW (rstW w):=⟨g.ln,g.bl,g.kp,g.lt,a4H,g.tk,g.bk,g.th⟩
theorem b3Y {b:BooksT} (a:ActT):b.next<=(doB b a).next:=by
 have c:=(a7v b).2.2.2.1
 unfold doB
 split
 ·exact Int.le_refl _
 ·split
  ·exact Int.le_refl _
  ·split
   ·exact Int.le_refl _
   ·split
    ·exact Int.le_of_eq c.symm
    ·split
     ·exact Int.le_refl _
     ·split
      ·show b.next<=b.next + 1; omega
      ·split
       ·exact Int.le_refl _
       ·exact Int.le_refl _
theorem a0c {w:WorldT} {n:Int} (h:cntE w n=0):(w.line.belt.step - w.line.belt.slip<=n/\n<=w.line.belt.step + w.line.belt.slip)/\¬w.track.count=1099511627776:=by
 unfold cntE at h
 by_cases h1:w.line.belt.step - w.line.belt.slip<=n/\n<=w.line.belt.step + w.line.belt.slip
 ·rw [if_neg (fun e=>e h1)] at h
  by_cases h2:w.track.count=1099511627776
  ·rw [if_pos h2] at h; cases h
  ·exact ⟨h1,h2⟩
 ·rw [if_pos h1] at h; cases h
theorem S9 {w:WorldT} (g:GoodW w):GoodTk (n6 w)/\S6 w.track (n6 w):=⟨a4G _ _ g.tk,a4F _ _⟩
theorem a3t {w:WorldT} {n:Int} {i:Nat} (hi:i < w.things.length):(moved w n).getD i b8=movT w.line.belt (opnB (n6 w) (w.track.count + 1)) n (w.things.getD i b8):=by
 simp [moved,List.getD,List.getElem?_map,List.getElem?_eq_getElem hi]
theorem M2 (w:WorldT) (n:Int):(moved w n).length=w.things.length:=by simp [moved]
theorem a3u {α:Type} {d:α} {l:List α} {i:Nat}:(l.drop 1).getD i d=l.getD (i + 1) d:=by simp [List.getD,Nat.add_comm]
theorem b2J {w:WorldT} (g:GoodW w) {n:Int} (h:cntE w n=0) {i:Nat} (hi:i < w.things.length) :
  a2g (cntW w n) ((moved w n).getD i b8) ((hits (n6 w)).getD i a8):=by
 obtain ⟨h1,h2⟩:=a0c h
 obtain ⟨t1,t2,t3,t4,t5,t6⟩:=g.th i hi
 obtain ⟨k1,k2,k3,k4,k5⟩:=(S9 g).2
 rw [a3t hi,S8 _ _ (by rw [k4,<- g.lt]; exact hi)]
 have ec:((n6 w).parts.getD i a8).cnt=(w.track.parts.getD i a8).cnt:=(k5 i).2.1
 have eid:((n6 w).parts.getD i a8).id=(w.track.parts.getD i a8).id:=(k5 i).1
 refine ⟨t1.trans eid.symm,t2,?_,t4,t5,t6⟩
 show ((n6 w).count + 1 - ((n6 w).parts.getD i a8).cnt) * (w.line.belt.step - w.line.belt.slip)<=(w.things.getD i b8).front + n/\(w.things.getD i b8).front + n<=((n6 w).count + 1 - ((n6 w).parts.getD i a8).cnt) * (w.line.belt.step + w.line.belt.slip)
 rw [ec,k2,show w.track.count + 1 - (w.track.parts.getD i a8).cnt=(w.track.count - (w.track.parts.getD i a8).cnt) + 1 by omega,Int.add_mul,Int.add_mul,Int.one_mul,Int.one_mul]
 omega
theorem b2K {w:WorldT} (g:GoodW w) {n:Int} (h:cntE w n=0):GoodW (cntW w n):=by
 obtain ⟨h1,h2⟩:=a0c h
 obtain ⟨gk,sk⟩:=S9 g
 have sk':=sk
 obtain ⟨k1,k2,k3,k4,k5⟩:=sk
 have ct:=g.tk.ct
 have ok:=fun i hi=>b2J g h (i:=i) hi
 refine ⟨g.ln,k1.trans g.bl,g.kp,?_,g.df,b2E gk (by rw [k2]; omega),g.bk,fun i hi => ?_⟩
 ·show (if B9 (n6 w)=true then (moved w n).drop 1 else moved w n).length=(if B9 (n6 w)=true then (hits (n6 w)).drop 1 else hits (n6 w)).length
  by_cases hg:B9 (n6 w)=true
  ·rw [if_pos hg,if_pos hg,List.length_drop,List.length_drop,M2,S7,k4,g.lt]
  ·rw [if_neg hg,if_neg hg,M2,S7,k4,g.lt]
 ·have hi:i < (if B9 (n6 w)=true then (moved w n).drop 1 else moved w n).length:=hi
  show a2g (cntW w n) ((if B9 (n6 w)=true then (moved w n).drop 1 else moved w n).getD i b8) ((if B9 (n6 w)=true then (hits (n6 w)).drop 1 else hits (n6 w)).getD i a8)
  by_cases hg:B9 (n6 w)=true
  ·rw [if_pos hg] at hi
   rw [if_pos hg,if_pos hg,a3u,a3u]
   rw [List.length_drop,M2] at hi
   exact ok (i + 1) (by omega)
  ·rw [if_neg hg] at hi
   rw [if_neg hg,if_neg hg]
   rw [M2] at hi
   exact ok i hi
theorem b2L {w:WorldT} (g:GoodW w) (o:OrderT):GoodW (stpW w o):=by
 unfold stpW
 by_cases h:stpE w o=0
 ·rw [if_pos h]
  unfold stpE at h
  unfold stpX
  by_cases k1:o.kind=1
  ·rw [if_pos k1] at h ⊢; exact b2K g h
  rw [if_neg k1] at h ⊢
  by_cases k2:o.kind=2
  ·rw [if_pos k2] at h ⊢; exact b2G g h
  rw [if_neg k2] at h ⊢
  by_cases k3:o.kind=10
  ·rw [if_pos k3]; exact b2I g
  rw [if_neg k3] at h ⊢
  exact b2H g (b3T g.bk h) (b3U g.bk h).1 (b3Y _)
 ·rw [if_neg h]; exact g
def veff (l:LineT) (v:Int):Int:=if winA l.belt l.belt.gate<=l.lag then 0 else v
structure PairOK (l:LineT) (n:Int) (x:ThingT) (s:SeenT):Prop where
 dl:x.due=s.cnt + l.lag
 vr:0<=x.verdict
 ve:s.verdict=if l.lag < n then veff l x.verdict else 0
 oh:x.out=true->s.hit=true
 ho:¬veff l x.verdict=1->l.belt.gate<=x.front->x.out=true
def tolS (t:TrackT) (x:ThingT) (s:SeenT):SeenT :=
 if x.verdict=0∨¬x.due=t.count then s else if (1<=x.verdict/\x.verdict<=3)/\s.verdict=0/\t.count < s.cnt + winA t.belt t.belt.gate then verS s x.verdict else s
theorem b0W (t:TrackT) (l:List ThingT) (x:ThingT):telA t (l++[x])=tel1 (telA t l) x:=by simp [telA,List.foldl_append]
def trkW (w:WorldT) (t:TrackT):WorldT:=⟨w.line,t,w.books,w.drift,w.things⟩
theorem b0X (t:TrackT) {l:List ThingT} {k:Nat} (hk:k < l.length):telA t (l.take (k + 1))=tel1 (telA t (l.take k)) (l.getD k b8):=by
 rw [List.take_add_one,List.getElem?_eq_getElem hk,l0 hk]
 exact b0W _ _ _
theorem a7G {w:WorldT} (g:GoodW w) {i:Nat} (hi:i < w.things.length):0<=(w.things.getD i b8).front/\(w.things.getD i b8).front<=4000002000:=by
 obtain ⟨t1,t2,⟨t3,t4⟩,_⟩:=g.th i hi
 have hs:=g.tk.sn _ (C0 (d:=a8) (l:=w.track.parts) (i:=i) (by rw [<- g.lt]; exact hi))
 have bl:=z7.1 g.tk.bl
 have wr:=I8 g.tk.bl bl.2.2.1.1 bl.2.2.1.2
 rw [g.bl] at bl
 have a:=hs.2.1
 generalize (w.track.parts.getD i a8).cnt=c at *
 have p1:0<=(w.track.count - c) * (w.line.belt.step - w.line.belt.slip):=Int.mul_nonneg (by omega) (by omega)
 have p2:(w.track.count - c) * (w.line.belt.step + w.line.belt.slip)<=2000001 * 2000:=Int.mul_le_mul (by omega) (by omega) (by omega) (by omega)
 omega
def thgK (w:WorldT) (n:Int) (k:Nat):List ThingT:=if B9 (n6 w)=true then ((moved w n).take k).drop 1 else (moved w n).take k
def outK (w:WorldT) (n:Int) (k:Nat):List OutT:=if k=0 then [] else cntO w n

end Go.Proofs.Tryz.My
