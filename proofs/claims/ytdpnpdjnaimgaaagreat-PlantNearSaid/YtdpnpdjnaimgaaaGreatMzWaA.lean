/- A helper text: contracts of functions of the program, and plain lemmas. -/
import Derived.Test.YtdpnpdjnaimgaaaGreatMzBqX
import Derived.Test.YtdpnpdjnaimgaaaGreatMzRfC
import Init
import Derived.Test.YtdpnpdjnaimgaaaGreatEvSix
import Derived.Test.YtdpnpdjnaimgaaaGreatMzGaX
import Derived.Test.YtdpnpdjnaimgaaaGreatMzExA
import Derived.Test.YtdpnpdjnaimgaaaGreatMzBnA
set_option maxRecDepth 100000
set_option maxHeartbeats 0
set_option linter.unusedVariables false
set_option linter.unusedSimpArgs false
namespace Go.Proofs.Tryz.My
open Go Go.Ev
structure BeltT where
 step:Int
 slip:Int
 gate:Int
 len:Int
structure LineT where
 belt:BeltT
 lag:Int
 keep:Int
 p:Int
 q:Int
 al:Int×Int
structure SeenT where
 id:Int
 cnt:Int
 verdict:Int
 hit:Bool
structure TrackT where
 belt:BeltT
 count:Int
 next:Int
 parts:List SeenT
structure DriftT where
 hits:Int
 rounds:Int
 alarm:Bool
structure ThingT where
 id:Int
 front:Int
 len:Int
 verdict:Int
 due:Int
 seq:Int
 out:Bool
structure WorldT where
 line:LineT
 track:TrackT
 books:BooksT
 drift:DriftT
 things:List ThingT
def a8:SeenT:=⟨0,0,0,false⟩
def b8:ThingT:=⟨0,0,0,0,0,0,false⟩
def b5Q:BeltT:=⟨0,0,0,0⟩
def b2w (b:BeltT):List AV:=[i64 b.step,i64 b.slip,i64 b.gate,i64 b.len]
def b5A (l:LineT):List AV:=[i64 l.belt.step,i64 l.belt.slip,i64 l.belt.gate,i64 l.belt.len,i64 l.lag,i64 l.keep,i64 l.p,i64 l.q,i64 l.al.1,i64 l.al.2]
def b5B (l:LineT):List AV:=[i64 l.p,i64 l.q,i64 l.al.1,i64 l.al.2]
def u9 (s:SeenT):List AV:=[i64 s.id,i64 s.cnt,u8 s.verdict,.bool s.hit]
def x9 (x:ThingT):List AV:=[i64 x.id,i64 x.front,i64 x.len,u8 x.verdict,i64 x.due,i64 x.seq,.bool x.out]
def a55 (d:DriftT):List AV:=[i64 d.hits,i64 d.rounds,.bool d.alarm]
abbrev I0 (l:List SeenT):AV := .sl 4 a8 u9 l
abbrev thgs (l:List ThingT):AV := .sl 7 b8 x9 l
def b41 (t:TrackT):List AV:=[i64 t.belt.step,i64 t.belt.slip,i64 t.belt.gate,i64 t.belt.len,i64 t.count,i64 t.next,I0 t.parts]
def eW (w:WorldT):List AV:=[i64 w.line.belt.step,i64 w.line.belt.slip,i64 w.line.belt.gate,i64 w.line.belt.len,i64 w.line.lag,i64 w.line.keep,i64 w.line.p,i64 w.line.q,i64 w.line.al.1,i64 w.line.al.2,
 i64 w.track.belt.step,i64 w.track.belt.slip,i64 w.track.belt.gate,i64 w.track.belt.len,i64 w.track.count,i64 w.track.next,I0 w.track.parts,
 i64 w.books.keep,u8l w.books.users,recs w.books.recipes,i64 w.books.next,ents w.books.log,i64 w.drift.hits,i64 w.drift.rounds,.bool w.drift.alarm,thgs w.things]
abbrev bel (b:BeltT):AV := .agg (b2w b)
abbrev lin (l:LineT):AV := .agg (b5A l)
abbrev tst (l:LineT):AV := .agg (b5B l)
abbrev trk (t:TrackT):AV := .agg (b41 t)
abbrev wld (w:WorldT):AV := .agg (eW w)
def D2 (b:BeltT):Bool:=decide ((1<=b.step/\b.step<=1000)/\(0<=b.slip/\b.slip < b.step)/\(1<=b.gate/\b.gate<=1000000)/\(1<=b.len/\b.len<=1000000))
theorem z7 {b:BeltT}:D2 b=true↔(1<=b.step/\b.step<=1000)/\(0<=b.slip/\b.slip < b.step)/\(1<=b.gate/\b.gate<=1000000)/\(1<=b.len/\b.len<=1000000):=decide_eq_true_iff
def limB (a:Int×Int):Bool:=b9 a && decide (0 < a.1/\a.1 < a.2/\a.2<=1073741824)
theorem b3V {a:Int×Int}:limB a=true↔b9 a=true/\0 < a.1/\a.1 < a.2/\a.2<=1073741824:=by
 simp only [limB,Bool.and_eq_true,decide_eq_true_eq]
def a11 (l:LineT):Bool:=decide (1<=l.p/\l.p < l.q/\l.q<=255) && limB l.al
theorem b2x {l:LineT}:a11 l=true↔(1<=l.p/\l.p < l.q/\l.q<=255)/\limB l.al=true:=by
 simp only [a11,Bool.and_eq_true,decide_eq_true_eq]
def S5 (l:LineT):Int:=if D2 l.belt=true then (if (1<=l.lag/\l.lag<=100)/\(1<=l.keep/\l.keep<=32) then (if a11 l=true then 0 else 81) else 2) else 90
theorem N7 {l:LineT} (h:S5 l=0):D2 l.belt=true/\((1<=l.lag/\l.lag<=100)/\(1<=l.keep/\l.keep<=32))/\a11 l=true:=by
 unfold S5 at h
 split at h
 ·split at h
  ·split at h
   ·exact ⟨by assumption,by assumption,by assumption⟩
   ·cases h
  ·cases h
 ·cases h
def winA (b:BeltT) (place:Int):Int:=Int.tdiv (place - 1) (b.step + b.slip) + 1
def winB (b:BeltT) (place:Int):Int:=Int.tdiv (place + b.len) (b.step - b.slip) + 1
theorem I8 {b:BeltT} (h:D2 b=true) {place:Int} (h1:1<=place) (h2:place<=1000000):(1<=winA b place/\winA b place<=1000000)/\(1<=winB b place/\winB b place<=2000001):=by
 obtain ⟨⟨a1,a2⟩,⟨b1,b2⟩,⟨c1,c2⟩,d1,d2⟩:=z7.1 h
 unfold winA winB
 rw [Int.tdiv_eq_ediv_of_nonneg (by omega),Int.tdiv_eq_ediv_of_nonneg (by omega)]
 have u1:0<=(place - 1) / (b.step + b.slip):=Int.ediv_nonneg (by omega) (by omega)
 have u2:(place - 1) / (b.step + b.slip)<=place - 1:=Int.ediv_le_self _ (by omega)
 have v1:0<=(place + b.len) / (b.step - b.slip):=Int.ediv_nonneg (by omega) (by omega)
 have v2:(place + b.len) / (b.step - b.slip)<=place + b.len:=Int.ediv_le_self _ (by omega)
 omega
def B8 (l:List SeenT) (k:Nat):SeenT:=if k=0 then ⟨-1,-1,0,false⟩ else l.getD (k - 1) a8
theorem a8P (l:List SeenT):B8 l 0=⟨-1,-1,0,false⟩:=rfl
theorem U7 (l:List SeenT) (k:Nat):B8 l (k + 1)=l.getD k a8:=by simp [B8]
def okPt (t:TrackT) (k:Nat):Bool :=
 decide ((B8 t.parts k).id < (t.parts.getD k a8).id/\(t.parts.getD k a8).id < t.next/\(B8 t.parts k).cnt < (t.parts.getD k a8).cnt/\(t.parts.getD k a8).cnt<=t.count/\t.count < (t.parts.getD k a8).cnt + winB t.belt t.belt.gate /\
  (t.parts.getD k a8).verdict<=3/\((t.parts.getD k a8).hit=true->(t.parts.getD k a8).cnt + winA t.belt t.belt.gate<=t.count))
theorem a1a {t:TrackT} {k:Nat}:okPt t k=true↔((B8 t.parts k).id < (t.parts.getD k a8).id/\(t.parts.getD k a8).id < t.next/\(B8 t.parts k).cnt < (t.parts.getD k a8).cnt/\(t.parts.getD k a8).cnt<=t.count/\t.count < (t.parts.getD k a8).cnt + winB t.belt t.belt.gate /\
  (t.parts.getD k a8).verdict<=3/\((t.parts.getD k a8).hit=true->(t.parts.getD k a8).cnt + winA t.belt t.belt.gate<=t.count)):=decide_eq_true_iff
def sizT (t:TrackT):Bool:=decide ((0<=t.count/\t.count<=1099511627776)/\(0<=t.next/\t.next<=1099511627776)/\t.parts.length<=32)
theorem a1b {t:TrackT}:sizT t=true↔(0<=t.count/\t.count<=1099511627776)/\(0<=t.next/\t.next<=1099511627776)/\t.parts.length<=32:=decide_eq_true_iff
def trkB (t:TrackT):Bool:=sizT t && (List.range t.parts.length).all (okPt t)
def trkE (t:TrackT):Int:=if D2 t.belt=true then (if trkB t=true then 0 else 8) else 90
theorem a4C {t:TrackT}:trkE t=0↔D2 t.belt=true/\trkB t=true:=by
 unfold trkE
 split
 ·split
  ·exact ⟨fun _=>⟨by assumption,by assumption⟩,fun _=>rfl⟩
  ·rename_i h; exact ⟨fun q=>(by cases q),fun q=>absurd q.2 h⟩
 ·rename_i h; exact ⟨fun q=>(by cases q),fun q=>absurd q.1 h⟩
theorem a7w {t:TrackT} {k:Nat} (h:∀ i,i < k->okPt t i=true) : -1<=(B8 t.parts k).id /\ -1<=(B8 t.parts k).cnt/\(0 < k->0<=(B8 t.parts k).id/\0<=(B8 t.parts k).cnt/\(B8 t.parts k).cnt<=t.count):=by
 induction k with
 | zero=>exact ⟨Int.le_refl _,Int.le_refl _,fun h=>absurd h (Nat.lt_irrefl 0)⟩
 | succ k ih =>
  have a:=ih fun i hi=>h i (by omega)
  have b:=a1a.1 (h k (by omega))
  rw [U7]
  omega
def U8 (d:DriftT):Bool:=decide ((0<=d.hits/\d.hits<=d.rounds)/\d.rounds<=500)
theorem a1F {d:DriftT}:U8 d=true↔(0<=d.hits/\d.hits<=d.rounds)/\d.rounds<=500:=decide_eq_true_iff
def okT (w:WorldT) (k:Nat):Bool :=
 decide ((w.things.getD k b8).id=(w.track.parts.getD k a8).id/\(0<=(w.things.getD k b8).len/\(w.things.getD k b8).len<=w.line.belt.len) /\
  ((w.track.count - (w.track.parts.getD k a8).cnt) * (w.line.belt.step - w.line.belt.slip)<=(w.things.getD k b8).front/\(w.things.getD k b8).front<=(w.track.count - (w.track.parts.getD k a8).cnt) * (w.line.belt.step + w.line.belt.slip)) /\
  (w.things.getD k b8).verdict<=3/\(0<=(w.things.getD k b8).due/\(w.things.getD k b8).due<=1099511627876)/\(-1<=(w.things.getD k b8).seq/\(w.things.getD k b8).seq<=w.books.next - 1))
def Y2 (a b:BeltT):Prop:=a.step=b.step/\a.slip=b.slip/\a.gate=b.gate/\a.len=b.len
instance (a b:BeltT):Decidable (Y2 a b):=by unfold Y2; infer_instance
def ownW (w:WorldT):Bool:=decide (Y2 w.track.belt w.line.belt/\w.books.keep=w.line.keep/\(w.things.length:Int)=w.track.parts.length/\U8 w.drift=true)
def wldB (w:WorldT):Bool:=ownW w && (trkB w.track && (chkB w.books && (List.range w.things.length).all (okT w)))
def wldE (w:WorldT):Int:=if S5 w.line=0 then (if wldB w=true then 0 else 8) else S5 w.line
def a3n (a b:LineT):Prop:=Y2 a.belt b.belt/\a.lag=b.lag/\a.keep=b.keep/\a.p=b.p/\a.q=b.q/\a.al.1=b.al.1/\a.al.2=b.al.2
instance (a b:LineT):Decidable (a3n a b):=by unfold a3n; infer_instance
def b5C (a b:SeenT):Bool:=decide (a.id=b.id/\a.cnt=b.cnt/\a.verdict=b.verdict) && (a.hit == b.hit)
def b42 (a b:ThingT):Bool:=decide (a.id=b.id/\a.front=b.front/\a.len=b.len/\a.verdict=b.verdict/\a.due=b.due/\a.seq=b.seq) && (a.out == b.out)
def b5D (a b:DriftT):Bool:=decide (a.hits=b.hits/\a.rounds=b.rounds) && (a.alarm == b.alarm)
def b43 (a b:TrackT):Bool:=decide (Y2 a.belt b.belt/\a.count=b.count/\a.next=b.next) && eqF b5C a8 a.parts b.parts
def b5R (a b:WorldT):Bool:=decide (a3n a.line b.line) && (b43 a.track b.track && (b5v a.books b.books && (b5D a.drift b.drift && eqF b42 b8 a.things b.things)))
/- Numbers as digits to a base, the lowest first. A helper text: it speaks of no program. -/
def dgF (B:Nat):Nat->Nat->List Nat
 | 0,_=>[]
 | f + 1,n=>if n=0 then [] else (n % B) :: dgF B f (n / B)
def dg (B n:Nat):List Nat:=dgF B n n
theorem a1c (B f:Nat):dgF B f 0=[]:=by cases f<;>simp [dgF]
theorem a7x {B:Nat} (hB:2<=B):∀ (f n g:Nat),n<=f->f<=g->dgF B g n=dgF B f n
 | 0,n,g,h,_=>by
  obtain rfl:n=0:=by omega
  rw [a1c,a1c]
 | f + 1,n,g,h,hg=>by
  obtain ⟨g,rfl⟩:∃ k,g=k + 1:=⟨g - 1,by omega⟩
  by_cases e:n=0
  ·subst e; rw [a1c,a1c]
  ·simp only [dgF,if_neg e]
   have:n / B < n:=Nat.div_lt_self (by omega) (by omega)
   rw [a7x hB f (n / B) g (by omega) (by omega)]
theorem Z9 (B:Nat):dg B 0=[]:=rfl
theorem a1G {B n:Nat} (hB:2<=B) (h:0 < n):dg B n=(n % B) :: dg B (n / B):=by
 obtain ⟨k,rfl⟩:∃ k,n=k + 1:=⟨n - 1,by omega⟩
 have:(k + 1) / B < k + 1:=Nat.div_lt_self (by omega) (by omega)
 show dgF B (k + 1) (k + 1)=_
 rw [dgF,if_neg (by omega),dg,a7x hB ((k + 1) / B) ((k + 1) / B) k (Nat.le_refl _) (by omega)]
def vl (B:Nat):List Nat->Nat
 | []=>0
 | d :: l=>d + B * vl B l
def isD (B:Nat) (l:List Nat):Prop:=∀ d ∈ l,d < B
theorem a7y {B:Nat} (hB:2<=B) (n:Nat):vl B (dg B n)=n:=by
 induction n using Nat.strongRecOn with
 | ind n ih =>
  by_cases e:n=0
  ·subst e; rfl
  ·have:n / B < n:=Nat.div_lt_self (by omega) (by omega)
   rw [a1G hB (by omega),vl,ih _ this]
   exact Nat.mod_add_div n B
theorem a56 {B:Nat} (hB:2<=B) (n:Nat):isD B (dg B n):=by
 induction n using Nat.strongRecOn with
 | ind n ih =>
  by_cases e:n=0
  ·subst e; intro d h; cases h
  ·have:n / B < n:=Nat.div_lt_self (by omega) (by omega)
   rw [a1G hB (by omega)]
   intro d h
   rcases List.mem_cons.1 h with rfl | h
   ·exact Nat.mod_lt _ (by omega)
   ·exact ih _ this d h
theorem b44 {B:Nat} (hB:2<=B) {n:Nat} (h:dg B n=[]):n=0:=by
 have:=a7y hB n
 rw [h] at this
 exact this.symm
def V8:List Nat->List Nat
 | []=>[]
 | d :: l=>match V8 l with
  | []=>if d=0 then [] else [d]
  | e :: m=>d :: e :: m
theorem a9J {B:Nat} (hB:2<=B):∀ {l:List Nat},isD B l->V8 l=dg B (vl B l)
 | [],_=>rfl
 | d :: l,h=>by
  have ih:=a9J hB (l:=l) fun x hx=>h x (List.mem_cons_of_mem _ hx)
  have hd:d < B:=h d (List.mem_cons_self ..)
  rw [V8,ih,vl]
  cases hv:dg B (vl B l) with
  | nil =>
   have e:=b44 hB hv
   rw [e]
   by_cases h0:d=0
   ·subst h0; simp [Z9]
   ·simp only [if_neg h0,Nat.mul_zero,Nat.add_zero]
    rw [a1G hB (by omega),Nat.mod_eq_of_lt hd,Nat.div_eq_of_lt hd,Z9]
  | cons e m =>
   have hp:0 < vl B l:=Nat.pos_of_ne_zero fun q=>by rw [q,Z9] at hv; cases hv
   have hq:0 < B * vl B l:=Nat.mul_pos (by omega) hp
   show d :: e :: m=_
   rw [a1G (n:=d + B * vl B l) hB (by omega),Nat.add_mul_mod_self_left,Nat.mod_eq_of_lt hd,Nat.add_mul_div_left _ _ (by omega),Nat.div_eq_of_lt hd,Nat.zero_add,hv]
theorem b0N {l:List Nat} {k:Nat} (h:∀ j,k<=j->l.getD j 0=0):V8 l=V8 (l.take k):=by
 induction l generalizing k with
 | nil=>rw [List.take_nil]
 | cons d l ih =>
  cases k with
  | zero =>
   have e:=ih (k:=0) fun j _=>by have:=h (j + 1) (by omega); simpa using this
   have h0:d=0:=by simpa using h 0 (by omega)
   rw [List.take_zero] at e ⊢
   have e:V8 l=[]:=e
   simp only [V8,e,h0,if_true]
  | succ k =>
   have e:=ih (k:=k) fun j hj=>by have:=h (j + 1) (by omega); simpa using this
   rw [List.take_succ_cons]
   simp only [V8,e]
theorem b0O {l:List Nat} {k:Nat} (hk:k < l.length) (hl:l.length=k + 1) (h:l.getD k 0≠0):V8 l=l:=by
 induction l generalizing k with
 | nil=>rfl
 | cons d l ih =>
  cases k with
  | zero =>
   obtain rfl:l=[]:=List.length_eq_zero_iff.1 (by simpa using hl)
   have h0:d≠0:=by simpa using h
   simp [V8,h0]
  | succ k =>
   have e:=ih (k:=k) (by simpa using hk) (by simpa using hl) (by simpa using h)
   rw [V8,e]
   cases l with
   | nil=>simp at hl
   | cons=>rfl
theorem a2f {B:Nat}:∀ (l:List Nat) (k:Nat),vl B (l.take (k + 1))=vl B (l.take k) + l.getD k 0 * B ^ k
 | [],k=>by simp [vl]
 | d :: l,0=>by simp [vl]
 | d :: l,k + 1=>by
  rw [List.take_succ_cons,List.take_succ_cons,vl,vl,a2f l k]
  have e:(d :: l).getD (k + 1) 0=l.getD k 0:=by simp
  rw [e,Nat.pow_succ,Nat.mul_add]
  have:B * (l.getD k 0 * B ^ k)=l.getD k 0 * (B ^ k * B):=by rw [<- Nat.mul_assoc,Nat.mul_comm B,Nat.mul_assoc,Nat.mul_comm B]
  omega
theorem a9K {B:Nat} (hB:2<=B):∀ {l:List Nat},isD B l->vl B l < B ^ l.length
 | [],_=>by simp [vl]
 | d :: l,h=>by
  have ih:=a9K hB (l:=l) fun x hx=>h x (List.mem_cons_of_mem _ hx)
  have hd:d < B:=h d (List.mem_cons_self ..)
  rw [vl,List.length_cons,Nat.pow_succ,Nat.mul_comm (B ^ l.length)]
  have:B * (vl B l + 1)<=B * B ^ l.length:=Nat.mul_le_mul_left _ ih
  rw [Nat.mul_add] at this
  omega
theorem a8Q {B:Nat}:∀ {l:List Nat} {k:Nat} (v:Nat),k < l.length->vl B (l.set k v) + l.getD k 0 * B ^ k=vl B l + v * B ^ k
 | d :: l,0,v,_=>by simp [vl]; omega
 | d :: l,k + 1,v,h=>by
  have ih:=a8Q (B:=B) (l:=l) (k:=k) v (by simpa using h)
  have e:(d :: l).getD (k + 1) 0=l.getD k 0:=by simp
  rw [List.set_cons_succ,vl,vl,e,Nat.pow_succ]
  have h1:l.getD k 0 * (B ^ k * B)=B * (l.getD k 0 * B ^ k):=by rw [<- Nat.mul_assoc,Nat.mul_comm]
  have h2:v * (B ^ k * B)=B * (v * B ^ k):=by rw [<- Nat.mul_assoc,Nat.mul_comm]
  rw [h1,h2]
  have:=congrArg (B * ·) ih
  simp only [Nat.mul_add] at this
  omega
theorem a9L {B:Nat} {l:List Nat} (h:isD B l) (k:Nat) {v:Nat} (hv:v < B):isD B (l.set k v):=fun d hd=>by
 rcases List.mem_or_eq_of_mem_set hd with h1 | h1
 ·exact h d h1
 ·subst h1; exact hv
theorem a7z {B:Nat} (hB:0 < B) {l:List Nat} (h:isD B l) (k:Nat):l.getD k 0 < B:=by
 by_cases hk:k < l.length
 ·simp only [List.getD,List.getElem?_eq_getElem hk,Option.getD_some]
  exact h _ (List.getElem_mem hk)
 ·simp [List.getD,List.getElem?_eq_none (Nat.le_of_not_lt hk),hB]
theorem a7A {B:Nat} {l:List Nat} (h:isD B l) (k:Nat):isD B (l.take k):=fun d hd=>h d (List.mem_of_mem_take hd)
theorem a8R {B:Nat} (hB:2<=B):∀ {k n:Nat},n < B ^ k->(dg B n).length<=k
 | 0,n,h=>by
  obtain rfl:n=0:=by simpa using h
  simp [Z9]
 | k + 1,n,h=>by
  by_cases e:n=0
  ·subst e; simp [Z9]
  ·rw [a1G hB (by omega),List.length_cons]
   have:n / B < B ^ k:=Nat.div_lt_of_lt_mul (by rw [Nat.pow_succ,Nat.mul_comm] at h; exact h)
   have:=a8R hB this
   omega
theorem a4D {B:Nat} (hB:2<=B) {a b:Nat} (h:(dg B a).length < (dg B b).length):a < b:=by
 have h1:=a9K hB (a56 hB a)
 rw [a7y hB] at h1
 by_cases hb:b < B ^ (dg B a).length
 ·have:=a8R hB hb; omega
 ·omega
def leT (a b:List Nat):Nat->Bool
 | 0=>true
 | k + 1=>if a.getD k 0=b.getD k 0 then leT a b k else decide (a.getD k 0 < b.getD k 0)
theorem b2y {B:Nat} (hB:2<=B) {a b:List Nat} (ha:isD B a) (hb:isD B b):∀ k,leT a b k=decide (vl B (a.take k)<=vl B (b.take k))
 | 0=>by simp [leT,vl]
 | k + 1=>by
  rw [leT,a2f,a2f,b2y hB ha hb k]
  have pa:vl B (a.take k) < B ^ k:=by
   have:=a9K hB (a7A ha k)
   exact Nat.lt_of_lt_of_le this (Nat.pow_le_pow_right (by omega) (by rw [List.length_take]; omega))
  have pb:vl B (b.take k) < B ^ k:=by
   have:=a9K hB (a7A hb k)
   exact Nat.lt_of_lt_of_le this (Nat.pow_le_pow_right (by omega) (by rw [List.length_take]; omega))
  by_cases e:a.getD k 0=b.getD k 0
  ·rw [if_pos e,e]
   simp only [Nat.add_le_add_iff_right]
  ·rw [if_neg e]
   generalize a.getD k 0=x at *
   generalize b.getD k 0=y at *
   generalize B ^ k=q at *
   by_cases h:x < y
   ·have:(x + 1) * q<=y * q:=Nat.mul_le_mul_right _ h
    rw [Nat.add_mul,Nat.one_mul] at this
    rw [decide_eq_true h,eq_comm,decide_eq_true_eq]
    omega
   ·have:(y + 1) * q<=x * q:=Nat.mul_le_mul_right _ (by omega)
    rw [Nat.add_mul,Nat.one_mul] at this
    rw [decide_eq_false h,eq_comm,decide_eq_false_iff_not]
    omega
theorem b45 {B:Nat} (hB:2<=B) {a b k:Nat} (ha:(dg B a).length<=k) (hb:(dg B b).length<=k):leT (dg B a) (dg B b) k=decide (a<=b):=by
 rw [b2y hB (a56 hB a) (a56 hB b),List.take_of_length_le ha,List.take_of_length_le hb,a7y hB,a7y hB]
def wgt (f p h n:Nat):Nat:=f * p ^ h * (256 - p) ^ (n - h)
theorem a57 (m:Nat):(1073741824:Nat) * 256 ^ m=2 ^ (30 + 8 * m):=by
 rw [show (256:Nat)=2 ^ 8 from rfl,<- Nat.pow_mul,show (1073741824:Nat)=2 ^ 30 from rfl,<- Nat.pow_add]
theorem b2z {f p h n:Nat} (hf:f<=1073741824) (hp:p<=256) (hh:h<=n):wgt f p h n<=2 ^ (30 + 8 * n):=by
 have h1:p ^ h<=256 ^ h:=Nat.pow_le_pow_left (by omega) h
 have h2:(256 - p) ^ (n - h)<=256 ^ (n - h):=Nat.pow_le_pow_left (by omega) _
 have h3:wgt f p h n<=f * 256 ^ h * 256 ^ (n - h):=Nat.mul_le_mul (Nat.mul_le_mul_left _ h1) h2
 rw [Nat.mul_assoc f,<- Nat.pow_add,show h + (n - h)=n by omega] at h3
 have h5:f * 256 ^ n<=1073741824 * 256 ^ n:=Nat.mul_le_mul_right _ hf
 rw [a57] at h5
 exact Nat.le_trans h3 h5
theorem b46 {c a k N:Nat} (h:N<=2 ^ a) (hc:0 < c) (hk:a < c * k):(dg (2 ^ c) N).length<=k:=by
 have h2:(2:Nat)<=2 ^ c:=by
  have:=Nat.pow_le_pow_right (n:=2) (by decide) hc
  simpa using this
 refine a8R h2 ?_
 rw [<- Nat.pow_mul]
 exact Nat.lt_of_le_of_lt h (Nat.pow_lt_pow_right (by decide) hk)
def raiB (p q num den h n:Nat):Bool:=decide (wgt den p h n<=wgt num q h n)
theorem a3o (lo hi n:Int):PC Tryz.prog 60 [i64 lo,i64 hi,i64 n] (.bool (n8 n lo hi)):=by
 refine a7 hm Tryz.func60 (by kernel_rfl) ?_
 conv=>whnf
 refine ⟨fun h => ?_,fun h => ?_⟩<;>((conv=>whnf); simp_all [-decide_eq_true_eq,-decide_eq_false_iff_not,n8])
def a3p (n:Int):Bool := !n8 n (-64) 64
theorem a12 (n:Int):PC Tryz.prog 83 [i64 n] (.bool (a3p n)):=by
 refine a7 hm Tryz.func83 (by kernel_rfl) ?_
 conv=>whnf
 (first | (refine Or.inl ?_; (conv=>whnf); refine ⟨_,a3o (-64) 64 n,?_⟩) | refine ⟨_,a3o (-64) 64 n,?_⟩)
 conv=>whnf
 rfl
theorem a3q (n:List Int):PC Tryz.prog 85 [ints n] (.fn (.func 139) [] [.pt [ints n] 0]):=by
 refine a7 hm Tryz.func85 (by kernel_rfl) ?_
 conv=>whnf
def U9 (p n:List Int) (i:Nat):Int:=clip (p.getD i 0 + n.getD i 0)
def A0 (p n:List Int):List Int:=(List.range p.length).map (U9 p n)
theorem H7 (p n:List Int):(A0 p n).length=p.length:=by simp [A0]
theorem a13 {l:List Int} (h:l.any a3p=false) (i:Nat) (hi:i < l.length) : -64<=l.getD i 0/\l.getD i 0<=64:=by
 have:=a65 h i hi
 simp only [a3p,n8,Bool.not_eq_false',Bool.and_eq_true,decide_eq_true_eq] at this
 exact this
theorem a7B (p n:List Int) (h0:p≠[]) (hl:p.length < 2 ^ 30) (hpn:p.length=n.length) (hp:p.any badV=false) (hn:n.any a3p=false):PW Tryz.prog 139 [ints p,.pt [ints n] 0] [] (.own 0) [.vec 3 1 0 eI (A0 p n)]:=by
 refine a9 hm Tryz.func139 (by kernel_rfl) ⟨by kernel_rfl,?_⟩
 conv=>whnf
 (refine Or.inr ⟨[ ],[ 8 ],by kernel_rfl,?_⟩; (conv=>whnf); refine ⟨[ ],_,_,_,_,⟨ a63 p h0 hl,rfl,rfl,by kernel_rfl⟩,?_⟩)
 conv=>whnf
 refine Or.inr ⟨Nat,[11],[8],[],fun k=>[i64 k],fun k=>[.vec 3 1 0 eI (mixL p (U9 p n) k)],fun _=>[],fun k=>n.length - k,fun k=>k<=n.length,?_⟩
 conv=>whnf
 refine ⟨⟨0,?_⟩,?_⟩
 ·(conv=>whnf)
  refine ⟨⟨Nat.zero_le _,rfl,?_,rfl⟩,by kernel_rfl,by kernel_rfl⟩
  show [Row.vec 3 1 0 eI p]=[Row.vec 3 1 0 eI (mixL p (U9 p n) 0)]
  rw [a4q]
 ·intro k hk
  conv=>whnf
  refine ⟨fun h => ?_,fun h => ?_⟩
  ·have h:=of_decide_eq_true h
   have a1:=a0E hp k (by omega)
   have a2:=a13 hn k (by omega)
   conv=>whnf
   refine ⟨⟨by omega,by omega⟩,?_⟩
   conv=>whnf
   refine ⟨⟨by omega,by rw [C2]; omega⟩,?_⟩
   conv=>whnf
   refine ⟨by rw [C2]; omega,?_⟩
   conv=>whnf
   refine ⟨⟨by omega,by rw [C2]; omega⟩,?_⟩
   conv=>whnf
   refine ⟨U9 p n k,?_,by rw [C2]; omega,?_⟩
   ·have e1:(mixL p (U9 p n) k).getD (Int.toNat (k:Int)) 0=p.getD k 0:=by
     show (mixL p (U9 p n) k).getD k 0=_
     rw [a4p p _ k k (by omega)]; simp
    rw [e1,w64 (p.getD k 0 + n.getD (Int.toNat (k:Int)) 0) (by show _<=p.getD k 0 + n.getD k 0; omega) (by show p.getD k 0 + n.getD k 0<=_; omega)]
    rfl
   conv=>whnf
   refine ⟨k + 1,?_⟩
   conv=>whnf
   refine ⟨⟨⟨Nat.sub_lt_sub_left (by omega) (Nat.lt_succ_self k),by omega⟩,?_,?_,rfl⟩,by kernel_rfl,by kernel_rfl⟩
   ·rw [w64 _ (by omega) (by omega)]; rfl
   ·show [Row.vec _ 1 0 eI ((mixL p (U9 p n) k).set k (U9 p n k))]=_
    rw [a4r]
  ·have h:=of_decide_eq_false h
   obtain rfl:k=p.length:=by omega
   conv=>whnf
   refine ⟨[8],by kernel_rfl,?_⟩
   conv=>whnf
   refine ⟨rfl,?_⟩
   show [Row.vec _ 1 0 eI (mixL p (U9 p n) p.length)]=_
   rw [a64]
   rfl
def V9 (p n:List Int):Prop:=y8 p=true/\p.length=n.length/\n.any a3p=false
theorem a8S (p n:List Int) (h:V9 p n):PW Tryz.prog 41 [ints p,ints n] [] (.tup [.own 0,i64 0]) [.vec 3 1 0 eI (A0 p n)]:=by
 obtain ⟨h1,h2,h3⟩:=h
 have hl:=E6 h1
 have hv:=a26 h1
 have c1:=F2 p (by omega)
 rw [h1,if_pos rfl] at c1
 have c2:=I7 _ a3p a12 n (by omega)
 rw [h3] at c2
 have h0:p≠[]:=by rintro rfl; simp at hl
 refine a9 hm Tryz.func41 (by kernel_rfl) ⟨by kernel_rfl,?_⟩
 conv=>whnf
 (repeat' first|(refine ansS (fun hh=>?_) (fun hh=>?_)<;>(try simp only [ansX] at hh)<;>first|(exfalso;first|omega|(simp [*] at hh;done)|(revert hh;decide))|exact absurd (by assumption) hh|conv=>whnf)|((first|refine kR ?_|refine aB ?_|refine aL ?_|refine aN ?_|((try (refine Or.inl ?_;conv=>whnf));(try (refine ⟨false,?_⟩;conv=>whnf));refine ⟨_,by first | exact c1 | exact c2,?_⟩)|fail);conv=>whnf))
 (first | (refine Or.inl ?_; (conv=>whnf); refine ⟨_,a3q n,?_⟩) | refine ⟨_,a3q n,?_⟩)
 conv=>whnf
 (refine Or.inr ⟨[ ],[ 26 ],by kernel_rfl,?_⟩; (conv=>whnf); refine ⟨[ ],_,_,_,_,⟨ a7B p n h0 (by omega) h2 hv h3,rfl,rfl,by kernel_rfl⟩,?_⟩)
 conv=>whnf
 refine ⟨[26],by kernel_rfl,?_⟩
 conv=>whnf
 exact ⟨rfl,rfl⟩
theorem Y3 (p n:List Int) (hp:p.length < 2 ^ 40) (hn:n.length < 2 ^ 40) (h:¬ V9 p n):PC Tryz.prog 41 [ints p,ints n] (.tup [.nils,i64 (if y8 p then 2 else 50)]):=by
 unfold V9 at h
 have c1:=F2 p hp
 have c2:=I7 _ a3p a12 n hn
 refine a7 hm Tryz.func41 (by kernel_rfl) ?_
 conv=>whnf
 by_cases h1:y8 p=true
 ·rw [h1,if_pos rfl]
  rw [h1,if_pos rfl] at c1
  (repeat' first|(refine ansS (fun hh=>?_) (fun hh=>?_)<;>(try simp only [ansX] at hh)<;>first|(exfalso;first|omega|(simp [*] at hh;done)|(revert hh;decide))|exact absurd (by assumption) hh|conv=>whnf)|((first|refine kR ?_|refine aB ?_|refine aL ?_|refine aN ?_|((try (refine Or.inl ?_;conv=>whnf));(try (refine ⟨false,?_⟩;conv=>whnf));refine ⟨_,by first | exact c1 | exact c2,?_⟩)|fail);conv=>whnf))
  refine (h ⟨h1,?_,?_⟩).elim
  ·omega
  ·assumption
 ·rw [if_neg h1]
  rw [if_neg h1] at c1
  (repeat' first|(refine ansS (fun hh=>?_) (fun hh=>?_)<;>(try simp only [ansX] at hh)<;>first|(exfalso;first|omega|(simp [*] at hh;done)|(revert hh;decide))|exact absurd (by assumption) hh|conv=>whnf)|((first|refine kR ?_|refine aB ?_|refine aL ?_|refine aN ?_|((try (refine Or.inl ?_;conv=>whnf));(try (refine ⟨false,?_⟩;conv=>whnf));refine ⟨_,by exact c1,?_⟩)|fail);conv=>whnf))
structure OrderT where
 kind:Int
 user:Int
 number:Int
 n:Int
 role:Int
 gauge:GauT
 tru:List Int
 noise:List Int
structure OutT where
 id:Int
 seq:Int
 verdict:Int
 hit:Bool
 out:Bool
structure AnsT where
 e:Int
 n:Int
 outs:List OutT
structure FateT where
 id:Int
 verdict:Int
 hit:Bool
def out0:OutT:=⟨0,0,0,false,false⟩
def ans0:AnsT:=⟨0,0,[]⟩
def b2A:FateT:=⟨0,0,false⟩
def ord0:OrderT:=⟨0,0,0,0,0,gau0,[],[]⟩
def eOrd (o:OrderT):List AV:=[u8 o.kind,i64 o.user,i64 o.number,i64 o.n,u8 o.role,i64 (gThr o.gauge),i64 (gNoi o.gauge),i64 (gSc o.gauge).1.1,i64 (gSc o.gauge).1.2,i64 (gSc o.gauge).2.1,i64 (gSc o.gauge).2.2,i64 o.gauge.1.2.1,i64 o.gauge.1.2.2,i64 o.gauge.2.1,i64 o.gauge.2.2,ints o.tru,ints o.noise]
abbrev ord (o:OrderT):AV := .agg (eOrd o)
abbrev ords (l:List OrderT):AV := .sl 17 ord0 eOrd l
def eOut (o:OutT):List AV:=[i64 o.id,i64 o.seq,u8 o.verdict,.bool o.hit,.bool o.out]
abbrev outs (l:List OutT):AV := .sl 5 out0 eOut l
def a7C (o:FateT):List AV:=[i64 o.id,u8 o.verdict,.bool o.hit]
abbrev a7D (l:List FateT):AV := .sl 3 b2A a7C l
def eAns (a:AnsT):List AV:=[i64 a.e,i64 a.n,outs a.outs]
abbrev ans (a:AnsT):AV := .agg (eAns a)
abbrev anss (l:List AnsT):AV := .sl 3 ans0 eAns l
def gauZ (g:GauT):Bool:=decide (gThr g=0/\gNoi g=0/\(gSc g).1.1=0/\(gSc g).1.2=0/\(gSc g).2.1=0/\(gSc g).2.2=0/\g.1.2.1=0/\g.1.2.2=0/\g.2.1=0/\g.2.2=0)
def ordB (o:OrderT):Bool :=
 decide ((1<=o.kind/\o.kind<=10)/\(o.kind<=3->o.user=0)/\(o.kind<=4∨o.kind=7∨o.kind=10->o.number=0)/\(3<=o.kind->o.n=0)/\(o.kind≠3->o.role=0) /\
  (o.kind≠2->o.tru.length + o.noise.length=0)) && (decide (o.kind=4) || gauZ o.gauge)
def isId (q:Int) (x:SeenT):Bool:=decide (x.id=q)
def telE (t:TrackT) (q v:Int):Int :=
 if v < 1∨3 < v then 2 else if ¬t.parts.any (isId q)=true then 6 else
  if ¬(t.parts.getD (t.parts.findIdx (isId q)) a8).verdict=0∨(t.parts.getD (t.parts.findIdx (isId q)) a8).cnt + winA t.belt t.belt.gate<=t.count then 91 else 0
def verS (x:SeenT) (v:Int):SeenT:=⟨x.id,x.cnt,v,x.hit⟩
def telT (t:TrackT) (q v:Int):TrackT:=⟨t.belt,t.count,t.next,t.parts.set (t.parts.findIdx (isId q)) (verS (t.parts.getD (t.parts.findIdx (isId q)) a8) v)⟩
def tel1 (t:TrackT) (x:ThingT):TrackT:=if x.verdict=0∨¬x.due=t.count then t else if telE t x.id x.verdict=0 then telT t x.id x.verdict else t
def telA (t:TrackT) (l:List ThingT):TrackT:=l.foldl tel1 t
def K8 (b:BeltT) (x:SeenT) (n:Int):Bool:=decide (x.cnt + winA b b.gate<=n) && decide (n<=x.cnt + winB b b.gate)
def opnB (t:TrackT) (n:Int):Bool:=t.parts.any fun x => !decide (x.verdict=1) && K8 t.belt x n
def hitS (b:BeltT) (op:Bool) (n:Int) (x:SeenT):SeenT:=⟨x.id,x.cnt,x.verdict,x.hit || (op && K8 b x n)⟩
def B9 (t:TrackT):Bool:=decide (0 < t.parts.length/\(t.parts.getD 0 a8).cnt + winB t.belt t.belt.gate=t.count + 1)
def hits (t:TrackT):List SeenT:=t.parts.map (hitS t.belt (opnB t (t.count + 1)) (t.count + 1))
def advT (t:TrackT):TrackT:=⟨t.belt,t.count + 1,t.next,if B9 t=true then (hits t).drop 1 else hits t⟩
def Y4 (x:SeenT):FateT:=⟨x.id,x.verdict,x.hit⟩
def advF (t:TrackT):List FateT:=if B9 t=true then [Y4 ((hits t).getD 0 a8)] else []
def senE (t:TrackT):Int:=if 0 < t.parts.length/\(t.parts.getD (t.parts.length - 1) a8).cnt=t.count then 91 else if t.parts.length=32∨t.next=1099511627776 then 9 else 0
def senT (t:TrackT):TrackT:=⟨t.belt,t.count,t.next + 1,t.parts++[⟨t.next,t.count,0,false⟩]⟩
def takD (l:LineT) (d:DriftT) (hit:Bool):DriftT :=
 ⟨if hit=true then d.hits + 1 else d.hits,d.rounds + 1,d.alarm || raiB l.p.toNat l.q.toNat l.al.1.toNat l.al.2.toNat (if hit=true then d.hits + 1 else d.hits).toNat (d.rounds + 1).toNat⟩
def Y5:DriftT:=⟨0,0,false⟩
def movT (b:BeltT) (op:Bool) (n:Int) (x:ThingT):ThingT:=⟨x.id,x.front + n,x.len,x.verdict,x.due,x.seq,x.out || (op && (decide (b.gate<=x.front + n) && decide (x.front<=b.gate + x.len)))⟩
def cntE (w:WorldT) (n:Int):Int:=if ¬(w.line.belt.step - w.line.belt.slip<=n/\n<=w.line.belt.step + w.line.belt.slip) then 2 else if w.track.count=1099511627776 then 9 else 0
def n6 (w:WorldT):TrackT:=telA w.track w.things
def moved (w:WorldT) (n:Int):List ThingT:=w.things.map (movT w.line.belt (opnB (n6 w) (w.track.count + 1)) n)
def outT (x:ThingT) (f:FateT):OutT:=⟨x.id,x.seq,f.verdict,f.hit,x.out⟩
def cntO (w:WorldT) (n:Int):List OutT:=if B9 (n6 w)=true then [outT ((moved w n).getD 0 b8) (Y4 ((hits (n6 w)).getD 0 a8))] else []
def cntW (w:WorldT) (n:Int):WorldT:=⟨w.line,advT (n6 w),w.books,w.drift,if B9 (n6 w)=true then (moved w n).drop 1 else moved w n⟩
instance (p n:List Int):Decidable (V9 p n):=by unfold V9; infer_instance
def prtE (w:WorldT) (o:OrderT):Int:=if ¬(V9 o.tru o.noise/\(0<=o.n/\o.n<=w.line.belt.len)) then 2 else if w.drift.alarm=true then 101 else senE w.track
def prtX (w:WorldT) (o:OrderT):ThingT:=⟨w.track.next,0,o.n,0,w.track.count + w.line.lag,-1,false⟩
def recd (w:WorldT) (o:OrderT):Prop:=rcdE w.books w.track.next (A0 o.tru o.noise)=0
instance (w:WorldT) (o:OrderT):Decidable (recd w o):=by unfold recd; infer_instance
def recV (w:WorldT) (o:OrderT):Int:=(meaF (rcdG w.books) (A0 o.tru o.noise)).2.1
def drfS (d:DriftT):DriftT:=if d.rounds=500 then Y5 else d
def prtW (w:WorldT) (o:OrderT):WorldT :=
 if recd w o then ⟨w.line,senT w.track,rcdB w.books w.track.next (A0 o.tru o.noise),takD w.line (drfS w.drift) (!decide (recV w o=1)),w.things++[⟨w.track.next,0,o.n,recV w o,w.track.count + w.line.lag,w.books.next,false⟩]⟩
 else ⟨w.line,senT w.track,w.books,w.drift,w.things++[prtX w o]⟩
def rstE (w:WorldT) (user:Int):Int:=if ¬(0<=user/\user<=(w.books.users.length:Int) - 1) then 6 else if ¬w.books.users.getD user.toNat 0=3 then 100 else 0
def rstW (w:WorldT):WorldT:=⟨w.line,w.track,w.books,Y5,w.things⟩
def actO (o:OrderT):ActT:=⟨if o.kind<=7 then o.kind - 3 else o.kind - 2,o.user,o.number,o.role,o.gauge,[]⟩
def bokW (w:WorldT) (b:BooksT):WorldT:=⟨w.line,w.track,b,w.drift,w.things⟩
def bokN (b:BooksT) (o:OrderT):Int:=if o.kind=3 then b.users.length else if o.kind=4 then b.recipes.length else 0
def stpE (w:WorldT) (o:OrderT):Int:=if o.kind=1 then cntE w o.n else if o.kind=2 then prtE w o else if o.kind=10 then rstE w o.user else doE w.books (actO o)
def stpX (w:WorldT) (o:OrderT):WorldT:=if o.kind=1 then cntW w o.n else if o.kind=2 then prtW w o else if o.kind=10 then rstW w else bokW w (doB w.books (actO o))
def stpN (w:WorldT) (o:OrderT):Int:=if o.kind=1 then w.track.count + 1 else if o.kind=2 then w.track.next else if o.kind=10 then 0 else bokN w.books o
def stpO (w:WorldT) (o:OrderT):List OutT:=if o.kind=1 then cntO w o.n else []
def stpW (w:WorldT) (o:OrderT):WorldT:=if stpE w o=0 then stpX w o else w
def stpA (w:WorldT) (o:OrderT):AnsT:=if stpE w o=0 then ⟨0,stpN w o,stpO w o⟩ else ⟨stpE w o,0,[]⟩
def newT (l:LineT):WorldT:=⟨l,⟨l.belt,0,0,[]⟩,⟨l.keep,[],[],0,[]⟩,Y5,[]⟩
def runW (w:WorldT):List OrderT->WorldT
 | []=>w
 | o :: l=>runW (stpW w o) l
def runA (w:WorldT):List OrderT->List AnsT
 | []=>[]
 | o :: l=>stpA w o :: runA (stpW w o) l
def b47 (t:TrackT) (s:SeenT):Prop :=
 (0<=s.id/\s.id < t.next)/\(0<=s.cnt/\s.cnt<=t.count/\t.count < s.cnt + winB t.belt t.belt.gate)/\s.verdict<=3/\(s.hit=true->s.cnt + winA t.belt t.belt.gate<=t.count)
def a3r (s s':SeenT):Prop:=s.id < s'.id/\s.cnt < s'.cnt
structure GoodTk (t:TrackT):Prop where
 bl:D2 t.belt=true
 ct:0<=t.count/\t.count<=1099511627776
 nx:0<=t.next/\t.next<=1099511627776
 ln:t.parts.length<=32
 up:List.Pairwise a3r t.parts
 sn:∀ s,s ∈ t.parts->b47 t s
theorem a0H {n:Nat} {p:Nat->Bool}:(List.range n).all p=true↔∀ i,i < n->p i=true:=by
 rw [List.all_eq_true]
 exact ⟨fun h i hi=>h i (List.mem_range.2 hi),fun h i hi=>h i (List.mem_range.1 hi)⟩
theorem A9 {t:TrackT}:trkE t=0↔GoodTk t:=by
 rw [a4C]
 unfold trkB
 rw [Bool.and_eq_true,a1b,a0H]
 constructor
 ·rintro ⟨hb,⟨hc,hn,hl⟩,h⟩
  have low:∀ i,i < t.parts.length -> -1<=(B8 t.parts i).id /\ -1<=(B8 t.parts i).cnt:=fun i hi=>by
   have:=a7w (t:=t) (k:=i) fun j hj=>h j (by omega)
   omega
  have okI:=fun i hi=>a1a.1 (h i hi)
  refine ⟨hb,hc,hn,hl,?_,?_⟩
  ·have up:∀ j,j < t.parts.length->∀ i,i < j->a3r (t.parts.getD i a8) (t.parts.getD j a8):=by
    intro j
    induction j with
    | zero=>intro _ i hi; exact absurd hi (Nat.not_lt_zero i)
    | succ j ih =>
     intro hj i hi
     have a:=okI (j + 1) hj
     rw [U7] at a
     by_cases e:i=j
     ·subst e; exact ⟨a.1,a.2.2.1⟩
     ·have:=ih (by omega) i (by omega)
      exact ⟨by have:=this.1; omega,by have:=this.2; omega⟩
   refine List.pairwise_iff_getElem.2 fun i j hi hj hij => ?_
   have:=up j hj i hij
   rwa [l0 hi,l0 hj] at this
  ·intro s hs
   obtain ⟨i,hi,e⟩:=List.getElem_of_mem hs
   have a:=okI i hi
   have b:=low i hi
   rw [l0 hi,e] at a
   exact ⟨⟨by omega,a.2.1⟩,⟨by omega,a.2.2.2.1,a.2.2.2.2.1⟩,a.2.2.2.2.2.1,a.2.2.2.2.2.2⟩
 ·intro g
  refine ⟨g.bl,⟨g.ct,g.nx,g.ln⟩,fun i hi=>a1a.2 ?_⟩
  have s:=g.sn _ (List.getElem_mem hi)
  rw [l0 hi]
  obtain ⟨s1,s2,s3,s4⟩:=s
  cases i with
  | zero =>
   rw [a8P]
   exact ⟨by show (-1:Int) < _; omega,s1.2,by show (-1:Int) < _; omega,s2.2.1,s2.2.2,s3,s4⟩
  | succ i =>
   rw [U7,l0 (show i < t.parts.length by omega)]
   have:=List.pairwise_iff_getElem.1 g.up i (i + 1) (by omega) hi (by omega)
   exact ⟨this.1,s1.2,this.2,s2.2.1,s2.2.2,s3,s4⟩
def a2g (w:WorldT) (x:ThingT) (s:SeenT):Prop :=
 x.id=s.id/\(0<=x.len/\x.len<=w.line.belt.len)/\((w.track.count - s.cnt) * (w.line.belt.step - w.line.belt.slip)<=x.front/\x.front<=(w.track.count - s.cnt) * (w.line.belt.step + w.line.belt.slip)) /\
  x.verdict<=3/\(0<=x.due/\x.due<=1099511627876)/\(-1<=x.seq/\x.seq<=w.books.next - 1)
structure GoodW (w:WorldT):Prop where
 ln:S5 w.line=0
 bl:w.track.belt=w.line.belt
 kp:w.books.keep=w.line.keep
 lt:w.things.length=w.track.parts.length
 df:U8 w.drift=true
 tk:GoodTk w.track
 bk:GoodB w.books
 th:∀ i,i < w.things.length->a2g w (w.things.getD i b8) (w.track.parts.getD i a8)
theorem b2B {α:Type} {R:α->α->Prop} {d y:α} {l:List α} {i:Nat} (hR:∀ z,(R (l.getD i d) z->R y z)/\(R z (l.getD i d)->R z y)) (h:List.Pairwise R l):List.Pairwise R (l.set i y):=by
 by_cases hi:i < l.length
 ·refine List.pairwise_iff_getElem.2 fun a b ha hb hab => ?_
  have ha':a < l.length:=by simpa using ha
  have hb':b < l.length:=by simpa using hb
  have:=List.pairwise_iff_getElem.1 h a b ha' hb' hab
  rw [List.getElem_set,List.getElem_set]
  by_cases e1:i=a
  ·rw [if_pos e1,if_neg (by omega)]
   exact (hR _).1 (by rw [l0 hi]; simpa [e1] using this)
  ·rw [if_neg e1]
   by_cases e2:i=b
   ·rw [if_pos e2]
    exact (hR _).2 (by rw [l0 hi]; simpa [e2] using this)
   ·rw [if_neg e2]
    exact this
 ·rw [List.set_eq_of_length_le (by omega)]
  exact h
theorem a4E {t:TrackT} {q v:Int} (h:telE t q v=0):(1<=v/\v<=3)/\t.parts.any (isId q)=true/\(t.parts.getD (t.parts.findIdx (isId q)) a8).verdict=0/\t.count < (t.parts.getD (t.parts.findIdx (isId q)) a8).cnt + winA t.belt t.belt.gate:=by
 unfold telE at h
 by_cases h1:v < 1∨3 < v
 ·rw [if_pos h1] at h; cases h
 ·rw [if_neg h1] at h
  by_cases h2:t.parts.any (isId q)=true
  ·rw [if_neg (fun e=>e h2)] at h
   by_cases h3:¬(t.parts.getD (t.parts.findIdx (isId q)) a8).verdict=0∨(t.parts.getD (t.parts.findIdx (isId q)) a8).cnt + winA t.belt t.belt.gate<=t.count
   ·rw [if_pos h3] at h; cases h
   ·exact ⟨by omega,h2,Decidable.byContradiction fun e=>h3 (.inl e),by have:=fun e=>h3 (.inr e); omega⟩
  ·rw [if_pos h2] at h; cases h
theorem a0a {q:Int} {l:List SeenT} (h:l.any (isId q)=true):l.findIdx (isId q) < l.length:=by
 obtain ⟨x,hx,hp⟩:=List.any_eq_true.1 h
 exact List.findIdx_lt_length_of_exists ⟨x,hx,hp⟩
theorem b2C {t:TrackT} (g:GoodTk t) {q v:Int} (h:telE t q v=0):GoodTk (telT t q v):=by
 obtain ⟨hv,ha,_,_⟩:=a4E h
 have hi:=a0a ha
 unfold telT
 generalize t.parts.findIdx (isId q)=i at *
 refine ⟨g.bl,g.ct,g.nx,by simpa using g.ln,b2B (d:=a8) (fun z=>⟨fun h=>h,fun h=>h⟩) g.up,fun s hs => ?_⟩
 rcases List.mem_or_eq_of_mem_set hs with h1 | h1
 ·exact g.sn s h1
 ·subst h1
  have m:=g.sn _ (List.getElem_mem hi)
  rw [l0 hi]
  exact ⟨m.1,m.2.1,hv.2,m.2.2.2⟩
theorem b0P {t:TrackT} (g:GoodTk t) (x:ThingT):GoodTk (tel1 t x):=by
 unfold tel1
 by_cases h:x.verdict=0∨¬x.due=t.count
 ·rw [if_pos h]; exact g
 ·rw [if_neg h]
  by_cases e:telE t x.id x.verdict=0
  ·rw [if_pos e]; exact b2C g e
  ·rw [if_neg e]; exact g
def S6 (t u:TrackT):Prop:=u.belt=t.belt/\u.count=t.count/\u.next=t.next/\u.parts.length=t.parts.length/\∀ i,(u.parts.getD i a8).id=(t.parts.getD i a8).id/\(u.parts.getD i a8).cnt=(t.parts.getD i a8).cnt/\(u.parts.getD i a8).hit=(t.parts.getD i a8).hit
theorem S6.refl (t:TrackT):S6 t t:=⟨rfl,rfl,rfl,rfl,fun _=>⟨rfl,rfl,rfl⟩⟩
theorem S6.trans {t u v:TrackT} (h:S6 t u) (k:S6 u v):S6 t v :=
 ⟨k.1.trans h.1,k.2.1.trans h.2.1,k.2.2.1.trans h.2.2.1,k.2.2.2.1.trans h.2.2.2.1,fun i=>⟨(k.2.2.2.2 i).1.trans (h.2.2.2.2 i).1,(k.2.2.2.2 i).2.1.trans (h.2.2.2.2 i).2.1,(k.2.2.2.2 i).2.2.trans (h.2.2.2.2 i).2.2⟩⟩
theorem b0Q {l:List SeenT} {i j:Nat} {y:SeenT}:(l.set i y).getD j a8=if i=j/\i < l.length then y else l.getD j a8:=by
 simp only [List.getD,List.getElem?_set]
 by_cases e:i=j
 ·subst e
  by_cases h:i < l.length<;>simp [h]
 ·simp [e]
theorem b0R (t:TrackT) (q v:Int):S6 t (telT t q v):=by
 refine ⟨rfl,rfl,rfl,by simp [telT],fun j => ?_⟩
 unfold telT
 simp only [b0Q]
 by_cases h:t.parts.findIdx (isId q)=j/\t.parts.findIdx (isId q) < t.parts.length
 ·rw [if_pos h,h.1]; exact ⟨rfl,rfl,rfl⟩
 ·rw [if_neg h]; exact ⟨rfl,rfl,rfl⟩
theorem b0S (t:TrackT) (x:ThingT):S6 t (tel1 t x):=by
 unfold tel1
 by_cases h:x.verdict=0∨¬x.due=t.count
 ·rw [if_pos h]; exact S6.refl t
 ·rw [if_neg h]
  by_cases e:telE t x.id x.verdict=0
  ·rw [if_pos e]; exact b0R t _ _
  ·rw [if_neg e]; exact S6.refl t
theorem a4F (l:List ThingT):∀ t,S6 t (telA t l):=by
 induction l with
 | nil=>intro t; exact S6.refl t
 | cons x l ih=>intro t; exact (b0S t x).trans (ih _)
theorem a4G (l:List ThingT):∀ t,GoodTk t->GoodTk (telA t l):=by
 induction l with
 | nil=>intro t g; exact g
 | cons x l ih=>intro t g; exact ih _ (b0P g x)
theorem S7 (t:TrackT):(hits t).length=t.parts.length:=by simp [hits]
theorem S8 (t:TrackT) (i:Nat) (hi:i < t.parts.length):(hits t).getD i a8=hitS t.belt (opnB t (t.count + 1)) (t.count + 1) (t.parts.getD i a8):=by
 simp [hits,List.getD,List.getElem?_map,List.getElem?_eq_getElem hi]
theorem M1 {α:Type} {R:α->α->Prop} {d:α} {l:List α} (h:List.Pairwise R l) {i j:Nat} (hij:i < j) (hj:j < l.length):R (l.getD i d) (l.getD j d):=by
 have:=List.pairwise_iff_getElem.1 h i j (by omega) hj hij
 rwa [l0 (show i < l.length by omega),l0 hj]
theorem C0 {α:Type} {d:α} {l:List α} {i:Nat} (hi:i < l.length):l.getD i d ∈ l:=by rw [l0 hi]; exact List.getElem_mem hi
theorem a8T {t:TrackT} (g:GoodTk t) {i:Nat} (hi:i < t.parts.length) (h:(t.parts.getD i a8).cnt + winB t.belt t.belt.gate=t.count + 1):i=0:=by
 by_cases e:i=0
 ·exact e
 ·have a:=g.sn _ (C0 (d:=a8) (show 0 < t.parts.length by omega))
  have b:=(M1 (d:=a8) g.up (show 0 < i by omega) hi).2
  have:=a.2.1.2.2
  omega
theorem J8 {t:TrackT} (g:GoodTk t):(hits t).filter (fun x => !decide (x.cnt + winB t.belt t.belt.gate=t.count + 1))=(advT t).parts/\(hits t).filter (fun x=>decide (x.cnt + winB t.belt t.belt.gate=t.count + 1))=if B9 t=true then [(hits t).getD 0 a8] else []:=by
 have key:∀ i,(hi:i < t.parts.length)->(decide (((hits t).getD i a8).cnt + winB t.belt t.belt.gate=t.count + 1)=(decide (i=0) && B9 t)):=by
  intro i hi
  have e:((hits t).getD i a8).cnt=(t.parts.getD i a8).cnt:=by rw [S8 t i hi]; rfl
  rw [e]
  unfold B9
  by_cases h:(t.parts.getD i a8).cnt + winB t.belt t.belt.gate=t.count + 1
  ·obtain rfl:=a8T g hi h
   rw [decide_eq_true h,decide_eq_true (show 0 < t.parts.length/\(t.parts.getD 0 a8).cnt + winB t.belt t.belt.gate=t.count + 1 from ⟨hi,h⟩)]
   rfl
  ·rw [decide_eq_false h]
   by_cases e:i=0
   ·subst e
    rw [decide_eq_false (show ¬(0 < t.parts.length/\(t.parts.getD 0 a8).cnt + winB t.belt t.belt.gate=t.count + 1) from fun q=>h q.2)]
    rfl
   ·rw [decide_eq_false e]
    rfl
 have hl:=S7 t
 have adv:(advT t).parts=if B9 t=true then (hits t).drop 1 else hits t:=rfl
 rw [adv]
 cases hh:hits t with
 | nil =>
  have hz:B9 t=false:=decide_eq_false fun q=>by
   rw [hh] at hl
   simp at hl
   omega
  rw [hz]
  simp
 | cons a l =>
  rw [hh] at key hl
  have tail:∀ x,x ∈ l->decide (x.cnt + winB t.belt t.belt.gate=t.count + 1)=false:=by
   intro x hx
   obtain ⟨i,hi,e⟩:=List.getElem_of_mem hx
   have:=key (i + 1) (by rw [<- hl,List.length_cons]; omega)
   have e2:(a :: l).getD (i + 1) a8=x:=by simp [List.getD,List.getElem?_eq_getElem hi,e]
   rw [e2] at this
   rw [this]
   simp
  have head:decide (a.cnt + winB t.belt t.belt.gate=t.count + 1)=B9 t:=by
   have:=key 0 (by rw [<- hl,List.length_cons]; omega)
   simpa using this
  have f1:l.filter (fun x => !decide (x.cnt + winB t.belt t.belt.gate=t.count + 1))=l:=List.filter_eq_self.2 fun x hx=>by rw [tail x hx]; rfl
  have f2:l.filter (fun x=>decide (x.cnt + winB t.belt t.belt.gate=t.count + 1))=[]:=List.filter_eq_nil_iff.2 fun x hx=>by rw [tail x hx]; decide
  rw [List.filter_cons,List.filter_cons,f1,f2,head]
  cases B9 t<;>simp

end Go.Proofs.Tryz.My
