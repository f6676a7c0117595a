/- A helper text: contracts of functions of the program, and plain lemmas. -/
import Derived.Test.YtdpnpdjnaimgaaaGreatEvFive
import Derived.IntWalk
import Derived.Lib.Mul64
import Derived.Laws.Externs
set_option linter.unusedVariables false
set_option linter.unusedSimpArgs false
/- Small things that every contract uses. A helper text: it speaks of no program. -/
namespace Go.Ev
abbrev i64 (n:Int):AV := .int .i64 n
abbrev eI (n:Int):List AV:=[.int .i64 n]
abbrev ints (l:List Int):AV := .sl 1 (0:Int) eI l
def I64 (n:Int):Prop := -9223372036854775808<=n/\n<=9223372036854775807
theorem w64 (n:Int) (h1 : -9223372036854775808<=n) (h2:n<=9223372036854775807):IntKind.i64.wrap n=n:=IntWalk.i64_in n ⟨h1,h2⟩
theorem wu64 (n:Int) (h1:0<=n) (h2:n<=18446744073709551615):IntKind.u64.wrap n=n:=by simp [IntKind.wrap,IntKind.bits,IntKind.signed]; omega
def Sub (x y:AV):Prop:=∀ (F:Nat->Prop) (w:World) (v:Value),RepI F w x v->RepI F w y v
theorem Sub.refl (x:AV):Sub x x:=fun _ _ _ h=>h
theorem Sub.slc {α:Type} (sz:Nat) (d:α) (enc:α->List AV) (l:List α):Sub (.slc sz (l.map enc)) (.sl sz d enc l):=by
 intro F w v h
 generalize hc:l.map enc=css at h
 cases h with
 | slcnil =>
  have:l=[]:=by simpa using hc
  subst this
  exact .slnil
 | slc g hcap hb hr =>
  subst hc
  simp only [List.length_map] at *
  refine .sl g hcap hb fun i j hi hj => ?_
  have:=hr i j hi hj
  have e:(l.map enc).getD i []=enc (l.getD i d):=by simp [List.getD,List.getElem?_map,hi]
  rwa [e] at this
theorem Sub.nils {α:Type} (sz:Nat) (d:α) (enc:α->List AV):Sub .nils (.sl sz d enc []):=by
 intro F w v h
 cases h
 exact .slnil
theorem PC.sub {P:Program} {f:FuncId} {args args':List AV} {res res':AV} (h:PC P f args res) (hl:args'.length=args.length) (hs:∀ i,i < args.length->Sub (args'.getD i .any) (args.getD i .any)) (hr:Sub res res'):PC P f args' res':=by
 intro F w vs hF hsz hargs
 rcases h F w vs hF (hsz.trans hl) (fun i hi=>hs i hi _ _ _ (hargs i (hl ▸ hi))) with ⟨h1,h2⟩ | ⟨v,h1,h2⟩
 ·exact .inl ⟨h1,h2.mono fun e w' ⟨v,e1,e2,e3⟩=>⟨v,e1,e2,hr _ _ _ e3⟩⟩
 ·exact .inr ⟨v,h1,hr _ _ _ h2⟩
theorem PC.last {P:Program} {f:FuncId} {args:List AV} {x y res:AV} (h:PC P f (args++[x]) res) (hs:Sub y x):PC P f (args++[y]) res:=by
 refine h.sub (by simp) (fun i hi => ?_) (.refl _)
 simp only [List.length_append,List.length_cons,List.length_nil] at hi
 by_cases e:i < args.length
 ·simp only [List.getD,List.getElem?_append,e,if_true]; exact .refl _
 ·have:i - args.length=0:=by omega
  simp only [List.getD,List.getElem?_append,e,if_false,this]; exact hs
def ixF {α:Type} (p:α->Bool):List α->Int
 | [] => -1
 | a :: l=>if p a then 0 else if ixF p l = -1 then -1 else ixF p l + 1
theorem b1w {α:Type} (p:α->Bool):∀ l:List α,-1<=ixF p l/\ixF p l < l.length
 | []=>by simp [ixF]
 | a :: l=>by
  have:=b1w p l
  simp only [ixF,List.length_cons]
  split
  ·omega
  ·split<;>omega
theorem a2a {α:Type} (p:α->Bool) (d:α):∀ (l:List α) (k:Nat),k < l.length->p (l.getD k d)=true->(∀ i,i < k->p (l.getD i d)=false)->ixF p l=k
 | [],k,hk,_,_=>absurd hk (Nat.not_lt_zero k)
 | a :: l,0,_,h,_=>by
  have h:p a=true:=h
  simp [ixF,h]
 | a :: l,k + 1,hk,h,hn=>by
  have h0:p a=false:=hn 0 (by omega)
  have:=a2a p d l k (by simpa using hk) h fun i hi=>hn (i + 1) (by omega)
  simp only [ixF,h0,this]
  simp
theorem a0U {α:Type} (p:α->Bool) (d:α):∀ (l:List α),(∀ i,i < l.length->p (l.getD i d)=false)->ixF p l = -1
 | [],_=>rfl
 | a :: l,hn=>by
  have h0:p a=false:=hn 0 (by simp)
  have:=a0U p d l fun i hi=>hn (i + 1) (by simpa using hi)
  simp [ixF,h0,this]
theorem a2b {α:Type} (p:α->Bool):∀ l:List α,decide (ixF p l ≥ 0)=l.any p
 | []=>rfl
 | a :: l=>by
  have:=a2b p l
  have h2:=(b1w p l).1
  rw [List.any_cons,<- this]
  by_cases hp:p a=true
  ·simp [ixF,hp]
  ·simp only [ixF,hp]
   by_cases h3:ixF p l = -1
   ·simp [h3]
   ·have:ixF p l ≥ 0:=by omega
    have h4:ixF p l + 1 ≥ 0:=by omega
    simp [h3,this,h4]
/- Words: unsigned numbers of 64 bits, as natural numbers. A helper text: it speaks of no program. -/
abbrev u64 (n:Nat):AV := .int .u64 (n:Int)
theorem wu (n:Nat) (h:n < 18446744073709551616):IntKind.u64.wrap (n:Int)=n:=wu64 _ (by omega) (by have:n < 18446744073709551616:=h; omega)
theorem a0V (n:Int):IntKind.u64.wrap n=((n % 18446744073709551616).toNat:Int):=by simp [IntKind.wrap,IntKind.bits,IntKind.signed]; omega
theorem wi (n:Int) (h1 : -9223372036854775808<=n) (h2:n<=9223372036854775807):IntKind.i64.wrap n=n:=w64 n h1 h2
theorem a8r (a b:Nat) (ha:a < 18446744073709551616) (hb:b < 18446744073709551616):bits .and .u64 (a:Int) (b:Int)=((a &&& b:Nat):Int):=by
 have h:(BitVec.ofInt 64 (a:Int) &&& BitVec.ofInt 64 (b:Int)).toNat=a &&& b:=by
  rw [BitVec.toNat_and,BitVec.toNat_ofInt,BitVec.toNat_ofInt]
  congr 1<;>omega
 show IntKind.u64.wrap (((BitVec.ofInt 64 (a:Int) &&& BitVec.ofInt 64 (b:Int)).toNat:Nat):Int)=_
 rw [h]
 exact wu _ (Nat.lt_of_le_of_lt Nat.and_le_left ha)
theorem b0k (a b:Nat) (ha:a < 18446744073709551616) (hb:b < 18446744073709551616):bits .or .u64 (a:Int) (b:Int)=((a ||| b:Nat):Int):=by
 have h:(BitVec.ofInt 64 (a:Int) ||| BitVec.ofInt 64 (b:Int)).toNat=a ||| b:=by
  rw [BitVec.toNat_or,BitVec.toNat_ofInt,BitVec.toNat_ofInt]
  congr 1<;>omega
 show IntKind.u64.wrap (((BitVec.ofInt 64 (a:Int) ||| BitVec.ofInt 64 (b:Int)).toNat:Nat):Int)=_
 rw [h]
 exact wu _ (Nat.or_lt_two_pow (n:=64) ha hb)
theorem a37 (a k:Nat) (hk:k<=64):((a:Nat):Int).fdiv (2 ^ min (Int.toNat (k:Int)) IntKind.u64.bits)=((a / 2 ^ k:Nat):Int):=by
 have:min (Int.toNat (k:Int)) IntKind.u64.bits=k:=by show min k 64=k; omega
 rw [this,Int.fdiv_eq_ediv_of_nonneg _ (by exact Int.le_of_lt (Int.pow_pos (by decide)))]
 simp
theorem b1x (a k:Nat) (hk:k<=64):IntKind.u64.wrap ((a:Int) * 2 ^ min (Int.toNat (k:Int)) IntKind.u64.bits)=((a * 2 ^ k % 18446744073709551616:Nat):Int):=by
 have:min (Int.toNat (k:Int)) IntKind.u64.bits=k:=by show min k 64=k; omega
 rw [this,a0V]
 have e:(a:Int) * 2 ^ k=((a * 2 ^ k:Nat):Int):=by simp
 rw [e]
 omega
theorem a2D (a b:Nat):IntKind.u64.wrap ((a:Int) * (b:Int))=((a * b % 18446744073709551616:Nat):Int):=by
 rw [a0V]
 have e:(a:Int) * b=((a * b:Nat):Int):=by simp
 rw [e]
 omega
theorem a2E (a b:Nat):IntKind.u64.wrap ((a:Int) + (b:Int))=(((a + b) % 18446744073709551616:Nat):Int):=by rw [a0V]; omega
theorem a9o (a b:Nat) (hb:b<=18446744073709551616):IntKind.u64.wrap ((a:Int) - (b:Int))=(((a + (18446744073709551616 - b)) % 18446744073709551616:Nat):Int):=by rw [a0V]; omega
theorem V4 (a b:Nat) (ha:a < 18446744073709551616):IntKind.u64.wrap ((a:Int).tdiv (b:Int))=((a / b:Nat):Int):=by
 rw [Int.tdiv_eq_ediv_of_nonneg (by omega)]
 have e:(a:Int) / b=((a / b:Nat):Int):=by simp
 rw [e]
 exact wu _ (Nat.lt_of_le_of_lt (Nat.div_le_self a b) ha)
theorem b1y (a b:Nat):(a:Int).tmod (b:Int)=((a % b:Nat):Int):=by
 rw [Int.tmod_eq_emod_of_nonneg (by omega)]
 simp
theorem a8s (a:Nat):a &&& 4294967295=a % 4294967296:=Nat.and_two_pow_sub_one_eq_mod a 32
theorem X2 (a:Nat) (ha:a < 18446744073709551616):bits .and .u64 (a:Int) 4294967295=((a % 4294967296:Nat):Int):=by
 have:=a8r a 4294967295 ha (by decide)
 rw [a8s] at this
 exact this
theorem a2c (a:Nat):((a:Nat):Int).fdiv (2 ^ min (Int.toNat 32) IntKind.u64.bits)=((a / 4294967296:Nat):Int):=a37 a 32 (by omega)
abbrev pr (n:Nat):AV := .agg [u64 (n / 18446744073709551616),u64 (n % 18446744073709551616)]
abbrev fr (x:Int×Int):AV := .agg [i64 x.1,i64 x.2]
abbrev eF (x:Int×Int):List AV:=[i64 x.1,i64 x.2]
/- Calls that the model stands in for: sums and differences of words with carry. A helper text: it speaks of no program. -/
theorem RepI.int_inv {F:Nat->Prop} {w:World} {k:IntKind} {n:Int} {v:Value} (h:RepI F w (.int k n) v):v = .int k n:=by cases h; rfl
theorem a2F {F:Nat->Prop} {w:World} {vs:Array Value} {x y c:Nat} (hsz:vs.size=3) (h:∀ i,i < 3->RepI F w ([u64 x,u64 y,u64 c].getD i .any) (vs.getD i undef)):vs=#[.int .u64 x,.int .u64 y,.int .u64 c]:=by
 have h0:vs.getD 0 undef = .int .u64 x:=(h 0 (by omega)).int_inv
 have h1:vs.getD 1 undef = .int .u64 y:=(h 1 (by omega)).int_inv
 have h2:vs.getD 2 undef = .int .u64 c:=(h 2 (by omega)).int_inv
 have e:∀ i,(hi:i < vs.size)->vs.getD i undef=vs[i]:=fun i hi=>by simp [Array.getD,hi]
 rw [e _ (by omega)] at h0 h1 h2
 apply Array.ext
 ·simpa using hsz
 ·intro i hi hj
  have:i=0∨i=1∨i=2:=by simp at hj; omega
  rcases this with rfl | rfl | rfl
  ·exact h0
  ·exact h1
  ·exact h2
theorem a9p {F:Nat->Prop} {w:World} (a b:Nat):RepI F w (.tup [u64 a,u64 b]) (.tuple #[.int .u64 a,.int .u64 b]):=by
 refine .tup rfl fun i hi => ?_
 have:i=0∨i=1:=by simp at hi; omega
 rcases this with rfl | rfl
 ·exact .int _ _
 ·exact .int _ _
theorem b1z {P:Program} {f:FuncId} {fn:Func} (hf:P.funcs[f]? = some fn) (hname:(fn.name == "runtime.NumGoroutine")=false) (hb:fn.body.isNone=true) (hn:Extern.findNext fn=none) (he:Extern.find fn=some add64Entry)
  (x y c:Nat) (hc:c<=1):PC P f [u64 x,u64 y,u64 c] (.tup [u64 ((x + y + c) % 18446744073709551616),u64 ((x + y + c) / 18446744073709551616)]):=by
 intro F w vs _ hsz h
 have hv:=a2F hsz h
 subst hv
 have:=run_callFunc_extern hf hname hb hn he #[.int .u64 x,.int .u64 y,.int .u64 c] w
 rw [run_add64 x y c (by omega) (by omega) (by omega) (by omega)] at this
 refine .inr ⟨_,this,?_⟩
 have e1:((x:Int) + y + c) % 18446744073709551616=(((x + y + c) % 18446744073709551616:Nat):Int):=by omega
 have e2:((x:Int) + y + c) / 18446744073709551616=(((x + y + c) / 18446744073709551616:Nat):Int):=by omega
 rw [e1,e2]
 exact a9p _ _
def b1A:Array Value→Sem Value:=(Extern.MathBitsCarry.rows.getD 1 ("",fun _=>pure undef)).2
theorem b1B {P:Program} {f:FuncId} {fn:Func} (hf:P.funcs[f]? = some fn) (hname:(fn.name == "runtime.NumGoroutine")=false) (hb:fn.body.isNone=true) (hn:Extern.findNext fn=none) (he:Extern.find fn=some b1A)
  (x y c:Nat) (hc:c<=1):PC P f [u64 x,u64 y,u64 c] (.tup [u64 ((x + 18446744073709551616 - y - c) % 18446744073709551616),u64 (if x < y + c then 1 else 0)]):=by
 intro F w vs _ hsz h
 have hv:=a2F hsz h
 subst hv
 have:=run_callFunc_extern hf hname hb hn he #[.int .u64 x,.int .u64 y,.int .u64 c] w
 refine .inr ⟨.tuple #[.int .u64 (((x + 18446744073709551616 - y - c) % 18446744073709551616:Nat):Int),.int .u64 ((if x < y + c then 1 else 0:Nat):Int)],this.trans ?_,a9p _ _⟩
 have:c=0∨c=1:=by omega
 rcases this with rfl | rfl<;>rfl
/- The executor once more, by recursors: Lean's whnf unfolds a recursive definition by its equations and then copies all of its arguments as trees; a recursor it does not copy. A helper text: it speaks of no program. -/
def lrF {α:Type 1} (f:α->(α->Prop)->Prop) (l:List α) (K:List α->Prop):Prop :=
 List.rec (motive:=fun _=>(List α->Prop)->Prop) (fun K=>K []) (fun a _ ih K=>f a fun a=>ih fun l=>K (a :: l)) l K
theorem U2 {α:Type 1} {f:α->(α->Prop)->Prop} (hf:∀ a K,f a K=K a) (l:List α) (K:List α->Prop):lrF f l K=K l:=by
 unfold lrF
 induction l generalizing K with
 | nil=>rfl
 | cons a l ih =>
  show f a (fun a=>List.rec (motive:=fun _=>(List α->Prop)->Prop) (fun K=>K []) (fun a _ ih K=>f a fun a=>ih fun l=>K (a :: l)) l (fun l=>K (a :: l)))=K (a :: l)
  rw [hf,ih]
def a2G (f:AV->(AV->Prop)->Prop) (x:AV) (K:AV->Prop):Prop :=
 match x with
 | .agg l=>lrF f l fun l=>K (.agg l)
 | .tup l=>lrF f l fun l=>K (.tup l)
 | .slc sz css=>lrF (lrF f) css fun css=>K (.slc sz css)
 | .pt cs off=>lrF f cs fun cs=>K (.pt cs off)
 | .fn g a b=>lrF f a fun a=>lrF f b fun b=>K (.fn g a b)
 | .any=>K .any
 | .tt=>K .tt
 | .ff=>K .ff
 | .bool b=>K (.bool b)
 | .int k n=>K (.int k n)
 | .str s=>K (.str s)
 | .nilp=>K .nilp
 | .nils=>K .nils
 | .nilf=>K .nilf
 | .sl sz d enc l=>K (.sl sz d enc l)
 | .sf sz d enc l=>K (.sf sz d enc l)
 | .ptr id sz i off=>K (.ptr id sz i off)
 | .own id=>K (.own id)
 | .mem id i=>K (.mem id i)
 | .mptr id i k=>K (.mptr id i k)
theorem a1j {f:AV->(AV->Prop)->Prop} (hf:∀ a K,f a K=K a) (x:AV) (K:AV->Prop):a2G f x K=K x:=by
 cases x<;>simp only [a2G]<;>(first | rfl | (rw [U2 hf]) | (rw [U2 fun a K=>U2 hf a K]) | skip)
 rw [U2 hf]
def av0 (x:AV) (K:AV->Prop):Prop :=
 match x with
 | .any=>K .any
 | .tt=>K .tt
 | .ff=>K .ff
 | .bool b=>K (.bool b)
 | .int k n=>K (.int k n)
 | .str s=>K (.str s)
 | .nilp=>K .nilp
 | .nils=>K .nils
 | .nilf=>K .nilf
 | .sl sz d enc l=>K (.sl sz d enc l)
 | .sf sz d enc l=>K (.sf sz d enc l)
 | .ptr id sz i off=>K (.ptr id sz i off)
 | .own id=>K (.own id)
 | .mem id i=>K (.mem id i)
 | .mptr id i k=>K (.mptr id i k)
 | .agg l=>K (.agg l)
 | .tup l=>K (.tup l)
 | .slc sz css=>K (.slc sz css)
 | .pt cs off=>K (.pt cs off)
 | .fn g a b=>K (.fn g a b)
theorem b4C (x:AV) (K:AV->Prop):av0 x K=K x:=by cases x<;>rfl
def av1:AV->(AV->Prop)->Prop:=a2G av0
def av2:AV->(AV->Prop)->Prop:=a2G av1
def av3:AV->(AV->Prop)->Prop:=a2G av2
theorem b4D (x:AV) (K:AV->Prop):av1 x K=K x:=a1j b4C x K
theorem a5j (x:AV) (K:AV->Prop):av2 x K=K x:=a1j b4D x K
theorem a2H (x:AV) (K:AV->Prop):av3 x K=K x:=a1j a5j x K
def gL (l:List AV) (K:List AV->Prop):Prop:=lrF av2 l K
theorem b1C (l:List AV) (K:List AV->Prop):gL l K=K l:=U2 a5j l K
def gRow (r:Row) (K:Row->Prop):Prop :=
 match r with
 | .none=>K .none
 | .cells ty cs=>lrF av2 cs fun cs=>K (.cells ty cs)
 | .lit ty sz css=>lrF (lrF av2) css fun css=>K (.lit ty sz css)
 | .vec ty sz d enc l=>K (.vec ty sz d enc l)
 | .ctr l xs k e=>K (.ctr l xs k e)
 | .nest ty sz j0 ty' d enc ys ho l=>K (.nest ty sz j0 ty' d enc ys ho l)
theorem b3j (r:Row) (K:Row->Prop):gRow r K=K r:=by
 cases r<;>simp only [gRow]<;>(first | rfl | (rw [U2 a5j]) | (rw [U2 fun a K=>U2 a5j a K]))
def a2I (l:List Row) (K:List Row->Prop):Prop:=lrF gRow l K
theorem X3 (l:List Row) (K:List Row->Prop):a2I l K=K l:=U2 b3j l K
def gSt (S:St) (K:St->Prop):Prop :=
 match S with
 | ⟨St,Sh,Sn⟩=>fMd Sn fun n=>gL St fun t=>a2I Sh fun h=>K ⟨t,h,n⟩
theorem y7 (S:St) (K:St->Prop):gSt S K=K S:=by cases S; simp only [gSt]; rw [b1f,b1C,X3]
def gSp (l:List AV) (K:List AV->Prop):Prop:=List.rec (motive:=fun _=>(List AV->Prop)->Prop) (fun K=>K []) (fun a _ ih K=>ih fun l=>K (a :: l)) l K
theorem b4E (l:List AV) (K:List AV->Prop):gSp l K=K l:=by
 unfold gSp
 induction l generalizing K with
 | nil=>rfl
 | cons a l ih=>exact ih _
def gNs (l:List Nat) (K:List Nat->Prop):Prop:=List.rec (motive:=fun _=>(List Nat->Prop)->Prop) (fun K=>K []) (fun a _ ih K=>ih fun l=>K (a :: l)) l K
theorem a8t (l:List Nat) (K:List Nat->Prop):gNs l K=K l:=by
 unfold gNs
 induction l generalizing K with
 | nil=>rfl
 | cons a l ih=>exact ih _
def gPut (S:St) (dst:Option Nat) (out:Out) (K:St->Prop):Prop :=
 match S with
 | ⟨St,Sh,Sn⟩=>match dst with
  | some d=>av3 out.v fun v=>gSp (St.set d v) fun t=>match out.rows with
   | []=>K ⟨t,Sh,Sn⟩
   | r :: rs=>a2I (d8 Sh (r :: rs)) fun h=>K ⟨t,h,Sn⟩
  | none=>match out.rows with
   | []=>K ⟨St,Sh,Sn⟩
   | r :: rs=>a2I (d8 Sh (r :: rs)) fun h=>K ⟨St,h,Sn⟩
theorem a5k (S:St) (dst:Option Nat) (out:Out) (K:St->Prop):gPut S dst out K=fPut S dst out K:=by
 obtain ⟨v,rows⟩:=out
 obtain ⟨St,Sh,Sn⟩:=S
 cases dst with
 | none =>
  cases rows with
  | nil=>rfl
  | cons r rs=>simp only [gPut,fPut]; rw [D3,X3]
 | some d =>
  simp only [gPut,fPut]
  rw [M5,a8k,a2H,b4E]
  cases rows with
  | nil=>rfl
  | cons r rs=>simp only []; rw [D3,X3]
def gOp (P:Program) (dst:Option Nat) (op:Op) (g:Operand->AV) (r:Nat->Row) (K:Out->List Nat->Prop):Prop :=
 match op with
 | .call c=>match c.callee with
  | .value f=>match g f with
   | .fn (.func h) first caps=>match s9 (first++c.args.toList.map g++caps) with
    | true=>gL (first++c.args.toList.map g++caps) fun ar=>∃ v,PC P h ar v/\K ⟨v,[]⟩ []
    | false=>gL ((first++c.args.toList.map g++caps).map (o7 4 r)) fun ar=>∃ v,PC P h ar v/\match v.flat with
     | true=>K ⟨v,[]⟩ ((first++c.args.toList.map g++caps).flatMap (idsN 4 r))
     | false=>False
   | _=>False
  | _=>evN P dst (.call c) g r K
 | op=>evN P dst op g r K
theorem a8u (P:Program) (dst:Option Nat) (op:Op) (g:Operand->AV) (r:Nat->Row) (K:Out->List Nat->Prop):gOp P dst op g r K=evN P dst op g r K:=by
 unfold gOp
 split
 ·rename_i c
  split
  ·rename_i f hf
   unfold evN
   simp only [hf]
   unfold evOp
   simp only [hf]
   split
   ·rename_i h first caps hg
    simp only [hg,b1C,H8]
    rfl
   ·rename_i hg
    split
    ·rename_i h first caps hg2
     exact absurd hg2 (hg _ _ _)
    ·rfl
  ·rfl
 ·rfl
def gOpL (P:Program) (o:Oper) (g:Operand->AV) (r:Nat->Row) (K:Out->List Nat->Prop):Prop :=
 match ptrC P o g with
 | true=>gOp P o.dst o.op g r K∨newW P (O4 P o) o.dst o.op g r K
 | false=>match O4 P o with
  | true=>gOp P o.dst o.op g r K∨newC P o.dst o.op g K
  | false=>gOp P o.dst o.op g r K
theorem b3k (P:Program) (o:Oper) (g:Operand->AV) (r:Nat->Row) (K:Out->List Nat->Prop):gOpL P o g r K=evL P o g r K:=by
 unfold gOpL evL
 simp only [a8u]
 rfl
def gwOp (P:Program) (c:Call) (f:Operand) (S:St) (K:St->Out->Prop):Prop :=
 ∃ frz news:List Nat,news.all (k8 S)=true/\gSt ((S.frz frz).kills news) fun S=>match S.get f with
  | .fn (.func h) first caps=>∃ (ids:List Nat) (args':List AV) (ins outs:List Row) (res:AV),
    (PW P h args' ins res outs/\first++c.args.toList.map S.get++caps=renL ids args'/\ids.map S.row=ins.map (l9 ids)/\wB ids news args' ins outs res=true) /\
    K S ⟨res.ren (ids++news),(ids++news).zip (outs.map (l9 (ids++news)))⟩
  | _=>False
theorem a5l (P:Program) (c:Call) (f:Operand) (S:St) (K:St->Out->Prop):gwOp P c f S K=wOp P c f S K:=by
 unfold gwOp wOp
 simp only [y7,l5]
 rfl
def gOp1 (P:Program) (o:Oper) (S:St) (K:St->Out->Prop):Prop :=
 match o.op with
 | .makeFunc f xs ys=>match (xs.toList.map S.get++ys.toList.map S.get).flatMap (idsN 4 S.row) with
  | []=>K S ⟨.fn f (xs.toList.map S.get) (ys.toList.map S.get),[]⟩
  | i :: l=>gSt (S.freeze (V3 (i :: l))) fun S=>K S ⟨.fn f (xs.toList.map S.get) (ys.toList.map S.get),[]⟩
 | .call c=>match c.callee with
  | .value f=>match S.get f with
   | .fn (.func _) first caps=>(match s9 (first++c.args.toList.map S.get++caps) with
    | true=>gOp P o.dst (.call c) S.get S.row fun out _=>K S out
    | false=>∃ frz:Bool,match frz with
     | false=>gOp P o.dst (.call c) S.get S.row fun out _=>K S out
     | true=>gSt (S.freeze (V3 ((first++c.args.toList.map S.get++caps).flatMap (idsN 4 S.row)))) fun S=>gOp P o.dst (.call c) S.get S.row fun out _=>K S out)∨gwOp P c f S K
   | _=>uOp1 P o S K
  | _=>uOp1 P o S K
 | _=>uOp1 P o S K
theorem b3l (P:Program) (o:Oper) (S:St) (K:St->Out->Prop):gOp1 P o S K=uOp1 P o S K:=by
 unfold gOp1
 split
 ·rename_i f xs ys h
  unfold uOp1
  simp only [h,y7,l5]
  rfl
 ·rename_i c h
  split
  ·rename_i f hf
   split
   ·rename_i x first caps hg
    unfold uOp1
    simp only [h,hf,hg]
    simp only [a8u,y7,l5,a5l]
    rfl
   ·rfl
  ·rfl
 ·rfl
def gwOf (P:Program) (o:Oper) (K:St->Out->Prop) (S:St):Prop :=
 match o.op with
 | .call c=>match c.callee with
  | .value f=>gwOp P c f S K
  | _=>False
 | _=>False
theorem b3m (P:Program) (o:Oper) (K:St->Out->Prop):gwOf P o K=wOf P o K:=by
 funext S
 unfold gwOf wOf
 simp only [a5l]
 rfl
def a9q (P:Program) (o:Oper) (S:St) (K:St->Out->Prop):Prop:=nOp gSt P o S K (gwOf P o K) (gOp1 P o S K)
theorem b1D (P:Program) (o:Oper) (S:St) (K:St->Out->Prop):a9q P o S K=a6B P o S K:=by
 have e:gSt=fSt:=funext fun S=>funext fun K=>by rw [y7,l5]
 unfold a9q a6B
 rw [e,b3m,b3l]
def gOpR (P:Program) (o:Oper) (S:St) (K:St->Out->Prop):Prop :=
 match appB o.op with
 | true=>gSt (unN o S) fun S=>a9q P o S K
 | false=>a9q P o S K
theorem b3n (P:Program) (o:Oper) (S:St) (K:St->Out->Prop):gOpR P o S K=uOpR P o S K:=by
 unfold gOpR uOpR
 simp only [b1D,y7,l5]
 rfl
def gOpU (P:Program) (o:Oper) (S:St) (K:St->Out->Prop):Prop :=
 match E0 o.op with
 | true=>match o.dst with
  | some d=>match k8 S d with
   | true=>gSt (S.kill d) fun S=>gOpR P o S K
   | false=>False
  | none=>gOpR P o S K
 | false=>gOpR P o S K
theorem b3o (P:Program) (o:Oper) (S:St) (K:St->Out->Prop):gOpU P o S K=uOp P o S K:=by
 unfold gOpU uOp
 simp only [b3n,y7,l5]
 rfl
def a2J (P:Program) (all:List Oper) (o:Oper) (ih:Nat->St->(St->Prop)->Prop) (k:Nat) (S:St) (K:St->Prop):Prop :=
 match gw all.toArray S o with
 | some true=>gOpU P o S fun S out=>J3 (a32 all k) out fun out=>gPut S o.dst out fun S=>ih (k + 1) S K
 | some false=>gPut S o.dst ⟨.tup [],[]⟩ fun S=>ih (k + 1) S K
 | none=>False
def gRun (P:Program) (all l:List Oper) (k:Nat) (S:St) (K:St->Prop):Prop :=
 List.rec (motive:=fun _=>Nat->St->(St->Prop)->Prop) (fun _ S K=>K S) (fun o _ ih=>a2J P all o ih) l k S K
theorem a9r (P:Program) (all:List Oper):∀ (l:List Oper) (k:Nat) (S:St) (K:St->Prop),gRun P all l k S K=uRun P all l k S K
 | [],_,_,_=>rfl
 | o :: l,k,S,K=>by
  show a2J P all o (fun k S K=>gRun P all l k S K) k S K=_
  unfold a2J uRun
  simp only [a9r P all l,b3o,a5k]
  rfl
def a2K (P:Program) (all:List Oper) (o:Oper) (ih:Nat->St->List (List Nat×List Nat)->(St->Prop)->Prop) (k:Nat) (S:St) (fps:List (List Nat×List Nat)) (K:St->Prop):Prop :=
 match gw all.toArray S o with
 | some true=>gOpL P o S.get S.row fun out rd=>J3 (a32 all k) out fun out=>gPut S o.dst out fun S=>ih (k + 1) S (fps++[(rd,out.rows.map (·.1))]) K
 | some false=>gPut S o.dst ⟨.tup [],[]⟩ fun S=>ih (k + 1) S (fps++[([],[])]) K
 | none=>False
def gLex (P:Program) (all l:List Oper) (k:Nat) (S:St) (fps:List (List Nat×List Nat)) (K:St->Prop):Prop :=
 List.rec (motive:=fun _=>Nat->St->List (List Nat×List Nat)->(St->Prop)->Prop) (fun _ S fps K=>a6z all fps=true/\K S) (fun o _ ih=>a2K P all o ih) l k S fps K
theorem a5m (P:Program) (all:List Oper):∀ (l:List Oper) (k:Nat) (S:St) (fps:List (List Nat×List Nat)) (K:St->Prop),gLex P all l k S fps K=T5 P all l k S fps K
 | [],_,_,_,_=>rfl
 | o :: l,k,S,fps,K=>by
  show a2K P all o (fun k S fps K=>gLex P all l k S fps K) k S fps K=_
  unfold a2K T5
  simp only [a5m P all l,b3k,a5k]
  rfl
def a6E (ds:List Nat) (S0:St) (ws bs:List Nat) (vs:List (Nat×VT)) (S:St) (K:List AV->List Row->List Row->Prop):Prop :=
 gSt (canonV vs S) fun S=>gL (ws.map fun i=>S.t.getD i .any) fun vals=>a2I (bs.map S.row) fun brows=>a2I (vs.map fun v=>S.row v.1) fun vrows =>
  K vals brows vrows/\a0k (y6 ds S0 ws bs vs vals brows vrows).t S.t=some (y6 ds S0 ws bs vs vals brows vrows).t /\
   V2 (y6 ds S0 ws bs vs vals brows vrows).h S.h=some (y6 ds S0 ws bs vs vals brows vrows).h
theorem a2L (ds:List Nat) (S0:St) (ws bs:List Nat) (vs:List (Nat×VT)) (S:St) (K:List AV->List Row->List Row->Prop):a6E ds S0 ws bs vs S K=T6 ds S0 ws bs vs S K:=by
 unfold a6E T6
 simp only [y7,l5,b1C,H8,X3,D3]
def gUnr (f:St->(Ex->St->Prop)->Prop) (n:Nat) (S:St) (Q:Ex->St->Prop):Prop :=
 Nat.rec (motive:=fun _=>St->(Ex->St->Prop)->Prop) (fun _ _=>False) (fun _ ih S Q=>f S fun e S=>match e with
  | .norm=>ih S Q
  | e=>Q e S) n S Q
theorem a5n (f:St->(Ex->St->Prop)->Prop):∀ (n:Nat) (S:St) (Q:Ex->St->Prop),gUnr f n S Q=unr f n S Q
 | 0,_,_=>rfl
 | n + 1,S,Q=>by
  show f S (fun e S=>match e with
   | .norm=>gUnr f n S Q
   | e=>Q e S)=_
  unfold unr
  congr 1
  funext e S
  cases e
  ·exact a5n f n S Q
  ·rfl
  ·rfl
abbrev GX:=St->(Ex->St->Prop)->Prop
def a5o (P:Program) (ops:Array Oper) (draw:Bool) (S:St) (Q:Ex->St->Prop):Prop :=
 match draw with
 | false=>gRun P ops.toList ops.toList 0 S fun S=>gSt S (Q .norm)
 | true=>gSt (preF P S ops.toList) fun S=>(a33 P ops && (K3 P ops.toList).all (k8 S) && Z2 ops.toList)=true/\gSt (S.kills (K3 P ops.toList)) fun S=>gLex P ops.toList ops.toList 0 S [] fun S=>gSt S (Q .norm)
def gSeq (a b:GX) (S:St) (Q:Ex->St->Prop):Prop:=a S fun e S=>match e with
 | .norm=>b S Q
 | e=>Q e S
def a9s (c:Operand) (a b:GX) (S:St) (Q:Ex->St->Prop):Prop :=
 match S.get c with
 | .tt=>a S Q
 | .ff=>b S Q
 | .bool x=>(x=true->a S Q)/\(x=false->b S Q)
 | _=>False
def a5p (id:Nat) (c:GX) (S:St) (Q:Ex->St->Prop):Prop:=c S fun e S=>match e with
 | .exit i=>match Nat.beq i id with
  | true=>Q .norm S
  | false=>Q (.exit i) S
 | e=>Q e S
def a38 (c:Code) (f:GX) (S:St) (Q:Ex->St->Prop):Prop :=
 (∃ n,gUnr f n S Q) ∨
  ∃ (ι:Type) (ws bs:List Nat) (vs:List (Nat×VT)) (V:ι->List AV) (BR VR:ι->List Row) (μ:ι->Nat) (I:ι->Prop),gNs (G2 c) fun ds=>gSt (canonV vs S) fun S0 =>
   (∃ i,a6E ds S0 ws bs vs S fun vals brows vrows=>I i/\vals=V i/\brows=BR i/\vrows=VR i) /\
   ∀ i,I i->gSt (y6 ds S0 ws bs vs (V i) (BR i) (VR i)) fun S1=>f S1 fun e S2=>match e with
    | .norm=>∃ i',a6E ds S0 ws bs vs S2 fun vals brows vrows=>(μ i' < μ i/\I i')/\vals=V i'/\brows=BR i'/\vrows=VR i'
    | e=>Q e S2
def a8v (P:Program) (g:Operand) (ps:Array Tmp) (dsA dsB:List Nat) (fa fb:GX) (S:St) (Q:Ex->St->Prop):Prop :=
 match S.n with
 | .round _=>False
 | .iter=>False
 | .plain=>match S.get g with
  | .fn (.func gf) [] caps=>s9 caps=true /\
   ∃ (xs:List (List AV)) (bs:List Nat) (BR:Nat->List Row) (I:Nat->Prop),(SQ P gf caps xs/\∀ x ∈ xs,M4 x=true/\x.length=ps.size) /\
    gNs (ps.toList++(dsA++dsB)) fun ds=>ds.all (k8 S)=true /\
     (a6E ds S [] bs [] S fun vals brows vrows=>I 0/\vals=[]/\brows=BR 0/\vrows=[]) /\
     (∀ k x,I k->xs[k]? = some x->gSt ((y6 ds S [] bs [] [] (BR k) []).kills ds) fun S1=>gSt ⟨O5 S1.t ps.toList x,S1.h,.round ds⟩ fun S2 =>
      fa S2 fun e S3=>match e with
       | .norm=>fb S3 fun e S4=>match e with
        | .norm=>a2I (bs.map S4.row) fun brows=>(I (k + 1)/\brows=BR (k + 1))/\V2 ((y6 ds S [] bs [] [] brows []).kills ds).h S4.h=some ((y6 ds S [] bs [] [] brows []).kills ds).h
        | e=>Q e ⟨S1.t,S4.h,.plain⟩
       | _=>False) /\
     (I xs.length->gSt ((y6 ds S [] bs [] [] (BR xs.length) []).kills ds) (Q .norm))
  | _=>False
def gEx (P:Program) (c:Code):GX :=
 Code.rec (motive:=fun _=>GX)
  (fun S Q=>Q .norm S)
  (fun _ ops draw=>a5o P ops draw)
  (fun _ _ ia ib=>gSeq ia ib)
  (fun c _ _ ia ib=>a9s c ia ib)
  (fun id _ ic=>a5p id ic)
  (fun c ic=>a38 c ic)
  (fun g ps assign body ia ib=>a8v P g ps (G2 assign) (G2 body) ia ib)
  (fun id S Q=>Q (.exit id) S)
  (fun _ ic S Q=>ic S Q)
  (fun _ S Q=>Q .norm S)
  (fun _ _ _=>False)
  (fun S Q=>Q .ret S)
  (fun _ _ _=>False) c
theorem K5 (P:Program):∀ (c:Code),gEx P c=ex P c
 | .skip=>by funext S Q; simp only [ex]; rfl
 | .region id ops draw=>by
  funext S Q
  show a5o P ops draw S Q=_
  unfold a5o ex
  cases draw
  ·simp only [a9r,y7,l5]
  ·simp only [a5m,y7,l5]
 | .seq a b=>by
  funext S Q
  show gSeq (gEx P a) (gEx P b) S Q=_
  rw [K5 P a,K5 P b]
  simp only [ex]
  rfl
 | .cond c a b=>by
  funext S Q
  show a9s c (gEx P a) (gEx P b) S Q=_
  rw [K5 P a,K5 P b]
  simp only [ex]
  rfl
 | .block id c=>by
  funext S Q
  show a5p id (gEx P c) S Q=_
  rw [K5 P c]
  simp only [ex]
  rfl
 | .loop c=>by
  funext S Q
  show a38 c (gEx P c) S Q=_
  rw [K5 P c]
  simp only [ex]
  unfold a38
  simp only [a5n,a8t,a0x,y7,l5,a2L]
  rfl
 | .rangeFunc g ps assign body=>by
  funext S Q
  show a8v P g ps (G2 assign) (G2 body) (gEx P assign) (gEx P body) S Q=_
  rw [K5 P assign,K5 P body]
  simp only [ex]
  unfold a8v
  simp only [a8t,a0x,y7,l5,a2L,X3,D3]
  rfl
 | .exit id=>by funext S Q; simp only [ex]; rfl
 | .scope c=>by
  funext S Q
  show gEx P c S Q=_
  rw [K5 P c]
  simp only [ex]
 | .label l=>by funext S Q; simp only [ex]; rfl
 | .goto l=>by funext S Q; simp only [ex]; rfl
 | .ret=>by funext S Q; simp only [ex]; rfl
 | .refuse w=>by funext S Q; simp only [ex]; rfl
def b1E (P:Program) (fn:Func) (args:List AV) (res:AV):Prop :=
 match fn.body with
 | none=>False
 | some c=>gSt ⟨args++List.replicate (fn.ntmps - args.length) .any,List.replicate fn.ntmps .none,.plain⟩ fun S=>gEx P c S fun e S=>match e with
  | .exit _=>False
  | _=>match K7 P S fn.results.toList with
   | some l=>av3 (O6 l).fin fun v=>v=res
   | none=>False
theorem b1F (P:Program) (fn:Func) (args:List AV) (res:AV):b1E P fn args res=body P fn args res:=by
 unfold b1E body
 simp only [K5,y7,l5,a2H,M5]
 rfl
theorem a7 {P:Program} (hm:P.follows .mixedOrders=true) {f:FuncId} {fn:Func} {args:List AV} {res:AV} (hf:P.funcs[f]? = some fn) (hname:(fn.name == "runtime.NumGoroutine")=false) (h:b1E P fn args res):PC P f args res :=
 a8o hm hf hname (by rw [<- b1F]; exact h)
def a8w (P:Program) (fn:Func) (args:List AV) (ins:List Row) (res:AV) (outs:List Row):Prop :=
 match fn.body with
 | none=>False
 | some c=>(F7 ins.length args && ins.all (fun r=>r5 ins.length r && r.live) && Nat.ble args.length fn.ntmps)=true /\
  gSt ⟨renL (List.range' fn.ntmps ins.length) args++List.replicate (fn.ntmps - args.length) .any,List.replicate fn.ntmps .none++ins.map (l9 (List.range' fn.ntmps ins.length)),.plain⟩ fun S=>gEx P c S fun e S=>match e with
  | .exit _=>False
  | _=>match I3 P S fn.results.toList with
   | some l=>∃ news:List Nat,(N1 (List.range' fn.ntmps ins.length++news) && Nat.beq outs.length (List.range' fn.ntmps ins.length++news).length && res.under outs.length && outs.all (r5 outs.length))=true /\
     av3 (O6 l).fin fun v=>v=res.ren (List.range' fn.ntmps ins.length++news)/\(List.range' fn.ntmps ins.length++news).map S.row=outs.map (l9 (List.range' fn.ntmps ins.length++news))
   | none=>False
theorem b0l (P:Program) (fn:Func) (args:List AV) (ins:List Row) (res:AV) (outs:List Row):a8w P fn args ins res outs=a9l P fn args ins res outs:=by
 unfold a8w a9l
 simp only [K5,y7,l5,a2H,M5]
 rfl
theorem a9 {P:Program} (hm:P.follows .mixedOrders=true) {f:FuncId} {fn:Func} {args:List AV} {ins outs:List Row} {res:AV} (hf:P.funcs[f]? = some fn) (hname:(fn.name == "runtime.NumGoroutine")=false) (h:a8w P fn args ins res outs):PW P f args ins res outs :=
 a8p hm hf hname (by rw [<- b0l]; exact h)
def a8x (P:Program) (fn:Func) (caps:List AV) (xs:List (List AV)):Prop :=
 match fn.body with
 | none=>False
 | some c=>Nat.ble (caps.length + 1) fn.ntmps=true/\∀ l:Nat,gSt ⟨(.fn (.yield l) [] [] :: caps)++List.replicate (fn.ntmps - (caps.length + 1)) .any,List.replicate fn.ntmps .none++[.ctr l xs 0 false],.iter⟩ fun S=>gEx P c S fun e S=>match e with
  | .exit _=>False
  | _=>match K7 P S fn.results.toList with
   | some _=>match S.row S.t.length with
    | .ctr _ _ k e'=>e'=false->k=xs.length
    | _=>False
   | none=>False
theorem b0m (P:Program) (fn:Func) (caps:List AV) (xs:List (List AV)):a8x P fn caps xs=a9m P fn caps xs:=by
 unfold a8x a9m
 simp only [K5,y7,l5]
 rfl
theorem a1R {P:Program} (hm:P.follows .mixedOrders=true) {f:FuncId} {fn:Func} {caps:List AV} {xs:List (List AV)} (hf:P.funcs[f]? = some fn) (hname:(fn.name == "runtime.NumGoroutine")=false) (h:a8x P fn caps xs):SQ P f caps xs :=
 a8q hm hf hname (by rw [<- b0m]; exact h)
/- Many slots given up at once. A helper text: it speaks of no program. -/
def R5 (x:AV):List Nat->Bool
 | []=>false
 | d :: l=>match x.names d with
  | true=>true
  | false=>R5 x l
def AV.plain1:AV->Bool
 | .ptr _ _ _ _=>false
 | .own _=>false
 | .mem _ _=>false
 | .mptr _ _ _=>false
 | .agg _=>false
 | .tup _=>false
 | .fn _ _ _=>false
 | _=>true
def A5 (ds:List Nat) (x:AV):AV:=match x.plain1 with
 | true=>x
 | false=>match R5 x ds with
  | true => .any
  | false=>x
theorem a5q {x:AV} (h:x.plain1=true) (d:Nat):x.names d=false:=by
 cases x<;>simp [AV.plain1] at h<;>rfl
theorem a2M {x:AV} (h:x.plain1=true):∀ ds,R5 x ds=false
 | []=>rfl
 | d :: l=>by simp only [R5]; rw [a5q h d]; exact a2M h l
theorem a0A (ds:List Nat) (x:AV):A5 ds x=match R5 x ds with
  | true => .any
  | false=>x:=by
 unfold A5
 cases h:x.plain1 with
 | false=>rfl
 | true=>rw [a2M h ds]
theorem a6F (ds:List Nat):A5 ds .any = .any:=rfl
theorem U3 (d:Nat) (l:List Nat) (x:AV):A5 l (s7 d x)=A5 (d :: l) x:=by
 rw [a0A (d :: l) x]
 unfold s7
 simp only [R5]
 cases h:x.names d with
 | true=>exact a6F l
 | false=>exact a0A l x
def B5 (ds:List Nat):Row->Row
 | .none => .none
 | .cells ty cs => .cells ty (cs.map (A5 ds))
 | .lit ty sz css => .lit ty sz (css.map fun cs=>cs.map (A5 ds))
 | .vec ty sz e enc l => .vec ty sz e enc l
 | .ctr l xs k e => .ctr l xs k e
 | .nest ty sz j0 ty' e enc ys ho l => .nest ty sz j0 ty' e enc ys ho l
theorem a3J (d:Nat) (l:List Nat) (r:Row):B5 l (k9 d r)=B5 (d :: l) r:=by
 cases r<;>simp only [B5,k9,List.map_map,Row.cells.injEq,Row.lit.injEq,true_and]
 ·refine List.map_congr_left fun x _ => ?_
  exact U3 d l x
 ·refine List.map_congr_left fun x _ => ?_
  simp only [Function.comp,List.map_map]
  refine List.map_congr_left fun y _ => ?_
  exact U3 d l y
def a0B:List Nat->List Row->List Row
 | [],h=>h
 | d :: l,h=>a0B l (h.set d .none)
theorem a1S (x:AV):A5 [] x=x:=by
 rw [a0A]
 rfl
theorem a5r (r:Row):B5 [] r=r:=by
 have e:A5 []=id:=funext a1S
 cases r<;>simp [B5,e]
theorem a6G:∀ (l:List Nat) (S:St),S.kills l=⟨S.t.map (A5 l),a0B l (S.h.map (B5 l)),S.n⟩
 | [],S=>by
  have e:A5 []=id:=funext a1S
  have e2:B5 []=id:=funext a5r
  simp only [St.kills,a0B]
  rw [e,e2,List.map_id,List.map_id]
 | d :: l,S=>by
  simp only [St.kills]
  rw [a6G l]
  simp only [St.kill,List.map_map]
  have e:A5 l ∘ s7 d=A5 (d :: l):=funext fun x=>U3 d l x
  have e2:B5 l ∘ k9 d=B5 (d :: l):=funext fun x=>a3J d l x
  rw [e,List.map_set,List.map_map,e2]
  rfl
def memB (i:Nat):List Nat->Bool
 | []=>false
 | d :: l=>match Nat.beq d i with
  | true=>true
  | false=>memB i l
def Z3 (ds:List Nat) (i:Nat):Row->Row
 | .none => .none
 | .cells ty cs=>match memB i ds with
  | true => .none
  | false => .cells ty (cs.map (A5 ds))
 | r=>match memB i ds with
  | true => .none
  | false=>B5 ds r
def a0W (ds:List Nat):Nat->List Row->List Row
 | _,[]=>[]
 | i,r :: h=>Z3 ds i r :: a0W ds (i + 1) h
theorem a5s (ds:List Nat) (i:Nat) (r:Row):Z3 ds i r=if memB i ds=true then .none else B5 ds r:=by
 cases r<;>simp only [Z3,B5]<;>cases memB i ds<;>simp
theorem a39 (i d:Nat) (l:List Nat):memB i (d :: l)=(Nat.beq d i || memB i l):=by
 simp only [memB]
 cases Nat.beq d i<;>rfl
theorem a2N:∀ (l:List Nat) (h:List Row) (j:Nat),(a0B l h)[j]? = (h[j]?).map fun r=>if memB j l=true then .none else r
 | [],h,j=>by simp [a0B,memB]
 | d :: l,h,j=>by
  simp only [a0B]
  rw [a2N l,List.getElem?_set]
  by_cases e:d=j
  ·subst e
   by_cases hl:d < h.length
   ·have hb:memB d (d :: l)=true:=by rw [a39]; simp
    simp [hl,hb]
   ·simp [hl]
  ·have hb:memB j (d :: l)=memB j l:=by
    rw [a39]
    have:Nat.beq d j=false:=by
     cases hx:Nat.beq d j with
     | false=>rfl
     | true=>exact absurd (Nat.eq_of_beq_eq_true hx) e
    rw [this]; rfl
   rw [hb,if_neg e]
theorem a4a (ds:List Nat):∀ (h:List Row) (i j:Nat),(a0W ds i h)[j]? = (h[j]?).map (Z3 ds (i + j))
 | [],i,j=>by simp [a0W]
 | r :: h,i,0=>by simp [a0W]
 | r :: h,i,j + 1=>by
  simp only [a0W,List.getElem?_cons_succ]
  rw [a4a ds h,show i + 1 + j=i + (j + 1) by omega]
theorem b1G (l:List Nat) (h:List Row):a0B l (h.map (B5 l))=a0W l 0 h:=by
 refine List.ext_getElem? fun j => ?_
 rw [a2N,a4a,List.getElem?_map]
 cases h[j]? with
 | none=>rfl
 | some r=>simp only [Option.map_some,Nat.zero_add]; rw [a5s]
/- Many slots given up at once, for the executor by recursors. A helper text: it speaks of no program. -/
theorem b1H {l:List Nat} {S:St} {K:St->Prop} (h:gSt S fun S=>gSt ⟨S.t.map (A5 l),a0W l 0 S.h,S.n⟩ K):gSt (S.kills l) K:=by
 rw [y7,y7] at h
 rw [y7,a6G,b1G]
 exact h
theorem a4b {xs:List (List AV)} {I:Nat->Prop} {A:Nat->St} {ds:List Nat} {K:Nat->List AV->St->Prop} {m:Nat} {f:Nat->List AV} (hx:∀ k x,xs[k]? = some x->k < m/\x=f k)
  (h:∀ k,k < m->I k->gSt (A k) fun S=>gSt ⟨S.t.map (A5 ds),a0W ds 0 S.h,S.n⟩ (K k (f k))):∀ k x,I k->xs[k]? = some x->gSt ((A k).kills ds) (K k x):=by
 intro k x hk hxk
 obtain ⟨h1,rfl⟩:=hx k x hxk
 exact b1H (h k h1 hk)
theorem a6H {R:Prop} {l:List Nat} {S:St} {K:St->Prop} (h:R->gSt S fun S=>gSt ⟨S.t.map (A5 l),a0W l 0 S.h,S.n⟩ K):R->gSt (S.kills l) K:=fun r=>b1H (h r)

end Go.Ev
