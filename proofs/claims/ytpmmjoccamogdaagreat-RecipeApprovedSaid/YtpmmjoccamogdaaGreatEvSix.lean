/- Helper lemmas. -/
import Derived.Test.YtpmmjoccamogdaaGreatEvFive
import Derived.Lib.Mul64
import Derived.Laws.Externs
set_option linter.unusedVariables false
set_option linter.unusedSimpArgs false
/- Small things that every contract uses. A helper text: it speaks of no program. -/
namespace Go.Ev
abbrev i64 (n:Int):AV := .int .i64 n
abbrev eI (n:Int):List AV:=[.int .i64 n]
abbrev I7 (l:List Int):AV := .sl 1 (0:Int) eI l
def K6 (n:Int):Prop := -9223372036854775808<=n/\n<=9223372036854775807
theorem L9 (n:Int) (h1 : -9223372036854775808<=n) (h2:n<=9223372036854775807):IntKind.i64.wrap n=n:=IntWalk.i64_in n ⟨h1,h2⟩
theorem Iz (n:Int) (h1:0<=n) (h2:n<=18446744073709551615):IntKind.u64.wrap n=n:=by simp [IntKind.wrap,IntKind.bits,IntKind.signed];omega
def rZ (x y:AV):Prop:=∀ (F:Nat->Prop) (w:World) (v:Value),p9 F w x v->p9 F w y v
theorem rZ.refl (x:AV):rZ x x:=fun _ _ _ h=>h
theorem rZ.slc {α:Type} (sz:Nat) (d:α) (enc:α->List AV) (l:List α):rZ (.slc sz (l.map enc)) (.sl sz d enc l):=by
 intro F w v h
 generalize hc:l.map enc=z7 at h
 cases h with
 | slcnil =>
  have:l=[]:=by simpa using hc
  subst this
  exact .slnil
 | slc g wG hb hr =>
  subst hc
  simp only [List.length_map] at *
  refine .sl g wG hb fun i j hi hj=>?_
  have:=hr i j hi hj
  have e:(l.map enc).getD i []=enc (l.getD i d):=by simp [List.getD,List.getElem?_map,hi]
  rwa [e] at this
theorem rZ.nils {α:Type} (sz:Nat) (d:α) (enc:α->List AV):rZ .nils (.sl sz d enc []):=by
 intro F w v h
 cases h
 exact .slnil
theorem PC.sub {P:Program} {f:FuncId} {args E5:List AV} {res xq:AV} (h:PC P f args res) (hl:E5.length=args.length) (hs:∀ i,i < args.length->rZ (E5.getD i .any) (args.getD i .any)) (hr:rZ res xq):PC P f E5 xq:=by
 intro F w vs hF C1 N1
 rcases h F w vs hF (C1.trans hl) (fun i hi=>hs i hi _ _ _ (N1 i (hl ▸ hi))) with ⟨h1,h2⟩|⟨v,h1,h2⟩
 ·exact .inl ⟨h1,h2.mono fun e w' ⟨v,e1,e2,e3⟩=>⟨v,e1,e2,hr _ _ _ e3⟩⟩
 ·exact .inr ⟨v,h1,hr _ _ _ h2⟩
theorem PC.last {P:Program} {f:FuncId} {args:List AV} {x y res:AV} (h:PC P f (args++[x]) res) (hs:rZ y x):PC P f (args++[y]) res:=by
 refine h.sub (by simp) (fun i hi=>?_) (.refl _)
 simp only [List.length_append,List.length_cons,List.length_nil] at hi
 by_cases e:i < args.length
 ·simp only [List.getD,List.getElem?_append,e,if_true];exact .refl _
 ·have:i - args.length=0:=by omega
  simp only [List.getD,List.getElem?_append,e,if_false,this];exact hs
def mf {α:Type} (p:α->Bool):List α->Int
 | [] => -1
 | a :: l=>if p a then 0 else if mf p l = -1 then -1 else mf p l + 1
theorem xr {α:Type} (p:α->Bool):∀ l:List α,-1<=mf p l/\mf p l < l.length
 | []=>by simp [mf]
 | a :: l=>by
  have:=xr p l
  simp only [mf,List.length_cons]
  split
  ·omega
  ·split<;>omega
theorem iL {α:Type} (p:α->Bool) (d:α):∀ (l:List α) (k:Nat),k < l.length->p (l.getD k d)=true->(∀ i,i < k->p (l.getD i d)=false)->mf p l=k
 | [],k,hk,_,_=>absurd hk (Nat.not_lt_zero k)
 | a :: l,0,_,h,_=>by
  have h:p a=true:=h
  simp [mf,h]
 | a :: l,k + 1,hk,h,hn=>by
  have h0:p a=false:=hn 0 (by omega)
  have:=iL p d l k (by simpa using hk) h fun i hi=>hn (i + 1) (by omega)
  simp only [mf,h0,this]
  simp
theorem eU {α:Type} (p:α->Bool) (d:α):∀ (l:List α),(∀ i,i < l.length->p (l.getD i d)=false)->mf p l = -1
 | [],_=>rfl
 | a :: l,hn=>by
  have h0:p a=false:=hn 0 (by simp)
  have:=eU p d l fun i hi=>hn (i + 1) (by simpa using hi)
  simp [mf,h0,this]
theorem iM {α:Type} (p:α->Bool):∀ l:List α,decide (mf p l ≥ 0)=l.any p
 | []=>rfl
 | a :: l=>by
  have:=iM p l
  have h2:=(xr p l).1
  rw [List.any_cons,<- this]
  by_cases hp:p a=true
  ·simp [mf,hp]
  ·simp only [mf,hp]
   by_cases h3:mf p l = -1
   ·simp [h3]
   ·have:mf p l ≥ 0:=by omega
    have h4:mf p l + 1 ≥ 0:=by omega
    simp [h3,this,h4]
/- Words: unsigned numbers of 64 bits, as natural numbers. A helper text: it speaks of no program. -/
abbrev u64 (n:Nat):AV := .int .u64 (n:Int)
theorem wu (n:Nat) (h:n < 18446744073709551616):IntKind.u64.wrap (n:Int)=n:=Iz _ (by omega) (by have:n < 18446744073709551616:=h;omega)
theorem jz (n:Int):IntKind.u64.wrap n=((n % 18446744073709551616).toNat:Int):=by simp [IntKind.wrap,IntKind.bits,IntKind.signed];omega
theorem wi (n:Int) (h1 : -9223372036854775808<=n) (h2:n<=9223372036854775807):IntKind.i64.wrap n=n:=L9 n h1 h2
theorem sa (a b:Nat) (ha:a < 18446744073709551616) (hb:b < 18446744073709551616):bits .and .u64 (a:Int) (b:Int)=((a &&& b:Nat):Int):=by
 have h:(BitVec.ofInt 64 (a:Int) &&& BitVec.ofInt 64 (b:Int)).toNat=a &&& b:=by
  rw [BitVec.toNat_and,BitVec.toNat_ofInt,BitVec.toNat_ofInt]
  congr 1<;>omega
 show IntKind.u64.wrap (((BitVec.ofInt 64 (a:Int) &&& BitVec.ofInt 64 (b:Int)).toNat:Nat):Int)=_
 rw [h]
 exact wu _ (Nat.lt_of_le_of_lt Nat.and_le_left ha)
theorem uW (a b:Nat) (ha:a < 18446744073709551616) (hb:b < 18446744073709551616):bits .or .u64 (a:Int) (b:Int)=((a ||| b:Nat):Int):=by
 have h:(BitVec.ofInt 64 (a:Int) ||| BitVec.ofInt 64 (b:Int)).toNat=a ||| b:=by
  rw [BitVec.toNat_or,BitVec.toNat_ofInt,BitVec.toNat_ofInt]
  congr 1<;>omega
 show IntKind.u64.wrap (((BitVec.ofInt 64 (a:Int) ||| BitVec.ofInt 64 (b:Int)).toNat:Nat):Int)=_
 rw [h]
 exact wu _ (Nat.or_lt_two_pow (n:=64) ha hb)
theorem mg (a k:Nat) (hk:k<=64):((a:Nat):Int).fdiv (2 ^ min (Int.toNat (k:Int)) IntKind.u64.bits)=((a / 2 ^ k:Nat):Int):=by
 have:min (Int.toNat (k:Int)) IntKind.u64.bits=k:=by show min k 64=k;omega
 rw [this,Int.fdiv_eq_ediv_of_nonneg _ (by exact Int.le_of_lt (Int.pow_pos (by decide)))]
 simp
theorem xt (a k:Nat) (hk:k<=64):IntKind.u64.wrap ((a:Int) * 2 ^ min (Int.toNat (k:Int)) IntKind.u64.bits)=((a * 2 ^ k % 18446744073709551616:Nat):Int):=by
 have:min (Int.toNat (k:Int)) IntKind.u64.bits=k:=by show min k 64=k;omega
 rw [this,jz]
 have e:(a:Int) * 2 ^ k=((a * 2 ^ k:Nat):Int):=by simp
 rw [e]
 omega
theorem jA (a b:Nat):IntKind.u64.wrap ((a:Int) * (b:Int))=((a * b % 18446744073709551616:Nat):Int):=by
 rw [jz]
 have e:(a:Int) * b=((a * b:Nat):Int):=by simp
 rw [e]
 omega
theorem jB (a b:Nat):IntKind.u64.wrap ((a:Int) + (b:Int))=(((a + b) % 18446744073709551616:Nat):Int):=by rw [jz];omega
theorem tz (a b:Nat) (hb:b<=18446744073709551616):IntKind.u64.wrap ((a:Int) - (b:Int))=(((a + (18446744073709551616 - b)) % 18446744073709551616:Nat):Int):=by rw [jz];omega
theorem bO (a b:Nat) (ha:a < 18446744073709551616):IntKind.u64.wrap ((a:Int).tdiv (b:Int))=((a / b:Nat):Int):=by
 rw [Int.tdiv_eq_ediv_of_nonneg (by omega)]
 have e:(a:Int) / b=((a / b:Nat):Int):=by simp
 rw [e]
 exact wu _ (Nat.lt_of_le_of_lt (Nat.div_le_self a b) ha)
theorem xu (a b:Nat):(a:Int).tmod (b:Int)=((a % b:Nat):Int):=by
 rw [Int.tmod_eq_emod_of_nonneg (by omega)]
 simp
theorem sb (a:Nat):a &&& 4294967295=a % 4294967296:=Nat.and_two_pow_sub_one_eq_mod a 32
theorem cr (a:Nat) (ha:a < 18446744073709551616):bits .and .u64 (a:Int) 4294967295=((a % 4294967296:Nat):Int):=by
 have:=sa a 4294967295 ha (by decide)
 rw [sb] at this
 exact this
theorem iN (a:Nat):((a:Nat):Int).fdiv (2 ^ min (Int.toNat 32) IntKind.u64.bits)=((a / 4294967296:Nat):Int):=mg a 32 (by omega)
abbrev pr (n:Nat):AV := .agg [u64 (n / 18446744073709551616),u64 (n % 18446744073709551616)]
abbrev fr (x:Int×Int):AV := .agg [i64 x.1,i64 x.2]
abbrev eF (x:Int×Int):List AV:=[i64 x.1,i64 x.2]
/- Calls that the model stands in for: sums and differences of words with carry. A helper text: it speaks of no program. -/
theorem p9.int_inv {F:Nat->Prop} {w:World} {k:IntKind} {n:Int} {v:Value} (h:p9 F w (.int k n) v):v = .int k n:=by cases h;rfl
theorem jC {F:Nat->Prop} {w:World} {vs:Array Value} {x y c:Nat} (C1:vs.size=3) (h:∀ i,i < 3->p9 F w ([u64 x,u64 y,u64 c].getD i .any) (vs.getD i undef)):vs=#[.int .u64 x,.int .u64 y,.int .u64 c]:=by
 have h0:vs.getD 0 undef = .int .u64 x:=(h 0 (by omega)).int_inv
 have h1:vs.getD 1 undef = .int .u64 y:=(h 1 (by omega)).int_inv
 have h2:vs.getD 2 undef = .int .u64 c:=(h 2 (by omega)).int_inv
 have e:∀ i,(hi:i < vs.size)->vs.getD i undef=vs[i]:=fun i hi=>by simp [Array.getD,hi]
 rw [e _ (by omega)] at h0 h1 h2
 apply Array.ext
 ·simpa using C1
 ·intro i hi hj
  have:i=0∨i=1∨i=2:=by simp at hj;omega
  rcases this with rfl|rfl|rfl
  ·exact h0
  ·exact h1
  ·exact h2
theorem tA {F:Nat->Prop} {w:World} (a b:Nat):p9 F w (.tup [u64 a,u64 b]) (.tuple #[.int .u64 a,.int .u64 b]):=by
 refine .tup rfl fun i hi=>?_
 have:i=0∨i=1:=by simp at hi;omega
 rcases this with rfl|rfl
 ·exact .int _ _
 ·exact .int _ _
theorem xw {P:Program} {f:FuncId} {fn:Func} (hf:P.funcs[f]? = some fn) (I8:(fn.name == "runtime.NumGoroutine")=false) (hb:fn.body.isNone=true) (hn:Extern.findNext fn=none) (he:Extern.find fn=some add64Entry)
  (x y c:Nat) (hc:c<=1):PC P f [u64 x,u64 y,u64 c] (.tup [u64 ((x + y + c) % 18446744073709551616),u64 ((x + y + c) / 18446744073709551616)]):=by
 intro F w vs _ C1 h
 have hv:=jC C1 h
 subst hv
 have:=run_callFunc_extern hf I8 hb hn he #[.int .u64 x,.int .u64 y,.int .u64 c] w
 rw [run_add64 x y c (by omega) (by omega) (by omega) (by omega)] at this
 refine .inr ⟨_,this,?_⟩
 have e1:((x:Int) + y + c) % 18446744073709551616=(((x + y + c) % 18446744073709551616:Nat):Int):=by omega
 have e2:((x:Int) + y + c) / 18446744073709551616=(((x + y + c) / 18446744073709551616:Nat):Int):=by omega
 rw [e1,e2]
 exact tA _ _
def xx:Array Value→Sem Value:=(Extern.MathBitsCarry.rows.getD 1 ("",fun _=>pure undef)).2
theorem xy {P:Program} {f:FuncId} {fn:Func} (hf:P.funcs[f]? = some fn) (I8:(fn.name == "runtime.NumGoroutine")=false) (hb:fn.body.isNone=true) (hn:Extern.findNext fn=none) (he:Extern.find fn=some xx)
  (x y c:Nat) (hc:c<=1):PC P f [u64 x,u64 y,u64 c] (.tup [u64 ((x + 18446744073709551616 - y - c) % 18446744073709551616),u64 (if x < y + c then 1 else 0)]):=by
 intro F w vs _ C1 h
 have hv:=jC C1 h
 subst hv
 have:=run_callFunc_extern hf I8 hb hn he #[.int .u64 x,.int .u64 y,.int .u64 c] w
 refine .inr ⟨.tuple #[.int .u64 (((x + 18446744073709551616 - y - c) % 18446744073709551616:Nat):Int),.int .u64 ((if x < y + c then 1 else 0:Nat):Int)],this.trans ?_,tA _ _⟩
 have:c=0∨c=1:=by omega
 rcases this with rfl|rfl<;>rfl
/- The executor once more, by recursors: Lean's whnf unfolds a recursive definition by its equations and then copies all of its arguments as trees; a recursor it does not copy. A helper text: it speaks of no program. -/
def tB {α:Type 1} (f:α->(α->Prop)->Prop) (l:List α) (K:List α->Prop):Prop :=
 List.rec (motive:=fun _=>(List α->Prop)->Prop) (fun K=>K []) (fun a _ ih K=>f a fun a=>ih fun l=>K (a :: l)) l K
theorem bD {α:Type 1} {f:α->(α->Prop)->Prop} (hf:∀ a K,f a K=K a) (l:List α) (K:List α->Prop):tB f l K=K l:=by
 unfold tB
 induction l generalizing K with
 | nil=>rfl
 | cons a l ih =>
  show f a (fun a=>List.rec (motive:=fun _=>(List α->Prop)->Prop) (fun K=>K []) (fun a _ ih K=>f a fun a=>ih fun l=>K (a :: l)) l (fun l=>K (a :: l)))=K (a :: l)
  rw [hf,ih]
def jD (f:AV->(AV->Prop)->Prop) (x:AV) (K:AV->Prop):Prop :=
 match x with
 | .agg l=>tB f l fun l=>K (.agg l)
 | .tup l=>tB f l fun l=>K (.tup l)
 | .slc sz z7=>tB (tB f) z7 fun z7=>K (.slc sz z7)
 | .pt cs off=>tB f cs fun cs=>K (.pt cs off)
 | .fn g a b=>tB f a fun a=>tB f b fun b=>K (.fn g a b)
 | .any=>K .any
 | .tt=>K .tt
 | .ff=>K .ff
 | .bool b=>K (.bool b)
 | .int k n=>K (.int k n)
 | .str s=>K (.str s)
 | .mapv c=>K (.mapv c)
 | .nilp=>K .nilp
 | .nils=>K .nils
 | .nilf=>K .nilf
 | .sl sz d enc l=>K (.sl sz d enc l)
 | .sf sz d enc l=>K (.sf sz d enc l)
 | .ptr id sz i off=>K (.ptr id sz i off)
 | .own id=>K (.own id)
 | .mem id i=>K (.mem id i)
 | .mptr id i k=>K (.mptr id i k)
theorem fX {f:AV->(AV->Prop)->Prop} (hf:∀ a K,f a K=K a) (x:AV) (K:AV->Prop):jD f x K=K x:=by
 cases x<;>simp only [jD]<;>(first|rfl|(rw [bD hf])|(rw [bD fun a K=>bD hf a K])|skip)
 rw [bD hf]
def JQ (x:AV) (K:AV->Prop):Prop :=
 match x with
 | .any=>K .any
 | .tt=>K .tt
 | .ff=>K .ff
 | .bool b=>K (.bool b)
 | .int k n=>K (.int k n)
 | .str s=>K (.str s)
 | .mapv c=>K (.mapv c)
 | .nilp=>K .nilp
 | .nils=>K .nils
 | .nilf=>K .nilf
 | .sl sz d enc l=>K (.sl sz d enc l)
 | .sf sz d enc l=>K (.sf sz d enc l)
 | .ptr id sz i off=>K (.ptr id sz i off)
 | .own id=>K (.own id)
 | .mem id i=>K (.mem id i)
 | .mptr id i k=>K (.mptr id i k)
 | .agg l=>K (.agg l)
 | .tup l=>K (.tup l)
 | .slc sz z7=>K (.slc sz z7)
 | .pt cs off=>K (.pt cs off)
 | .fn g a b=>K (.fn g a b)
theorem Dd (x:AV) (K:AV->Prop):JQ x K=K x:=by cases x<;>rfl
def JR:AV->(AV->Prop)->Prop:=jD JQ
def FK:AV->(AV->Prop)->Prop:=jD JR
def FL:AV->(AV->Prop)->Prop:=jD FK
theorem De (x:AV) (K:AV->Prop):JR x K=K x:=fX Dd x K
theorem nD (x:AV) (K:AV->Prop):FK x K=K x:=fX De x K
theorem nE (x:AV) (K:AV->Prop):FL x K=K x:=fX nD x K
def gL (l:List AV) (K:List AV->Prop):Prop:=tB FK l K
theorem xz (l:List AV) (K:List AV->Prop):gL l K=K l:=bD nD l K
def Df (r:Row) (K:Row->Prop):Prop :=
 match r with
 | .none=>K .none
 | .cells ty cs=>tB FK cs fun cs=>K (.cells ty cs)
 | .lit ty sz z7=>tB (tB FK) z7 fun z7=>K (.lit ty sz z7)
 | .vec ty sz d enc l=>K (.vec ty sz d enc l)
 | .ctr l xs k e=>K (.ctr l xs k e)
 | .nest ty sz j0 F5 d enc ys ho l=>K (.nest ty sz j0 F5 d enc ys ho l)
 | .opq o=>K (.opq o)
theorem Ax (r:Row) (K:Row->Prop):Df r K=K r:=by
 cases r<;>simp only [Df]<;>(first|rfl|(rw [bD nD])|(rw [bD fun a K=>bD nD a K]))
def jE (l:List Row) (K:List Row->Prop):Prop:=tB Df l K
theorem ct (l:List Row) (K:List Row->Prop):jE l K=K l:=bD Ax l K
def bE (S:St) (K:St->Prop):Prop :=
 match S with
 | ⟨St,Sh,Sn⟩=>GU Sn fun n=>gL St fun t=>jE Sh fun h=>K ⟨t,h,n⟩
theorem E1 (S:St) (K:St->Prop):bE S K=K S:=by cases S;simp only [bE];rw [wq,xz,ct]
def IA (l:List AV) (K:List AV->Prop):Prop:=List.rec (motive:=fun _=>(List AV->Prop)->Prop) (fun K=>K []) (fun a _ ih K=>ih fun l=>K (a :: l)) l K
theorem Dg (l:List AV) (K:List AV->Prop):IA l K=K l:=by
 unfold IA
 induction l generalizing K with
 | nil=>rfl
 | cons a l ih=>exact ih _
def GJ (l:List Nat) (K:List Nat->Prop):Prop:=List.rec (motive:=fun _=>(List Nat->Prop)->Prop) (fun K=>K []) (fun a _ ih K=>ih fun l=>K (a :: l)) l K
theorem sd (l:List Nat) (K:List Nat->Prop):GJ l K=K l:=by
 unfold GJ
 induction l generalizing K with
 | nil=>rfl
 | cons a l ih=>exact ih _
def lp (S:St) (dst:Option Nat) (out:Out) (K:St->Prop):Prop :=
 match S with
 | ⟨St,Sh,Sn⟩=>match dst with
  | some d=>FL out.v fun v=>IA (St.set d v) fun t=>match out.rows with
   | []=>K ⟨t,Sh,Sn⟩
   | r :: rs=>jE (m0 Sh (r :: rs)) fun h=>K ⟨t,h,Sn⟩
  | none=>match out.rows with
   | []=>K ⟨St,Sh,Sn⟩
   | r :: rs=>jE (m0 Sh (r :: rs)) fun h=>K ⟨St,h,Sn⟩
theorem nF (S:St) (dst:Option Nat) (out:Out) (K:St->Prop):lp S dst out K=fV S dst out K:=by
 obtain ⟨v,rows⟩:=out
 obtain ⟨St,Sh,Sn⟩:=S
 cases dst with
 | none =>
  cases rows with
  | nil=>rfl
  | cons r rs=>simp only [lp,fV];rw [M0,ct]
 | some d =>
  simp only [lp,fV]
  rw [bg,rO,nE,Dg]
  cases rows with
  | nil=>rfl
  | cons r rs=>simp only [];rw [M0,ct]
def xA (P:Program) (dst:Option Nat) (op:Op) (g:Operand->AV) (r:Nat->Row) (K:Out->List Nat->Prop):Prop :=
 match op with
 | .call c=>match c.callee with
  | .value f=>match g f with
   | .fn (.func h) first u4=>match B4 (first++c.args.toList.map g++u4) with
    | true=>gL (first++c.args.toList.map g++u4) fun ar=>∃ v,PC P h ar v/\K ⟨v,[]⟩ []
    | false=>gL ((first++c.args.toList.map g++u4).map (z8 4 r)) fun ar=>∃ v,PC P h ar v/\match v.flat with
     | true=>K ⟨v,[]⟩ ((first++c.args.toList.map g++u4).flatMap (E7 4 r))
     | false=>False
   | _=>False
  | _=>aG P dst (.call c) g r K
 | op=>aG P dst op g r K
theorem sg (P:Program) (dst:Option Nat) (op:Op) (g:Operand->AV) (r:Nat->Row) (K:Out->List Nat->Prop):xA P dst op g r K=aG P dst op g r K:=by
 unfold xA
 split
 ·rename_i c
  split
  ·rename_i f hf
   unfold aG
   simp only [hf]
   unfold o5
   simp only [hf]
   split
   ·rename_i h first u4 hg
    simp only [hg,xz,R8]
    rfl
   ·rename_i hg
    split
    ·rename_i h first u4 EI
     exact absurd EI (hg _ _ _)
    ·rfl
  ·rfl
 ·rfl
def Dh (P:Program) (o:Oper) (g:Operand->AV) (r:Nat->Row) (K:Out->List Nat->Prop):Prop :=
 match wW P o g with
 | true=>xA P o.dst o.op g r K∨wX P (Z5 P o) o.dst o.op g r K
 | false=>match Z5 P o with
  | true=>xA P o.dst o.op g r K∨wU P o.dst o.op g K
  | false=>xA P o.dst o.op g r K
theorem Ay (P:Program) (o:Oper) (g:Operand->AV) (r:Nat->Row) (K:Out->List Nat->Prop):Dh P o g r K=uI P o g r K:=by
 unfold Dh uI
 simp only [sg]
 rfl
def xB (P:Program) (c:Call) (f:Operand) (S:St) (K:St->Out->Prop):Prop :=
 ∃ frz news:List Nat,news.all (u3 S)=true/\bE ((S.frz frz).kills news) fun S=>match S.get f with
  | .fn (.func h) first u4=>∃ (ids:List Nat) (E5:List AV) (ins l5:List Row) (res:AV),
    (PW P h E5 ins res l5/\first++c.args.toList.map S.get++u4=P8 ids E5/\ids.map S.row=ins.map (x6 ids)/\wB ids news E5 ins l5 res=true) /\
    K S ⟨res.ren (ids++news),(ids++news).zip (l5.map (x6 (ids++news)))⟩
  | _=>False
theorem nG (P:Program) (c:Call) (f:Operand) (S:St) (K:St->Out->Prop):xB P c f S K=Ek P c f S K:=by
 unfold xB Ek
 simp only [E1,w9]
 rfl
def Di (P:Program) (o:Oper) (S:St) (K:St->Out->Prop):Prop :=
 match o.op with
 | .makeFunc f xs ys=>match (xs.toList.map S.get++ys.toList.map S.get).flatMap (E7 4 S.row) with
  | []=>K S ⟨.fn f (xs.toList.map S.get) (ys.toList.map S.get),[]⟩
  | i :: l=>bE (S.freeze (bN (i :: l))) fun S=>K S ⟨.fn f (xs.toList.map S.get) (ys.toList.map S.get),[]⟩
 | .call c=>match c.callee with
  | .value f=>match S.get f with
   | .fn (.func _) first u4=>(match B4 (first++c.args.toList.map S.get++u4) with
    | true=>xA P o.dst (.call c) S.get S.row fun out _=>K S out
    | false=>∃ frz:Bool,match frz with
     | false=>xA P o.dst (.call c) S.get S.row fun out _=>K S out
     | true=>bE (S.freeze (bN ((first++c.args.toList.map S.get++u4).flatMap (E7 4 S.row)))) fun S=>xA P o.dst (.call c) S.get S.row fun out _=>K S out)∨xB P c f S K
   | _=>jr P o S K
  | _=>jr P o S K
 | _=>jr P o S K
theorem Az (P:Program) (o:Oper) (S:St) (K:St->Out->Prop):Di P o S K=jr P o S K:=by
 unfold Di
 split
 ·rename_i f xs ys h
  unfold jr
  simp only [h,E1,w9]
  rfl
 ·rename_i c h
  split
  ·rename_i f hf
   split
   ·rename_i x first u4 hg
    unfold jr
    simp only [h,hf,hg]
    simp only [sg,E1,w9,nG]
    rfl
   ·rfl
  ·rfl
 ·rfl
def Dj (P:Program) (o:Oper) (K:St->Out->Prop) (S:St):Prop :=
 match o.op with
 | .call c=>match c.callee with
  | .value f=>xB P c f S K
  | _=>False
 | _=>False
theorem AA (P:Program) (o:Oper) (K:St->Out->Prop):Dj P o K=Gv P o K:=by
 funext S
 unfold Dj Gv
 simp only [nG]
 rfl
def tC (P:Program) (o:Oper) (S:St) (K:St->Out->Prop):Prop:=Gs bE P o S K (Dj P o K) (Di P o S K)
theorem xC (P:Program) (o:Oper) (S:St) (K:St->Out->Prop):tC P o S K=pL P o S K:=by
 have e:bE=cb:=funext fun S=>funext fun K=>by rw [E1,w9]
 unfold tC pL
 rw [e,AA,Az]
def xD (P:Program) (o:Oper) (S:St) (K:St->Out->Prop):Prop :=
 match Fm o.op with
 | true=>bE (unN o S) fun S=>tC P o S K
 | false=>tC P o S K
theorem AB (P:Program) (o:Oper) (S:St) (K:St->Out->Prop):xD P o S K=rN P o S K:=by
 unfold xD rN
 simp only [xC,E1,w9]
 rfl
def Dk (P:Program) (o:Oper) (S:St) (K:St->Out->Prop):Prop :=
 match N2 o.op with
 | true=>match o.dst with
  | some d=>match u3 S d with
   | true=>bE (S.kill d) fun S=>xD P o S K
   | false=>False
  | none=>xD P o S K
 | false=>xD P o S K
theorem AD (P:Program) (o:Oper) (S:St) (K:St->Out->Prop):Dk P o S K=Fo P o S K:=by
 unfold Dk Fo
 simp only [AB,E1,w9]
 rfl
def jF (P:Program) (all:List Oper) (o:Oper) (ih:Nat->St->(St->Prop)->Prop) (k:Nat) (S:St) (K:St->Prop):Prop :=
 match gw all.toArray S o with
 | some true=>match tp S o with
  | true=>∃ R:St->Prop,X8 P o S R/\∀ S',R S'->bE S' fun S'=>ih (k + 1) S' K
  | false=>Dk P o S fun S out=>N7 (gW all k) out fun out=>lp S o.dst out fun S=>ih (k + 1) S K
 | some false=>lp S o.dst ⟨.tup [],[]⟩ fun S=>ih (k + 1) S K
 | none=>False
def Dl (P:Program) (all l:List Oper) (k:Nat) (S:St) (K:St->Prop):Prop :=
 List.rec (motive:=fun _=>Nat->St->(St->Prop)->Prop) (fun _ S K=>K S) (fun o _ ih=>jF P all o ih) l k S K
theorem tD (P:Program) (all:List Oper):∀ (l:List Oper) (k:Nat) (S:St) (K:St->Prop),Dl P all l k S K=pM P all l k S K
 | [],_,_,_=>rfl
 | o :: l,k,S,K=>by
  show jF P all o (fun k S K=>Dl P all l k S K) k S K=_
  unfold jF pM
  simp only [tD P all l,AD,nF,E1,w9]
  rfl
def jG (P:Program) (all:List Oper) (o:Oper) (ih:Nat->St->List (List Nat×List Nat)->(St->Prop)->Prop) (k:Nat) (S:St) (U9:List (List Nat×List Nat)) (K:St->Prop):Prop :=
 match gw all.toArray S o with
 | some true=>match BY S o with
  | true=>∃ (out:Out) (rd:List Nat),(∀ S':St,(∀ x ∈ x8 o.op,S'.get x=S.get x)->(∀ i ∈ rd,S'.row i=S.row i)->iD P o S' out)/\N7 (gW all k) out fun out=>lp S o.dst out fun S=>ih (k + 1) S (U9++[(rd,out.rows.map (·.1))]) K
  | false=>Dh P o S.get S.row fun out rd=>N7 (gW all k) out fun out=>lp S o.dst out fun S=>ih (k + 1) S (U9++[(rd,out.rows.map (·.1))]) K
 | some false=>lp S o.dst ⟨.tup [],[]⟩ fun S=>ih (k + 1) S (U9++[([],[])]) K
 | none=>False
def AE (P:Program) (all l:List Oper) (k:Nat) (S:St) (U9:List (List Nat×List Nat)) (K:St->Prop):Prop :=
 List.rec (motive:=fun _=>Nat->St->List (List Nat×List Nat)->(St->Prop)->Prop) (fun _ S U9 K=>pJ all U9=true/\K S) (fun o _ ih=>jG P all o ih) l k S U9 K
theorem nH (P:Program) (all:List Oper):∀ (l:List Oper) (k:Nat) (S:St) (U9:List (List Nat×List Nat)) (K:St->Prop),AE P all l k S U9 K=av P all l k S U9 K
 | [],_,_,_,_=>rfl
 | o :: l,k,S,U9,K=>by
  show jG P all o (fun k S U9 K=>AE P all l k S U9 K) k S U9 K=_
  unfold jG av
  simp only [nH P all l,Ay,nF]
  rfl
def nI (l:List (Nat×VT)) (S:St) (K:St->Prop):Prop:=List.rec (motive:=fun _=>St->(St->Prop)->Prop) (fun S K=>bE S K) (fun v _ ih S K=>bE (canon1 v.1 v.2 S) fun S=>ih S K) l S K
theorem cM:∀ (l:List (Nat×VT)) (S:St) (K:St->Prop),nI l S K=K (canonV l S)
 | [],S,K=>E1 S K
 | (t,V) :: l,S,K=>by
  show bE (canon1 t V S) (fun S=>nI l S K)=_
  rw [E1,cM l]
  rfl
def pR (ds:List Nat) (S0:St) (ws bs:List Nat) (vs:List (Nat×VT)) (S:St) (K:List AV->List Row->List Row->Prop):Prop :=
 nI vs S fun S=>gL (ws.map fun i=>S.t.getD i .any) fun I6=>jE (bs.map S.row) fun B0=>jE (vs.map fun v=>S.row v.1) fun C5 =>
  K I6 B0 C5/\dk (E9 ds S0 ws bs vs I6 B0 C5).t S.t=some (E9 ds S0 ws bs vs I6 B0 C5).t /\
   bM (E9 ds S0 ws bs vs I6 B0 C5).h S.h=some (E9 ds S0 ws bs vs I6 B0 C5).h
theorem jH (ds:List Nat) (S0:St) (ws bs:List Nat) (vs:List (Nat×VT)) (S:St) (K:List AV->List Row->List Row->Prop):pR ds S0 ws bs vs S K=bu ds S0 ws bs vs S K:=by
 unfold pR bu
 simp only [cM,E1,w9,xz,R8,ct,M0]
def Dm (f:St->(Ex->St->Prop)->Prop) (n:Nat) (S:St) (Q:Ex->St->Prop):Prop :=
 Nat.rec (motive:=fun _=>St->(Ex->St->Prop)->Prop) (fun _ _=>False) (fun _ ih S Q=>f S fun e S=>match e with
  | .norm=>ih S Q
  | e=>Q e S) n S Q
theorem nJ (f:St->(Ex->St->Prop)->Prop):∀ (n:Nat) (S:St) (Q:Ex->St->Prop),Dm f n S Q=An f n S Q
 | 0,_,_=>rfl
 | n + 1,S,Q=>by
  show f S (fun e S=>match e with
   | .norm=>Dm f n S Q
   | e=>Q e S)=_
  unfold An
  congr 1
  funext e S
  cases e
  ·exact nJ f n S Q
  ·rfl
  ·rfl
abbrev GX:=St->(Ex->St->Prop)->Prop
def nK (P:Program) (id:Nat) (ops:Array Oper) (draw:Bool) (S:St) (Q:Ex->St->Prop):Prop :=
 match draw with
 | false=>Dl P ops.toList ops.toList 0 S fun S=>bE S (Q .norm)
 | true=>bE (preF P S ops.toList) fun S=>(lY P ops && (V5 P ops.toList).all (u3 S) && cL ops.toList)=true/\bE (S.kills (V5 P ops.toList)) fun S=>AE P ops.toList ops.toList 0 S [] fun S=>bE S (Q .norm)
def AF (a b:GX) (S:St) (Q:Ex->St->Prop):Prop:=a S fun e S=>match e with
 | .norm=>b S Q
 | e=>Q e S
def tE (c:Operand) (a b:GX) (S:St) (Q:Ex->St->Prop):Prop :=
 match S.get c with
 | .tt=>a S Q
 | .ff=>b S Q
 | .bool x=>(x=true->a S Q)/\(x=false->b S Q)
 | _=>False
def nL (id:Nat) (c:GX) (S:St) (Q:Ex->St->Prop):Prop:=c S fun e S=>match e with
 | .exit i=>match Nat.beq i id with
  | true=>Q .norm S
  | false=>Q (.exit i) S
 | e=>Q e S
def mh (c:Code) (f:GX) (S:St) (Q:Ex->St->Prop):Prop :=
 (∃ n,Dm f n S Q) ∨
  ∃ (ι:Type) (ws bs:List Nat) (vs:List (Nat×VT)) (V:ι->List AV) (BR VR:ι->List Row) (μ:ι->Nat) (I:ι->Prop),GJ (P2 c) fun ds=>nI vs S fun S0 =>
   (∃ i,pR ds S0 ws bs vs S fun I6 B0 C5=>I i/\I6=V i/\B0=BR i/\C5=VR i) /\
   ∀ i,I i->bE (E9 ds S0 ws bs vs (V i) (BR i) (VR i)) fun S1=>f S1 fun e S2=>match e with
    | .norm=>∃ i',pR ds S0 ws bs vs S2 fun I6 B0 C5=>(μ i' < μ i/\I i')/\I6=V i'/\B0=BR i'/\C5=VR i'
    | e=>Q e S2
def si (P:Program) (g:Operand) (ps:Array Tmp) (Ll Lm:List Nat) (fa fb:GX) (S:St) (Q:Ex->St->Prop):Prop :=
 match S.n with
 | .round _=>False
 | .iter=>False
 | .plain=>match S.get g with
  | .fn (.func gf) [] u4=>B4 u4=true /\
   ∃ (xs:List (List AV)) (bs:List Nat) (BR:Nat->List Row) (I:Nat->Prop),(SQ P gf u4 xs/\∀ x ∈ xs,Y7 x=true/\x.length=ps.size) /\
    GJ (ps.toList++(Ll++Lm)) fun ds=>ds.all (u3 S)=true /\
     (pR ds S [] bs [] S fun I6 B0 C5=>I 0/\I6=[]/\B0=BR 0/\C5=[]) /\
     (∀ k x,I k->xs[k]? = some x->bE ((E9 ds S [] bs [] [] (BR k) []).kills ds) fun S1=>bE ⟨Z6 S1.t ps.toList x,S1.h,.round ds⟩ fun S2 =>
      fa S2 fun e S3=>match e with
       | .norm=>fb S3 fun e S4=>match e with
        | .norm=>jE (bs.map S4.row) fun B0=>(I (k + 1)/\B0=BR (k + 1))/\bM ((E9 ds S [] bs [] [] B0 []).kills ds).h S4.h=some ((E9 ds S [] bs [] [] B0 []).kills ds).h
        | e=>Q e ⟨S1.t,S4.h,.plain⟩
       | _=>False) /\
     (I xs.length->bE ((E9 ds S [] bs [] [] (BR xs.length) []).kills ds) (Q .norm))
  | _=>False
def uX (P:Program) (c:Code):GX :=
 Code.rec (motive:=fun _=>GX)
  (fun S Q=>Q .norm S)
  (fun id ops draw=>nK P id ops draw)
  (fun _ _ ia ib=>AF ia ib)
  (fun c _ _ ia ib=>tE c ia ib)
  (fun id _ ic=>nL id ic)
  (fun c ic=>mh c ic)
  (fun g ps assign body ia ib=>si P g ps (P2 assign) (P2 body) ia ib)
  (fun id S Q=>Q (.exit id) S)
  (fun _ ic S Q=>ic S Q)
  (fun _ S Q=>Q .norm S)
  (fun _ _ _=>False)
  (fun S Q=>Q .ret S)
  (fun _ _ _=>False) c
theorem V7 (P:Program):∀ (c:Code),uX P c=ex P c
 | .skip=>by funext S Q;simp only [ex];rfl
 | .region id ops draw=>by
  funext S Q
  show nK P id ops draw S Q=_
  unfold nK ex
  cases draw
  ·simp only [tD,E1,w9]
  ·simp only [nH,E1,w9]
 | .seq a b=>by
  funext S Q
  show AF (uX P a) (uX P b) S Q=_
  rw [V7 P a,V7 P b]
  simp only [ex]
  rfl
 | .cond c a b=>by
  funext S Q
  show tE c (uX P a) (uX P b) S Q=_
  rw [V7 P a,V7 P b]
  simp only [ex]
  rfl
 | .block id c=>by
  funext S Q
  show nL id (uX P c) S Q=_
  rw [V7 P c]
  simp only [ex]
  rfl
 | .loop c=>by
  funext S Q
  show mh c (uX P c) S Q=_
  rw [V7 P c]
  simp only [ex]
  unfold mh
  simp only [nJ,sd,dK,cM,E1,w9,jH]
  rfl
 | .rangeFunc g ps assign body=>by
  funext S Q
  show si P g ps (P2 assign) (P2 body) (uX P assign) (uX P body) S Q=_
  rw [V7 P assign,V7 P body]
  simp only [ex]
  unfold si
  simp only [sd,dK,E1,w9,jH,ct,M0]
  rfl
 | .exit id=>by funext S Q;simp only [ex];rfl
 | .scope c=>by
  funext S Q
  show uX P c S Q=_
  rw [V7 P c]
  simp only [ex]
 | .label l=>by funext S Q;simp only [ex];rfl
 | .goto l=>by funext S Q;simp only [ex];rfl
 | .ret=>by funext S Q;simp only [ex];rfl
 | .refuse w=>by funext S Q;simp only [ex];rfl
def tF (P:Program) (fn:Func) (args:List AV) (res:AV):Prop :=
 match fn.body with
 | none=>False
 | some c=>bE ⟨args++List.replicate (fn.ntmps - args.length) .any,List.replicate fn.ntmps .none,.plain⟩ fun S=>uX P c S fun e S=>match e with
  | .exit _=>False
  | _=>match aM P S fn.results.toList with
   | some l=>FL (cn l).fin fun v=>v=res
   | none=>False
theorem xE (P:Program) (fn:Func) (args:List AV) (res:AV):tF P fn args res=body P fn args res:=by
 unfold tF body
 simp only [V7,E1,w9,nE,bg]
 rfl
theorem pS {P:Program} (hm:P.follows .mixedOrders=true) {f:FuncId} {fn:Func} {args:List AV} {res:AV} (hf:P.funcs[f]? = some fn) (I8:(fn.name == "runtime.NumGoroutine")=false) (h:tF P fn args res):PC P f args res :=
 rV hm hf I8 (by rw [<- xE];exact h)
def nM (P:Program) (fn:Func) (args:List AV) (ins:List Row) (res:AV) (l5:List Row):Prop :=
 match fn.body with
 | none=>False
 | some c=>(O6 ins.length args && ins.all (fun r=>A4 ins.length r && r.live) && Nat.ble args.length fn.ntmps)=true /\
  bE ⟨P8 (List.range' fn.ntmps ins.length) args++List.replicate (fn.ntmps - args.length) .any,List.replicate fn.ntmps .none++ins.map (x6 (List.range' fn.ntmps ins.length)),.plain⟩ fun S=>uX P c S fun e S=>match e with
  | .exit _=>False
  | _=>match T1 P S fn.results.toList with
   | some l=>∃ news:List Nat,(aq (List.range' fn.ntmps ins.length++news) && Nat.beq l5.length (List.range' fn.ntmps ins.length++news).length && res.under l5.length && l5.all (A4 l5.length))=true /\
     FL (cn l).fin fun v=>v=res.ren (List.range' fn.ntmps ins.length++news)/\(List.range' fn.ntmps ins.length++news).map S.row=l5.map (x6 (List.range' fn.ntmps ins.length++news))
   | none=>False
theorem uY (P:Program) (fn:Func) (args:List AV) (ins:List Row) (res:AV) (l5:List Row):nM P fn args ins res l5=tq P fn args ins res l5:=by
 unfold nM tq
 simp only [V7,E1,w9,nE,bg]
 rfl
theorem pT {P:Program} (hm:P.follows .mixedOrders=true) {f:FuncId} {fn:Func} {args:List AV} {ins l5:List Row} {res:AV} (hf:P.funcs[f]? = some fn) (I8:(fn.name == "runtime.NumGoroutine")=false) (h:nM P fn args ins res l5):PW P f args ins res l5 :=
 rW hm hf I8 (by rw [<- uY];exact h)
def sj (P:Program) (fn:Func) (u4:List AV) (xs:List (List AV)):Prop :=
 match fn.body with
 | none=>False
 | some c=>Nat.ble (u4.length + 1) fn.ntmps=true/\∀ l:Nat,bE ⟨(.fn (.yield l) [] [] :: u4)++List.replicate (fn.ntmps - (u4.length + 1)) .any,List.replicate fn.ntmps .none++[.ctr l xs 0 false],.iter⟩ fun S=>uX P c S fun e S=>match e with
  | .exit _=>False
  | _=>match aM P S fn.results.toList with
   | some _=>match S.row S.t.length with
    | .ctr _ _ k e'=>e'=false->k=xs.length
    | _=>False
   | none=>False
theorem uZ (P:Program) (fn:Func) (u4:List AV) (xs:List (List AV)):sj P fn u4 xs=ts P fn u4 xs:=by
 unfold sj ts
 simp only [V7,E1,w9]
 rfl
theorem pU {P:Program} (hm:P.follows .mixedOrders=true) {f:FuncId} {fn:Func} {u4:List AV} {xs:List (List AV)} (hf:P.funcs[f]? = some fn) (I8:(fn.name == "runtime.NumGoroutine")=false) (h:sj P fn u4 xs):SQ P f u4 xs :=
 rX hm hf I8 (by rw [<- uZ];exact h)
/- Many slots given up at once. A helper text: it speaks of no program. -/
def aP (x:AV):List Nat->Bool
 | []=>false
 | d :: l=>match x.names d with
  | true=>true
  | false=>aP x l
def AV.plain1:AV->Bool
 | .ptr _ _ _ _=>false
 | .own _=>false
 | .mem _ _=>false
 | .mptr _ _ _=>false
 | .agg _=>false
 | .tup _=>false
 | .fn _ _ _=>false
 | _=>true
def H2 (ds:List Nat) (x:AV):AV:=match x.plain1 with
 | true=>x
 | false=>match aP x ds with
  | true => .any
  | false=>x
theorem nN {x:AV} (h:x.plain1=true) (d:Nat):x.names d=false:=by
 cases x<;>simp [AV.plain1] at h<;>rfl
theorem jI {x:AV} (h:x.plain1=true):∀ ds,aP x ds=false
 | []=>rfl
 | d :: l=>by simp only [aP];rw [nN h d];exact jI h l
theorem dP (ds:List Nat) (x:AV):H2 ds x=match aP x ds with
  | true => .any
  | false=>x:=by
 unfold H2
 cases h:x.plain1 with
 | false=>rfl
 | true=>rw [jI h ds]
theorem pV (ds:List Nat):H2 ds .any = .any:=rfl
theorem bG (d:Nat) (l:List Nat) (x:AV):H2 l (B3 d x)=H2 (d :: l) x:=by
 rw [dP (d :: l) x]
 unfold B3
 simp only [aP]
 cases h:x.names d with
 | true=>exact pV l
 | false=>exact dP l x
def I9 (ds:List Nat):Row->Row
 | .none => .none
 | .cells ty cs => .cells ty (cs.map (H2 ds))
 | .lit ty sz z7 => .lit ty sz (z7.map fun cs=>cs.map (H2 ds))
 | .vec ty sz e enc l => .vec ty sz e enc l
 | .ctr l xs k e => .ctr l xs k e
 | .nest ty sz j0 F5 e enc ys ho l => .nest ty sz j0 F5 e enc ys ho l
 | .opq o => .opq o
theorem lq (d:Nat) (l:List Nat) (r:Row):I9 l (w7 d r)=I9 (d :: l) r:=by
 cases r<;>simp only [I9,w7,List.map_map,Row.cells.injEq,Row.lit.injEq,true_and]
 ·refine List.map_congr_left fun x _=>?_
  exact bG d l x
 ·refine List.map_congr_left fun x _=>?_
  simp only [Function.comp,List.map_map]
  refine List.map_congr_left fun y _=>?_
  exact bG d l y
def dQ:List Nat->List Row->List Row
 | [],h=>h
 | d :: l,h=>dQ l (h.set d .none)
theorem hX (x:AV):H2 [] x=x:=by
 rw [dP]
 rfl
theorem nO (r:Row):I9 [] r=r:=by
 have e:H2 []=id:=funext hX
 cases r<;>simp [I9,e]
theorem pX:∀ (l:List Nat) (S:St),S.kills l=⟨S.t.map (H2 l),dQ l (S.h.map (I9 l)),S.n⟩
 | [],S=>by
  have e:H2 []=id:=funext hX
  have e2:I9 []=id:=funext nO
  simp only [St.kills,dQ]
  rw [e,e2,List.map_id,List.map_id]
 | d :: l,S=>by
  simp only [St.kills]
  rw [pX l]
  simp only [St.kill,List.map_map]
  have e:H2 l ∘ B3 d=H2 (d :: l):=funext fun x=>bG d l x
  have e2:I9 l ∘ w7 d=I9 (d :: l):=funext fun x=>lq d l x
  rw [e,List.map_set,List.map_map,e2]
  rfl
def fY (i:Nat):List Nat->Bool
 | []=>false
 | d :: l=>match Nat.beq d i with
  | true=>true
  | false=>fY i l
def cN (ds:List Nat) (i:Nat):Row->Row
 | .none => .none
 | .cells ty cs=>match fY i ds with
  | true => .none
  | false => .cells ty (cs.map (H2 ds))
 | r=>match fY i ds with
  | true => .none
  | false=>I9 ds r
def eV (ds:List Nat):Nat->List Row->List Row
 | _,[]=>[]
 | i,r :: h=>cN ds i r :: eV ds (i + 1) h
theorem nP (ds:List Nat) (i:Nat) (r:Row):cN ds i r=if fY i ds=true then .none else I9 ds r:=by
 cases r<;>simp only [cN,I9]<;>cases fY i ds<;>simp
theorem mi (i d:Nat) (l:List Nat):fY i (d :: l)=(Nat.beq d i || fY i l):=by
 simp only [fY]
 cases Nat.beq d i<;>rfl
theorem jJ:∀ (l:List Nat) (h:List Row) (j:Nat),(dQ l h)[j]? = (h[j]?).map fun r=>if fY j l=true then .none else r
 | [],h,j=>by simp [dQ,fY]
 | d :: l,h,j=>by
  simp only [dQ]
  rw [jJ l,List.getElem?_set]
  by_cases e:d=j
  ·subst e
   by_cases hl:d < h.length
   ·have hb:fY d (d :: l)=true:=by rw [mi];simp
    simp [hl,hb]
   ·simp [hl]
  ·have hb:fY j (d :: l)=fY j l:=by
    rw [mi]
    have:Nat.beq d j=false:=by
     cases hx:Nat.beq d j with
     | false=>rfl
     | true=>exact absurd (Nat.eq_of_beq_eq_true hx) e
    rw [this];rfl
   rw [hb,if_neg e]
theorem mj (ds:List Nat):∀ (h:List Row) (i j:Nat),(eV ds i h)[j]? = (h[j]?).map (cN ds (i + j))
 | [],i,j=>by simp [eV]
 | r :: h,i,0=>by simp [eV]
 | r :: h,i,j + 1=>by
  simp only [eV,List.getElem?_cons_succ]
  rw [mj ds h,show i + 1 + j=i + (j + 1) by omega]
theorem xF (l:List Nat) (h:List Row):dQ l (h.map (I9 l))=eV l 0 h:=by
 refine List.ext_getElem? fun j=>?_
 rw [jJ,mj,List.getElem?_map]
 cases h[j]? with
 | none=>rfl
 | some r=>simp only [Option.map_some,Nat.zero_add];rw [nP]
/- Many slots given up at once, for the executor by recursors. A helper text: it speaks of no program. -/
theorem xG {l:List Nat} {S:St} {K:St->Prop} (h:bE S fun S=>bE ⟨S.t.map (H2 l),eV l 0 S.h,S.n⟩ K):bE (S.kills l) K:=by
 rw [E1,E1] at h
 rw [E1,pX,xF]
 exact h
theorem vc {xs:List (List AV)} {I:Nat->Prop} {A:Nat->St} {ds:List Nat} {K:Nat->List AV->St->Prop} {m:Nat} {f:Nat->List AV} (hx:∀ k x,xs[k]? = some x->k < m/\x=f k)
  (h:∀ k,k < m->I k->bE (A k) fun S=>bE ⟨S.t.map (H2 ds),eV ds 0 S.h,S.n⟩ (K k (f k))):∀ k x,I k->xs[k]? = some x->bE ((A k).kills ds) (K k x):=by
 intro k x hk Ln
 obtain ⟨h1,rfl⟩:=hx k x Ln
 exact xG (h k h1 hk)
theorem xH {R:Prop} {l:List Nat} {S:St} {K:St->Prop} (h:R->bE S fun S=>bE ⟨S.t.map (H2 l),eV l 0 S.h,S.n⟩ K):R->bE (S.kills l) K:=fun r=>xG (h r)

end Go.Ev
