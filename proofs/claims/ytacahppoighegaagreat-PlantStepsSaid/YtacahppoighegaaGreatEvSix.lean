/- Helper lemmas. -/
import Derived.Test.YtacahppoighegaaGreatEvFive
import Derived.Lib.Mul64
import Derived.Laws.Externs
set_option linter.unusedVariables false
set_option linter.unusedSimpArgs false
/- Small things that every contract uses. A helper text: it speaks of no program. -/
namespace Go.Ev
abbrev i64(n:Int):AV := .int .i64 n
abbrev eI(n:Int):List AV:=[.int .i64 n]
abbrev A9(l:List Int):AV := .sl 1 (0:Int) eI l
def A4(n:Int):Prop := -9223372036854775808<=n/\n<=9223372036854775807
theorem z5(n:Int)(h1 : -9223372036854775808<=n)(h2:n<=9223372036854775807):IntKind.i64.wrap n=n:=IntWalk.i64_in n ⟨h1,h2⟩
theorem a0Y(n:Int)(h1:0<=n)(h2:n<=18446744073709551615):IntKind.u64.wrap n=n:=by simp[IntKind.wrap,IntKind.bits,IntKind.signed];omega
def tq(x y:AV):Prop:=∀ (F:Nat->Prop) (w:World) (v:Value),y6 F w x v->y6 F w y v
theorem tq.refl(x:AV):tq x x:=fun _ _ _ h=>h
theorem tq.slc{α:Type}(sz:Nat)(d:α)(enc:α->List AV)(l:List α):tq (.slc sz (l.map enc)) (.sl sz d enc l):=by
 intro F w v h;generalize hc:l.map enc=E5 at h;cases h with
 | slcnil =>
  have:l=[]:=by simpa using hc
  subst this;exact .slnil
 | slc g Lv hb hr =>
  subst hc;simp only[List.length_map]at *
  refine .sl g Lv hb fun i j hi hj=>?_
  have:=hr i j hi hj;have e:(l.map enc).getD i []=enc (l.getD i d):=by simp[List.getD,List.getElem?_map,hi]
  rwa[e]at this
theorem tq.nils{α:Type}(sz:Nat)(d:α)(enc:α->List AV):tq .nils (.sl sz d enc []):=by
 intro F w v h;cases h
 exact .slnil
theorem PC.sub{P:Program}{f:FuncId}{args J6:List AV}{res Mn:AV}(h:PC P f args res)(hl:J6.length=args.length)(hs:∀ i,i<args.length->tq (J6.getD i .any) (args.getD i .any))(hr:tq res Mn):PC P f J6 Mn:=by
 intro F w vs hF G0 T1;rcases h F w vs hF (G0.trans hl) (fun i hi=>hs i hi _ _ _ (T1 i (hl ▸ hi)))with ⟨h1,h2⟩|⟨v,h1,h2⟩
 ·exact .inl ⟨h1,h2.mono fun e w' ⟨v,e1,e2,e3⟩=>⟨v,e1,e2,hr _ _ _ e3⟩⟩
 ·exact .inr ⟨v,h1,hr _ _ _ h2⟩
theorem PC.last{P:Program}{f:FuncId}{args:List AV}{x y res:AV}(h:PC P f (args++[x]) res)(hs:tq y x):PC P f (args++[y]) res:=by
 refine h.sub va9 (fun i hi=>?_) (.refl _);simp only[List.length_append,zB2,List.length_nil]at hi;by_cases e:i<args.length
 ·simp only[List.getD,List.getElem?_append,e,if_true];exact .refl _
 ·have:i-args.length=0:=by omega
  simp only[List.getD,List.getElem?_append,e,if_false,this];exact hs
def xl{α:Type}(p:α->Bool):List α->Int
 | [] => -1
 | a :: l=>if p a then 0 else if xl p l = -1 then -1 else xl p l+1
theorem Mo{α:Type}(p:α->Bool):∀ l:List α,-1<=xl p l/\xl p l<l.length
 | []=>by simp[xl]
 | a :: l=>by
  have:=Mo p l;simp only[xl,zB2];split
  ·omega
  ·split<;>omega
theorem rS{α:Type}(p:α->Bool)(d:α):∀ (l:List α) (k:Nat),k<l.length->p (l.getD k d)=true->(∀ i,i<k->p (l.getD i d)=false)->xl p l=k
 | [],k,hk,_,_=>absurd hk (zB3 k)
 | a :: l,0,_,h,_=>by
  have h:p a=true:=h;simp[xl,h]
 | a :: l,k+1,hk,h,hn=>by
  have h0:p a=false:=hn 0 va5;have:=rS p d l k (by simpa using hk) h fun i hi=>hn (i+1) va5
  simp only[xl,h0,this];simp
theorem nE{α:Type}(p:α->Bool)(d:α):∀ (l:List α),(∀ i,i<l.length->p (l.getD i d)=false)->xl p l = -1
 | [],_=>rfl
 | a :: l,hn=>by
  have h0:p a=false:=hn 0 va9;have:=nE p d l fun i hi=>hn (i+1) (by simpa using hi)
  simp[xl,h0,this]
theorem rT{α:Type}(p:α->Bool):∀ l:List α,decide (xl p l ≥ 0)=l.any p
 | []=>rfl
 | a :: l=>by
  have:=rT p l;have h2:=(Mo p l).1;rw[List.any_cons,<- this];by_cases hp:p a=true
  ·simp[xl,hp]
  ·simp only[xl,hp];by_cases h3:xl p l = -1
   ·simp[h3]
   ·have:xl p l ≥ 0:=by omega
    have h4:xl p l+1 ≥ 0:=by omega
    simp[h3,this,h4]
/- Words: unsigned numbers of 64 bits, as natural numbers. A helper text: it speaks of no program. -/
abbrev u64(n:Nat):AV := .int .u64 (n:Int)
theorem wu(n:Nat)(h:n<18446744073709551616):IntKind.u64.wrap (n:Int)=n:=a0Y _ va5 (by have:n<18446744073709551616:=h;omega)
theorem gQ(n:Int):IntKind.u64.wrap n=((n % 18446744073709551616).toNat:Int):=by simp[IntKind.wrap,IntKind.bits,IntKind.signed];omega
theorem wi(n:Int)(h1 : -9223372036854775808<=n)(h2:n<=9223372036854775807):IntKind.i64.wrap n=n:=z5 n h1 h2
theorem ts(a b:Nat)(ha:a<18446744073709551616)(hb:b<18446744073709551616):bits .and .u64 (a:Int) (b:Int)=((a &&& b:Nat):Int):=by
 have h:(BitVec.ofInt 64 (a:Int) &&& BitVec.ofInt 64 (b:Int)).toNat=a &&& b:=by
  rw[BitVec.toNat_and,BitVec.toNat_ofInt,BitVec.toNat_ofInt]
  congr 1<;>omega
 show IntKind.u64.wrap (((BitVec.ofInt 64 (a:Int) &&& BitVec.ofInt 64 (b:Int)).toNat:Nat):Int)=_
 rw[h];exact wu _ (Nat.lt_of_le_of_lt Nat.and_le_left ha)
theorem IK(a b:Nat)(ha:a<18446744073709551616)(hb:b<18446744073709551616):bits .or .u64 (a:Int) (b:Int)=((a ||| b:Nat):Int):=by
 have h:(BitVec.ofInt 64 (a:Int) ||| BitVec.ofInt 64 (b:Int)).toNat=a ||| b:=by
  rw[BitVec.toNat_or,BitVec.toNat_ofInt,BitVec.toNat_ofInt]
  congr 1<;>omega
 show IntKind.u64.wrap (((BitVec.ofInt 64 (a:Int) ||| BitVec.ofInt 64 (b:Int)).toNat:Nat):Int)=_
 rw[h];exact wu _ (Nat.or_lt_two_pow (n:=64) ha hb)
theorem qJ(a k:Nat)(hk:k<=64):((a:Nat):Int).fdiv (2^min (Int.toNat (k:Int)) IntKind.u64.bits)=((a / 2^k:Nat):Int):=by
 have:min (Int.toNat (k:Int)) IntKind.u64.bits=k:=by show min k 64=k;omega
 rw[this,Int.fdiv_eq_ediv_of_nonneg _ (by exact Int.le_of_lt (Int.pow_pos va8))];simp
theorem Mp(a k:Nat)(hk:k<=64):IntKind.u64.wrap ((a:Int)*2^min (Int.toNat (k:Int)) IntKind.u64.bits)=((a*2^k % 18446744073709551616:Nat):Int):=by
 have:min (Int.toNat (k:Int)) IntKind.u64.bits=k:=by show min k 64=k;omega
 rw[this,gQ];have e:(a:Int)*2^k=((a*2^k:Nat):Int):=by simp
 rw[e];omega
theorem tu(a b:Nat):IntKind.u64.wrap ((a:Int)*(b:Int))=((a*b % 18446744073709551616:Nat):Int):=by
 rw[gQ];have e:(a:Int)*b=((a*b:Nat):Int):=by simp
 rw[e];omega
theorem nF(a b:Nat):IntKind.u64.wrap ((a:Int)+(b:Int))=(((a+b) % 18446744073709551616:Nat):Int):=by rw[gQ];omega
theorem xm(a b:Nat)(hb:b<=18446744073709551616):IntKind.u64.wrap ((a:Int)-(b:Int))=(((a+(18446744073709551616-b)) % 18446744073709551616:Nat):Int):=by rw[gQ];omega
theorem jn(a b:Nat)(ha:a<18446744073709551616):IntKind.u64.wrap ((a:Int).tdiv (b:Int))=((a / b:Nat):Int):=by
 rw[Int.tdiv_eq_ediv_of_nonneg va5];have e:(a:Int) / b=((a / b:Nat):Int):=by simp
 rw[e];exact wu _ (Nat.lt_of_le_of_lt (Nat.div_le_self a b) ha)
theorem Mq(a b:Nat):(a:Int).tmod (b:Int)=((a % b:Nat):Int):=by
 rw[Int.tmod_eq_emod_of_nonneg va5];simp
theorem EL(a:Nat):a &&& 4294967295=a % 4294967296:=Nat.and_two_pow_sub_one_eq_mod a 32
theorem jU(a:Nat)(ha:a<18446744073709551616):bits .and .u64 (a:Int) 4294967295=((a % 4294967296:Nat):Int):=by
 have:=ts a 4294967295 ha va8;rw[EL]at this;exact this
theorem rU(a:Nat):((a:Nat):Int).fdiv (2^min (Int.toNat 32) IntKind.u64.bits)=((a / 4294967296:Nat):Int):=qJ a 32 va5
abbrev pr(n:Nat):AV := .agg [u64 (n / 18446744073709551616),u64 (n % 18446744073709551616)]
abbrev fr(x:Int×Int):AV := .agg [i64 x.1,i64 x.2]
abbrev eF(x:Int×Int):List AV:=[i64 x.1,i64 x.2]
/- Calls that the model stands in for: sums and differences of words with carry. A helper text: it speaks of no program. -/
theorem y6.int_inv{F:Nat->Prop}{w:World}{k:IntKind}{n:Int}{v:Value}(h:y6 F w (.int k n) v):v = .int k n:=by cases h;rfl
theorem tv{F:Nat->Prop}{w:World}{vs:Array Value}{x y c:Nat}(G0:vs.size=3)(h:∀ i,i<3->y6 F w ([u64 x,u64 y,u64 c].getD i .any) (vs.getD i undef)):vs=#[.int .u64 x,.int .u64 y,.int .u64 c]:=by
 have h0:vs.getD 0 undef = .int .u64 x:=(h 0 va5).int_inv;have h1:vs.getD 1 undef = .int .u64 y:=(h 1 va5).int_inv;have h2:vs.getD 2 undef = .int .u64 c:=(h 2 va5).int_inv;have e:∀ i,(hi:i<vs.size)->vs.getD i undef=vs[i]:=fun i hi=>by simp[Array.getD,hi]
 rw[e _ va5]at h0 h1 h2;apply Array.ext
 ·simpa using G0
 ·intro i hi hj;have:i=0∨i=1∨i=2:=by simp at hj;omega
  rcases this with rfl|rfl|rfl
  ·exact h0
  ·exact h1
  ·exact h2
theorem GN{F:Nat->Prop}{w:World}(a b:Nat):y6 F w (.tup [u64 a,u64 b]) (.tuple #[.int .u64 a,.int .u64 b]):=by
 refine .tup rfl fun i hi=>?_
 have:i=0∨i=1:=by simp at hi;omega
 rcases this with rfl|rfl
 ·exact .int _ _
 ·exact .int _ _
theorem Mr{P:Program}{f:FuncId}{fn:Func}(hf:P.funcs[f]? = some fn)(J7:(fn.name == "runtime.NumGoroutine")=false) (hb:fn.body.isNone=true) (hn:Extern.findNext fn=none) (he:Extern.find fn=some add64Entry)
  (x y c:Nat) (hc:c<=1):PC P f [u64 x,u64 y,u64 c] (.tup [u64 ((x+y+c) % 18446744073709551616),u64 ((x+y+c) / 18446744073709551616)]):=by
 intro F w vs _ G0 h;have hv:=tv G0 h;subst hv;have:=run_callFunc_extern hf J7 hb hn he #[.int .u64 x,.int .u64 y,.int .u64 c] w;rw[run_add64 x y c va5 va5 va5 va5]at this;refine .inr ⟨_,this,?_⟩;have e1:((x:Int)+y+c) % 18446744073709551616=(((x+y+c) % 18446744073709551616:Nat):Int):=by omega
 have e2:((x:Int)+y+c) / 18446744073709551616=(((x+y+c) / 18446744073709551616:Nat):Int):=by omega
 rw[e1,e2];exact GN _ _
def Ms:Array Value→Sem Value:=(Extern.MathBitsCarry.rows.getD 1 ("",fun _=>pure undef)).2
theorem Mt{P:Program}{f:FuncId}{fn:Func}(hf:P.funcs[f]? = some fn)(J7:(fn.name == "runtime.NumGoroutine")=false) (hb:fn.body.isNone=true) (hn:Extern.findNext fn=none) (he:Extern.find fn=some Ms)
  (x y c:Nat) (hc:c<=1):PC P f [u64 x,u64 y,u64 c] (.tup [u64 ((x+18446744073709551616-y-c) % 18446744073709551616),u64 (if x<y+c then 1 else 0)]):=by
 intro F w vs _ G0 h;have hv:=tv G0 h;subst hv;have:=run_callFunc_extern hf J7 hb hn he #[.int .u64 x,.int .u64 y,.int .u64 c] w;refine .inr ⟨.tuple #[.int .u64 (((x+18446744073709551616-y-c) % 18446744073709551616:Nat):Int),.int .u64 ((if x<y+c then 1 else 0:Nat):Int)],this.trans ?_,GN _ _⟩;have:c=0∨c=1:=by omega
 rcases this with rfl|rfl<;>rfl
/- The executor once more, by recursors: Lean's whnf unfolds a recursive definition by its equations and then copies all of its arguments as trees; a recursor it does not copy. A helper text: it speaks of no program. -/
def GO{α:Type 1}(f:α->(α->Prop)->Prop)(l:List α)(K:List α->Prop):Prop :=
 List.rec (motive:=fun _=>(List α->Prop)->Prop) (fun K=>K []) (fun a _ ih K=>f a fun a=>ih fun l=>K (a :: l)) l K
theorem iU{α:Type 1}{f:α->(α->Prop)->Prop}(hf:∀ a K,f a K=K a)(l:List α)(K:List α->Prop):GO f l K=K l:=by
 unfold GO
 induction l generalizing K with
 | nil=>rfl
 | cons a l ih =>
  show f a (fun a=>List.rec (motive:=fun _=>(List α->Prop)->Prop) (fun K=>K []) (fun a _ ih K=>f a fun a=>ih fun l=>K (a :: l)) l (fun l=>K (a :: l)))=K (a :: l)
  rw[hf,ih]
def tx(f:AV->(AV->Prop)->Prop)(x:AV)(K:AV->Prop):Prop :=
 match x with
 | .agg l=>GO f l fun l=>K (.agg l)
 | .tup l=>GO f l fun l=>K (.tup l)
 | .slc sz E5=>GO (GO f) E5 fun E5=>K (.slc sz E5)
 | .pt cs off=>GO f cs fun cs=>K (.pt cs off)
 | .fn g a b=>GO f a fun a=>GO f b fun b=>K (.fn g a b)
 | .any=>K .any
 | .tt=>K .tt
 | .ff=>K .ff
 | .bool b=>K (.bool b)
 | .int k n=>K (.int k n)
 | .str s=>K (.str s)
 | .mapv c=>K (.mapv c)
 | .nilp=>K .nilp
 | .nils=>K .nils
 | .nilf=>K .nilf
 | .sl sz d enc l=>K (.sl sz d enc l)
 | .sf sz d enc l=>K (.sf sz d enc l)
 | .ptr id sz i off=>K (.ptr id sz i off)
 | .own id=>K (.own id)
 | .mem id i=>K (.mem id i)
 | .mptr id i k=>K (.mptr id i k)
theorem px{f:AV->(AV->Prop)->Prop}(hf:∀ a K,f a K=K a)(x:AV)(K:AV->Prop):tx f x K=K x:=by
 cases x<;>simp only[tx]<;>(first|rfl|(rw[iU hf])|(rw[iU fun a K=>iU hf a K])|skip)
 rw[iU hf]
def av0(x:AV)(K:AV->Prop):Prop :=
 match x with
 | .any=>K .any
 | .tt=>K .tt
 | .ff=>K .ff
 | .bool b=>K (.bool b)
 | .int k n=>K (.int k n)
 | .str s=>K (.str s)
 | .mapv c=>K (.mapv c)
 | .nilp=>K .nilp
 | .nils=>K .nils
 | .nilf=>K .nilf
 | .sl sz d enc l=>K (.sl sz d enc l)
 | .sf sz d enc l=>K (.sf sz d enc l)
 | .ptr id sz i off=>K (.ptr id sz i off)
 | .own id=>K (.own id)
 | .mem id i=>K (.mem id i)
 | .mptr id i k=>K (.mptr id i k)
 | .agg l=>K (.agg l)
 | .tup l=>K (.tup l)
 | .slc sz E5=>K (.slc sz E5)
 | .pt cs off=>K (.pt cs off)
 | .fn g a b=>K (.fn g a b)
theorem Us(x:AV)(K:AV->Prop):av0 x K=K x:=by cases x<;>rfl
def av1:AV->(AV->Prop)->Prop:=tx av0
def XQ:AV->(AV->Prop)->Prop:=tx av1
def WC:AV->(AV->Prop)->Prop:=tx XQ
theorem Ut(x:AV)(K:AV->Prop):av1 x K=K x:=px Us x K
theorem zp(x:AV)(K:AV->Prop):XQ x K=K x:=px Ut x K
theorem tz(x:AV)(K:AV->Prop):WC x K=K x:=px zp x K
def gL(l:List AV)(K:List AV->Prop):Prop:=GO XQ l K
theorem Mu(l:List AV)(K:List AV->Prop):gL l K=K l:=iU zp l K
def Uu(r:Row)(K:Row->Prop):Prop :=
 match r with
 | .none=>K .none
 | .cells ty cs=>GO XQ cs fun cs=>K (.cells ty cs)
 | .lit ty sz E5=>GO (GO XQ) E5 fun E5=>K (.lit ty sz E5)
 | .vec ty sz d enc l=>K (.vec ty sz d enc l)
 | .ctr l xs k e=>K (.ctr l xs k e)
 | .nest ty sz j0 G7 d enc ys ho l=>K (.nest ty sz j0 G7 d enc ys ho l)
 | .opq o=>K (.opq o)
theorem Qo(r:Row)(K:Row->Prop):Uu r K=K r:=by
 cases r<;>simp only[Uu]<;>(first|rfl|(rw[iU zp])|(rw[iU fun a K=>iU zp a K]))
def tA(l:List Row)(K:List Row->Prop):Prop:=GO Uu l K
theorem jV(l:List Row)(K:List Row->Prop):tA l K=K l:=iU Qo l K
def iy(S:St)(K:St->Prop):Prop :=
 match S with
 | ⟨St,Sh,Sn⟩=>ZJ Sn fun n=>gL St fun t=>tA Sh fun h=>K ⟨t,h,n⟩
theorem L2(S:St)(K:St->Prop):iy S K=K S:=by cases S;simp only[iy];rw[Lk,Mu,jV]
def gSp(l:List AV)(K:List AV->Prop):Prop:=List.rec (motive:=fun _=>(List AV->Prop)->Prop) (fun K=>K []) (fun a _ ih K=>ih fun l=>K (a :: l)) l K
theorem Uv(l:List AV)(K:List AV->Prop):gSp l K=K l:=by
 unfold gSp
 induction l generalizing K with
 | nil=>rfl
 | cons a l ih=>exact ih _
def XR(l:List Nat)(K:List Nat->Prop):Prop:=List.rec (motive:=fun _=>(List Nat->Prop)->Prop) (fun K=>K []) (fun a _ ih K=>ih fun l=>K (a :: l)) l K
theorem zq(l:List Nat)(K:List Nat->Prop):XR l K=K l:=by
 unfold XR
 induction l generalizing K with
 | nil=>rfl
 | cons a l ih=>exact ih _
def vR(S:St)(dst:Option Nat)(out:Out)(K:St->Prop):Prop :=
 match S with
 | ⟨St,Sh,Sn⟩=>match dst with
  | some d=>WC out.v fun v=>gSp (St.set d v) fun t=>match out.rows with
   | []=>K ⟨t,Sh,Sn⟩
   | r :: rs=>tA (r8 Sh (r :: rs)) fun h=>K ⟨t,h,Sn⟩
  | none=>match out.rows with
   | []=>K ⟨St,Sh,Sn⟩
   | r :: rs=>tA (r8 Sh (r :: rs)) fun h=>K ⟨St,h,Sn⟩
theorem zr(S:St)(dst:Option Nat)(out:Out)(K:St->Prop):vR S dst out K=po S dst out K:=by
 obtain⟨v,rows⟩:=out;obtain⟨St,Sh,Sn⟩:=S;cases dst with
 | none =>
  cases rows with
  | nil=>rfl
  | cons r rs=>simp only[vR,po];rw[X1,jV]
 | some d =>
  simp only[vR,po];rw[dZ,EA,tz,Uv];cases rows with
  | nil=>rfl
  | cons r rs=>simp only[];rw[X1,jV]
def Mv(P:Program)(dst:Option Nat)(op:Op)(g:Operand->AV)(r:Nat->Row)(K:Out->List Nat->Prop):Prop :=
 match op with
 | .call c=>match c.callee with
  | .value f=>match g f with
   | .fn (.func h) first B2=>match G8 (first++c.args.toList.map g++B2)with
    | true=>gL (first++c.args.toList.map g++B2) fun ar=>∃ v,PC P h ar v/\K ⟨v,[]⟩ []
    | false=>gL ((first++c.args.toList.map g++B2).map (E3 4 r)) fun ar=>∃ v,PC P h ar v/\match v.flat with
     | true=>K ⟨v,[]⟩ ((first++c.args.toList.map g++B2).flatMap (N1 4 r))
     | false=>False
   | _=>False
  | _=>gM P dst (.call c) g r K
 | op=>gM P dst op g r K
theorem EM(P:Program)(dst:Option Nat)(op:Op)(g:Operand->AV)(r:Nat->Row)(K:Out->List Nat->Prop):Mv P dst op g r K=gM P dst op g r K:=by
 unfold Mv;split
 ·rename_i c;split
  ·rename_i f hf;unfold gM;simp only[hf];unfold y0;simp only[hf];split
   ·rename_i h first B2 hg
    simp only[hg,Mu,bA];rfl
   ·rename_i hg;split
    ·rename_i h first B2 WZ
     exact absurd WZ (hg _ _ _)
    ·rfl
  ·rfl
 ·rfl
def Uw(P:Program)(o:Oper)(g:Operand->AV)(r:Nat->Row)(K:Out->List Nat->Prop):Prop :=
 match LP P o g with
 | true=>Mv P o.dst o.op g r K∨LQ P (dE P o) o.dst o.op g r K
 | false=>match dE P o with
  | true=>Mv P o.dst o.op g r K∨LN P o.dst o.op g K
  | false=>Mv P o.dst o.op g r K
theorem Qp(P:Program)(o:Oper)(g:Operand->AV)(r:Nat->Row)(K:Out->List Nat->Prop):Uw P o g r K=Is P o g r K:=by
 unfold Uw Is;simp only[EM];rfl
def Mw(P:Program)(c:Call)(f:Operand)(S:St)(K:St->Out->Prop):Prop :=
 ∃ frz news:List Nat,news.all (A3 S)=true/\iy ((S.frz frz).kills news) fun S=>match S.get f with
  | .fn (.func h) first B2=>∃ (ids:List Nat) (J6:List AV) (ins o9:List Row) (res:AV),
    (PW P h J6 ins res o9/\first++c.args.toList.map S.get++B2=au ids J6/\ids.map S.row=ins.map (A0 ids)/\wB ids news J6 ins o9 res=true) /\
    K S ⟨res.ren (ids++news),(ids++news).zip (o9.map (A0 (ids++news)))⟩
  | _=>False
theorem zt(P:Program)(c:Call)(f:Operand)(S:St)(K:St->Out->Prop):Mw P c f S K=Wy P c f S K:=by
 unfold Mw Wy;simp only[L2,C3];rfl
def Ux(P:Program)(o:Oper)(S:St)(K:St->Out->Prop):Prop :=
 match o.op with
 | .makeFunc f xs ys=>match (xs.toList.map S.get++ys.toList.map S.get).flatMap (N1 4 S.row)with
  | []=>K S ⟨.fn f (xs.toList.map S.get) (ys.toList.map S.get),[]⟩
  | i :: l=>iy (S.freeze (jm (i :: l))) fun S=>K S ⟨.fn f (xs.toList.map S.get) (ys.toList.map S.get),[]⟩
 | .call c=>match c.callee with
  | .value f=>match S.get f with
   | .fn (.func _) first B2=>(match G8 (first++c.args.toList.map S.get++B2)with
    | true=>Mv P o.dst (.call c) S.get S.row fun out _=>K S out
    | false=>∃ frz:Bool,match frz with
     | false=>Mv P o.dst (.call c) S.get S.row fun out _=>K S out
     | true=>iy (S.freeze (jm ((first++c.args.toList.map S.get++B2).flatMap (N1 4 S.row)))) fun S=>Mv P o.dst (.call c) S.get S.row fun out _=>K S out)∨Mw P c f S K
   | _=>ta P o S K
  | _=>ta P o S K
 | _=>ta P o S K
theorem Qq(P:Program)(o:Oper)(S:St)(K:St->Out->Prop):Ux P o S K=ta P o S K:=by
 unfold Ux;split
 ·rename_i f xs ys h;unfold ta;simp only[h,L2,C3];rfl
 ·rename_i c h;split
  ·rename_i f hf;split
   ·rename_i x first B2 hg
    unfold ta;simp only[h,hf,hg];simp only[EM,L2,C3,zt];rfl
   ·rfl
  ·rfl
 ·rfl
def Uy(P:Program)(o:Oper)(K:St->Out->Prop)(S:St):Prop :=
 match o.op with
 | .call c=>match c.callee with
  | .value f=>Mw P c f S K
  | _=>False
 | _=>False
theorem Qr(P:Program)(o:Oper)(K:St->Out->Prop):Uy P o K=Zf P o K:=by
 funext S
 unfold Uy Zf;simp only[zt];rfl
def GP(P:Program)(o:Oper)(S:St)(K:St->Out->Prop):Prop:=Za iy P o S K (Uy P o K) (Ux P o S K)
theorem Mx(P:Program)(o:Oper)(S:St)(K:St->Out->Prop):GP P o S K=BS P o S K:=by
 have e:iy=jC:=funext fun S=>funext fun K=>by rw[L2,C3]
 unfold GP BS;rw[e,Qr,Qq]
def Mz(P:Program)(o:Oper)(S:St)(K:St->Out->Prop):Prop :=
 match Xy o.op with
 | true=>iy (unN o S) fun S=>GP P o S K
 | false=>GP P o S K
theorem Qs(P:Program)(o:Oper)(S:St)(K:St->Out->Prop):Mz P o S K=Ez P o S K:=by
 unfold Mz Ez;simp only[Mx,L2,C3];rfl
def Uz(P:Program)(o:Oper)(S:St)(K:St->Out->Prop):Prop :=
 match Y9 o.op with
 | true=>match o.dst with
  | some d=>match A3 S d with
   | true=>iy (S.kill d) fun S=>Mz P o S K
   | false=>False
  | none=>Mz P o S K
 | false=>Mz P o S K
theorem Qt(P:Program)(o:Oper)(S:St)(K:St->Out->Prop):Uz P o S K=Xz P o S K:=by
 unfold Uz Xz;simp only[Qs,L2,C3];rfl
def tB(P:Program)(all:List Oper)(o:Oper)(ih:Nat->St->(St->Prop)->Prop)(k:Nat)(S:St)(K:St->Prop):Prop :=
 match gw all.toArray S o with
 | some true=>match GD S o with
  | true=>∃ R:St->Prop,iL P o S R/\∀ S',R S'->iy S' fun S'=>ih (k+1) S' K
  | false=>Uz P o S fun S out=>Z3 (qF all k) out fun out=>vR S o.dst out fun S=>ih (k+1) S K
 | some false=>vR S o.dst ⟨.tup [],[]⟩ fun S=>ih (k+1) S K
 | none=>False
def UA(P:Program)(all l:List Oper)(k:Nat)(S:St)(K:St->Prop):Prop :=
 List.rec (motive:=fun _=>Nat->St->(St->Prop)->Prop) (fun _ S K=>K S) (fun o _ ih=>tB P all o ih) l k S K
theorem GQ(P:Program)(all:List Oper):∀ (l:List Oper) (k:Nat) (S:St) (K:St->Prop),UA P all l k S K=BT P all l k S K
 | [],_,_,_=>rfl
 | o :: l,k,S,K=>by
  show tB P all o (fun k S K=>UA P all l k S K) k S K=_
  unfold tB BT;simp only[GQ P all l,Qt,zr,L2,C3];rfl
def tC(P:Program)(X:List Nat)(all:List Oper)(o:Oper)(ih:Nat->St->List (List Nat×List Nat)->(St->Prop)->Prop)(k:Nat)(S:St)(cY:List (List Nat×List Nat))(K:St->Prop):Prop :=
 match gw all.toArray S o with
 | some true=>match Tg P X S o with
  | true=>∃ (out:Out) (rd:List Nat),(∀ S':St,(∀ x ∈ E1 o.op,S'.get x=S.get x)->(∀ i ∈ rd,S'.row i=S.row i)->LR P X o S' out)/\Z3 (qF all k) out fun out=>vR S o.dst out fun S=>ih (k+1) S (cY++[(rd,out.rows.map (·.1))]) K
  | false=>Uw P o S.get S.row fun out rd=>Z3 (qF all k) out fun out=>vR S o.dst out fun S=>ih (k+1) S (cY++[(rd,out.rows.map (·.1))]) K
 | some false=>vR S o.dst ⟨.tup [],[]⟩ fun S=>ih (k+1) S (cY++[([],[])]) K
 | none=>False
def Qu(P:Program)(X:List Nat)(all l:List Oper)(k:Nat)(S:St)(cY:List (List Nat×List Nat))(K:St->Prop):Prop :=
 List.rec (motive:=fun _=>Nat->St->List (List Nat×List Nat)->(St->Prop)->Prop) (fun _ S cY K=>BP all cY=true/\K S) (fun o _ ih=>tC P X all o ih) l k S cY K
theorem zu(P:Program)(X:List Nat)(all:List Oper):∀ (l:List Oper) (k:Nat) (S:St) (cY:List (List Nat×List Nat)) (K:St->Prop),Qu P X all l k S cY K=fZ P X all l k S cY K
 | [],_,_,_,_=>rfl
 | o :: l,k,S,cY,K=>by
  show tC P X all o (fun k S cY K=>Qu P X all l k S cY K) k S cY K=_
  unfold tC fZ;simp only[zu P X all l,Qp,zr];rfl
def zw(l:List (Nat×VT))(S:St)(K:St->Prop):Prop:=List.rec (motive:=fun _=>St->(St->Prop)->Prop) (fun S K=>iy S K) (fun v _ ih S K=>iy (canon1 v.1 v.2 S) fun S=>ih S K) l S K
theorem kF:∀ (l:List (Nat×VT)) (S:St) (K:St->Prop),zw l S K=K (canonV l S)
 | [],S,K=>L2 S K
 | (t,V) :: l,S,K=>by
  show iy (canon1 t V S) (fun S=>zw l S K)=_
  rw[L2,kF l];rfl
def BZ(ds:List Nat)(S0:St)(ws bs:List Nat)(vs:List (Nat×VT))(S:St)(K:List AV->List Row->List Row->Prop):Prop :=
 zw vs S fun S=>gL (ws.map fun i=>S.t.getD i .any) fun Q9=>tA (bs.map S.row) fun F7=>tA (vs.map fun v=>S.row v.1) fun I5 =>
  K Q9 F7 I5/\lK (N3 ds S0 ws bs vs Q9 F7 I5).t S.t=some (N3 ds S0 ws bs vs Q9 F7 I5).t /\
   jl (N3 ds S0 ws bs vs Q9 F7 I5).h S.h=some (N3 ds S0 ws bs vs Q9 F7 I5).h
theorem tD(ds:List Nat)(S0:St)(ws bs:List Nat)(vs:List (Nat×VT))(S:St)(K:List AV->List Row->List Row->Prop):BZ ds S0 ws bs vs S K=iO ds S0 ws bs vs S K:=by
 unfold BZ iO;simp only[kF,L2,C3,Mu,bA,jV,X1]
def UB(f:St->(Ex->St->Prop)->Prop)(n:Nat)(S:St)(Q:Ex->St->Prop):Prop :=
 Nat.rec (motive:=fun _=>St->(Ex->St->Prop)->Prop) (fun _ _=>False) (fun _ ih S Q=>f S fun e S=>match e with
  | .norm=>ih S Q
  | e=>Q e S) n S Q
theorem zx(f:St->(Ex->St->Prop)->Prop):∀ (n:Nat) (S:St) (Q:Ex->St->Prop),UB f n S Q=Qf f n S Q
 | 0,_,_=>rfl
 | n+1,S,Q=>by
  show f S (fun e S=>match e with
   | .norm=>UB f n S Q
   | e=>Q e S)=_
  unfold Qf
  congr 1
  funext e S
  cases e
  ·exact zx f n S Q
  ·rfl
  ·rfl
abbrev GX:=St->(Ex->St->Prop)->Prop
def zy(P:Program)(id:Nat)(ops:Array Oper)(draw:Bool)(S:St)(Q:Ex->St->Prop):Prop :=
 match draw with
 | false=>UA P ops.toList ops.toList 0 S fun S=>iy S (Q .norm)
 | true=>iy (preF P S ops.toList) fun S=>XR (XB P S ops.toList) fun X=>(xb P ops && (dj P ops.toList).all (A3 S) && kE ops.toList && (XC P ops.toList X && X.all (A3 S)))=true/\iy (S.kills (dj P ops.toList++X)) fun S=>Qu P X ops.toList ops.toList 0 S [] fun S=>iy S (Q .norm)
def Qv(a b:GX)(S:St)(Q:Ex->St->Prop):Prop:=a S fun e S=>match e with
 | .norm=>b S Q
 | e=>Q e S
def GR(c:Operand)(a b:GX)(S:St)(Q:Ex->St->Prop):Prop :=
 match S.get c with
 | .tt=>a S Q
 | .ff=>b S Q
 | .bool x=>(x=true->a S Q)/\(x=false->b S Q)
 | _=>False
def zz(id:Nat)(c:GX)(S:St)(Q:Ex->St->Prop):Prop:=c S fun e S=>match e with
 | .exit i=>match Nat.beq i id with
  | true=>Q .norm S
  | false=>Q (.exit i) S
 | e=>Q e S
def xn(c:Code)(f:GX)(S:St)(Q:Ex->St->Prop):Prop :=
 (∃ n,UB f n S Q) ∨
  ∃ (ι:Type) (ws bs:List Nat) (vs:List (Nat×VT)) (V:ι->List AV) (BR VR:ι->List Row) (μ:ι->Nat) (I:ι->Prop),XR (aD c) fun ds=>zw vs S fun S0 =>
   (∃ i,BZ ds S0 ws bs vs S fun Q9 F7 I5=>I i/\Q9=V i/\F7=BR i/\I5=VR i) /\
   ∀ i,I i->iy (N3 ds S0 ws bs vs (V i) (BR i) (VR i)) fun S1=>f S1 fun e S2=>match e with
    | .norm=>∃ i',BZ ds S0 ws bs vs S2 fun Q9 F7 I5=>(μ i' < μ i/\I i')/\Q9=V i'/\F7=BR i'/\I5=VR i'
    | e=>Q e S2
def EN(P:Program)(g:Operand)(ps:Array Tmp)(dsA dsB:List Nat)(fa fb:GX)(S:St)(Q:Ex->St->Prop):Prop :=
 match S.n with
 | .round _=>False
 | .iter=>False
 | .plain=>match S.get g with
  | .fn (.func gf) [] B2=>G8 B2=true /\
   ∃ (xs:List (List AV)) (bs:List Nat) (BR:Nat->List Row) (I:Nat->Prop),(SQ P gf B2 xs/\∀ x ∈ xs,dY x=true/\x.length=ps.size) /\
    XR (ps.toList++(dsA++dsB)) fun ds=>ds.all (A3 S)=true /\
     (BZ ds S [] bs [] S fun Q9 F7 I5=>I 0/\Q9=[]/\F7=BR 0/\I5=[]) /\
     (∀ k x,I k->xs[k]? = some x->iy ((N3 ds S [] bs [] [] (BR k) []).kills ds) fun S1=>iy ⟨fE S1.t ps.toList x,S1.h,.round ds⟩ fun S2 =>
      fa S2 fun e S3=>match e with
       | .norm=>fb S3 fun e S4=>match e with
        | .norm=>tA (bs.map S4.row) fun F7=>(I (k+1)/\F7=BR (k+1))/\jl ((N3 ds S [] bs [] [] F7 []).kills ds).h S4.h=some ((N3 ds S [] bs [] [] F7 []).kills ds).h
        | e=>Q e ⟨S1.t,S4.h,.plain⟩
       | _=>False) /\
     (I xs.length->iy ((N3 ds S [] bs [] [] (BR xs.length) []).kills ds) (Q .norm))
  | _=>False
def IL(P:Program)(c:Code):GX :=
 Code.rec (motive:=fun _=>GX)
  (fun S Q=>Q .norm S)
  (fun id ops draw=>zy P id ops draw)
  (fun _ _ ia ib=>Qv ia ib)
  (fun c _ _ ia ib=>GR c ia ib)
  (fun id _ ic=>zz id ic)
  (fun c ic=>xn c ic)
  (fun g ps assign body ia ib=>EN P g ps (aD assign) (aD body) ia ib)
  (fun id S Q=>Q (.exit id) S)
  (fun _ ic S Q=>ic S Q)
  (fun _ S Q=>Q .norm S)
  (fun _ _ _=>False)
  (fun S Q=>Q .ret S)
  (fun _ _ _=>False) c
theorem dm(P:Program):∀ (c:Code),IL P c=ex P c
 | .skip=>by funext S Q;simp only[ex];rfl
 | .region id ops draw=>by
  funext S Q
  show zy P id ops draw S Q=_
  unfold zy ex;cases draw
  ·simp only[GQ,L2,C3]
  ·simp only[zu,L2,C3,zq,iN]
 | .seq a b=>by
  funext S Q
  show Qv (IL P a) (IL P b) S Q=_
  rw[dm P a,dm P b];simp only[ex];rfl
 | .cond c a b=>by
  funext S Q
  show GR c (IL P a) (IL P b) S Q=_
  rw[dm P a,dm P b];simp only[ex];rfl
 | .block id c=>by
  funext S Q
  show zz id (IL P c) S Q=_
  rw[dm P c];simp only[ex];rfl
 | .loop c=>by
  funext S Q
  show xn c (IL P c) S Q=_
  rw[dm P c];simp only[ex];unfold xn;simp only[zx,zq,iN,kF,L2,C3,tD];rfl
 | .rangeFunc g ps assign body=>by
  funext S Q
  show EN P g ps (aD assign) (aD body) (IL P assign) (IL P body) S Q=_
  rw[dm P assign,dm P body];simp only[ex];unfold EN;simp only[zq,iN,L2,C3,tD,jV,X1];rfl
 | .exit id=>by funext S Q;simp only[ex];rfl
 | .scope c=>by
  funext S Q
  show IL P c S Q=_
  rw[dm P c];simp only[ex]
 | .label l=>by funext S Q;simp only[ex];rfl
 | .goto l=>by funext S Q;simp only[ex];rfl
 | .ret=>by funext S Q;simp only[ex];rfl
 | .refuse w=>by funext S Q;simp only[ex];rfl
def GS(P:Program)(fn:Func)(args:List AV)(res:AV):Prop :=
 match fn.body with
 | none=>False
 | some c=>iy ⟨args++List.replicate (fn.ntmps-args.length) .any,List.replicate fn.ntmps .none,.plain⟩ fun S=>IL P c S fun e S=>match e with
  | .exit _=>False
  | _=>match dA P S fn.results.toList with
   | some l=>WC (fF l).fin fun v=>v=res
   | none=>False
theorem MA(P:Program)(fn:Func)(args:List AV)(res:AV):GS P fn args res=body P fn args res:=by
 unfold GS body;simp only[dm,L2,C3,tz,dZ];rfl
theorem Ca{P:Program}(hm:P.follows .mixedOrders=true){f:FuncId}{fn:Func}{args:List AV}{res:AV}(hf:P.funcs[f]? = some fn)(J7:(fn.name == "runtime.NumGoroutine")=false) (h:GS P fn args res):PC P f args res :=
 EI hm hf J7 (by rw[<- MA];exact h)
def zA(P:Program)(fn:Func)(args:List AV)(ins:List Row)(res:AV)(o9:List Row):Prop :=
 match fn.body with
 | none=>False
 | some c=>(av ins.length args && ins.all (fun r=>D9 ins.length r && r.live) && Nat.ble args.length fn.ntmps)=true /\
  iy ⟨au (List.range' fn.ntmps ins.length) args++List.replicate (fn.ntmps-args.length) .any,List.replicate fn.ntmps .none++ins.map (A0 (List.range' fn.ntmps ins.length)),.plain⟩ fun S=>IL P c S fun e S=>match e with
  | .exit _=>False
  | _=>match bN P S fn.results.toList with
   | some l=>∃ news:List Nat,(aw (List.range' fn.ntmps ins.length++news) && Nat.beq o9.length (List.range' fn.ntmps ins.length++news).length && res.under o9.length && o9.all (D9 o9.length))=true /\
     WC (fF l).fin fun v=>v=res.ren (List.range' fn.ntmps ins.length++news)/\(List.range' fn.ntmps ins.length++news).map S.row=o9.map (A0 (List.range' fn.ntmps ins.length++news))
   | none=>False
theorem IM(P:Program)(fn:Func)(args:List AV)(ins:List Row)(res:AV)(o9:List Row):zA P fn args ins res o9=GG P fn args ins res o9:=by
 unfold zA GG;simp only[dm,L2,C3,tz,dZ];rfl
theorem Cb{P:Program}(hm:P.follows .mixedOrders=true){f:FuncId}{fn:Func}{args:List AV}{ins o9:List Row}{res:AV}(hf:P.funcs[f]? = some fn)(J7:(fn.name == "runtime.NumGoroutine")=false) (h:zA P fn args ins res o9):PW P f args ins res o9 :=
 EJ hm hf J7 (by rw[<- IM];exact h)
def EO(P:Program)(fn:Func)(B2:List AV)(xs:List (List AV)):Prop :=
 match fn.body with
 | none=>False
 | some c=>Nat.ble (B2.length+1) fn.ntmps=true/\∀ l:Nat,iy ⟨(.fn (.yield l) [] [] :: B2)++List.replicate (fn.ntmps-(B2.length+1)) .any,List.replicate fn.ntmps .none++[.ctr l xs 0 false],.iter⟩ fun S=>IL P c S fun e S=>match e with
  | .exit _=>False
  | _=>match dA P S fn.results.toList with
   | some _=>match S.row S.t.length with
    | .ctr _ _ k e'=>e'=false->k=xs.length
    | _=>False
   | none=>False
theorem IN(P:Program)(fn:Func)(B2:List AV)(xs:List (List AV)):EO P fn B2 xs=GH P fn B2 xs:=by
 unfold EO GH;simp only[dm,L2,C3];rfl
theorem qK{P:Program}(hm:P.follows .mixedOrders=true){f:FuncId}{fn:Func}{B2:List AV}{xs:List (List AV)}(hf:P.funcs[f]? = some fn)(J7:(fn.name == "runtime.NumGoroutine")=false) (h:EO P fn B2 xs):SQ P f B2 xs :=
 EK hm hf J7 (by rw[<- IN];exact h)
/- Many slots given up at once. A helper text: it speaks of no program. -/
def gR(x:AV):List Nat->Bool
 | []=>false
 | d :: l=>match x.names d with
  | true=>true
  | false=>gR x l
def AV.plain1:AV->Bool
 | .ptr _ _ _ _=>false
 | .own _=>false
 | .mem _ _=>false
 | .mptr _ _ _=>false
 | .agg _=>false
 | .tup _=>false
 | .fn _ _ _=>false
 | _=>true
def P0(ds:List Nat)(x:AV):AV:=match x.plain1 with
 | true=>x
 | false=>match gR x ds with
  | true => .any
  | false=>x
theorem zB{x:AV}(h:x.plain1=true)(d:Nat):x.names d=false:=by
 cases x<;>simp[AV.plain1]at h<;>rfl
theorem tE{x:AV}(h:x.plain1=true):∀ ds,gR x ds=false
 | []=>rfl
 | d :: l=>by simp only[gR];rw[zB h d];exact tE h l
theorem mn(ds:List Nat)(x:AV):P0 ds x=match gR x ds with
  | true => .any
  | false=>x:=by
 unfold P0;cases h:x.plain1 with
 | false=>rfl
 | true=>rw[tE h ds]
theorem Cc(ds:List Nat):P0 ds .any = .any:=rfl
theorem iV(d:Nat)(l:List Nat)(x:AV):P0 l (G1 d x)=P0 (d :: l) x:=by
 rw[mn (d :: l) x];unfold G1;simp only[gR];cases h:x.names d with
 | true=>exact Cc l
 | false=>exact mn l x
def R3(ds:List Nat):Row->Row
 | .none => .none
 | .cells ty cs => .cells ty (cs.map (P0 ds))
 | .lit ty sz E5 => .lit ty sz (E5.map fun cs=>cs.map (P0 ds))
 | .vec ty sz e enc l => .vec ty sz e enc l
 | .ctr l xs k e => .ctr l xs k e
 | .nest ty sz j0 G7 e enc ys ho l => .nest ty sz j0 G7 e enc ys ho l
 | .opq o => .opq o
theorem vS(d:Nat)(l:List Nat)(r:Row):R3 l (C1 d r)=R3 (d :: l) r:=by
 cases r<;>simp only[R3,C1,List.map_map,Row.cells.injEq,Row.lit.injEq,true_and]
 ·refine List.map_congr_left fun x _=>?_
  exact iV d l x
 ·refine List.map_congr_left fun x _=>?_
  simp only[Function.comp,List.map_map];refine List.map_congr_left fun y _=>?_
  exact iV d l y
def mo:List Nat->List Row->List Row
 | [],h=>h
 | d :: l,h=>mo l (h.set d .none)
theorem qL(x:AV):P0 [] x=x:=by
 rw[mn];rfl
theorem zC(r:Row):R3 [] r=r:=by
 have e:P0 []=id:=funext qL;cases r<;>simp[R3,e]
theorem Cd:∀ (l:List Nat) (S:St),S.kills l=⟨S.t.map (P0 l),mo l (S.h.map (R3 l)),S.n⟩
 | [],S=>by
  have e:P0 []=id:=funext qL;have e2:R3 []=id:=funext zC;simp only[St.kills,mo];rw[e,e2,List.map_id,List.map_id]
 | d :: l,S=>by
  simp only[St.kills];rw[Cd l];simp only[St.kill,List.map_map];have e:P0 l ∘ G1 d=P0 (d :: l):=funext fun x=>iV d l x
  have e2:R3 l ∘ C1 d=R3 (d :: l):=funext fun x=>vS d l x
  rw[e,List.map_set,List.map_map,e2];rfl
def py(i:Nat):List Nat->Bool
 | []=>false
 | d :: l=>match Nat.beq d i with
  | true=>true
  | false=>py i l
def kG(ds:List Nat)(i:Nat):Row->Row
 | .none => .none
 | .cells ty cs=>match py i ds with
  | true => .none
  | false => .cells ty (cs.map (P0 ds))
 | r=>match py i ds with
  | true => .none
  | false=>R3 ds r
def nG(ds:List Nat):Nat->List Row->List Row
 | _,[]=>[]
 | i,r :: h=>kG ds i r :: nG ds (i+1) h
theorem zD(ds:List Nat)(i:Nat)(r:Row):kG ds i r=if py i ds=true then .none else R3 ds r:=by
 cases r<;>simp only[kG,R3]<;>cases py i ds<;>simp
theorem xp(i d:Nat)(l:List Nat):py i (d :: l)=(Nat.beq d i || py i l):=by
 simp only[py];cases Nat.beq d i<;>rfl
theorem tF:∀ (l:List Nat) (h:List Row) (j:Nat),(mo l h)[j]? = (h[j]?).map fun r=>if py j l=true then .none else r
 | [],h,j=>by simp[mo,py]
 | d :: l,h,j=>by
  simp only[mo];rw[tF l,List.getElem?_set];by_cases e:d=j
  ·subst e;by_cases hl:d<h.length
   ·have hb:py d (d :: l)=true:=by rw[xp];simp
    simp[hl,hb]
   ·simp[hl]
  ·have hb:py j (d :: l)=py j l:=by
    rw[xp];have:Nat.beq d j=false:=by
     cases hx:Nat.beq d j with
     | false=>rfl
     | true=>exact absurd (zA8 hx) e
    rw[this];rfl
   rw[hb,if_neg e]
theorem xq(ds:List Nat):∀ (h:List Row) (i j:Nat),(nG ds i h)[j]? = (h[j]?).map (kG ds (i+j))
 | [],i,j=>by simp[nG]
 | r :: h,i,0=>by simp[nG]
 | r :: h,i,j+1=>by
  simp only[nG,List.getElem?_cons_succ];rw[xq ds h,show i+1+j=i+(j+1)by omega]
theorem MB(l:List Nat)(h:List Row):mo l (h.map (R3 l))=nG l 0 h:=by
 refine List.ext_getElem? fun j=>?_
 rw[tF,xq,List.getElem?_map];cases h[j]? with
 | none=>rfl
 | some r=>simp only[Option.map_some,Nat.zero_add];rw[zD]
/- Many slots given up at once, for the executor by recursors. A helper text: it speaks of no program. -/
theorem MC{l:List Nat}{S:St}{K:St->Prop}(h:iy S fun S=>iy ⟨S.t.map (P0 l),nG l 0 S.h,S.n⟩ K):iy (S.kills l) K:=by
 rw[L2,L2]at h;rw[L2,Cd,MB];exact h
theorem xr{xs:List (List AV)}{I:Nat->Prop}{A:Nat->St}{ds:List Nat}{K:Nat->List AV->St->Prop}{m:Nat}{f:Nat->List AV}(hx:∀ k x,xs[k]? = some x->k<m/\x=f k)
  (h:∀ k,k<m->I k->iy (A k) fun S=>iy ⟨S.t.map (P0 ds),nG ds 0 S.h,S.n⟩ (K k (f k))):∀ k x,I k->xs[k]? = some x->iy ((A k).kills ds) (K k x):=by
 intro k x hk hxk;obtain⟨h1,rfl⟩:=hx k x hxk;exact MC (h k h1 hk)
theorem Ce{R:Prop}{l:List Nat}{S:St}{K:St->Prop}(h:R->iy S fun S=>iy ⟨S.t.map (P0 l),nG l 0 S.h,S.n⟩ K):R->iy (S.kills l) K:=fun r=>MC (h r)

end Go.Ev
