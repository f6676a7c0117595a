/- Helper lemmas. -/
import Derived.Test.YtdpnpdjnaimgaaaGreatEvFive
import Derived.Lib.Mul64
import Derived.Laws.Externs
set_option linter.unusedVariables false
set_option linter.unusedSimpArgs false
/- Small things that every contract uses. A helper text: it speaks of no program. -/
namespace Go.Ev
abbrev i64(n:Int):AV := .int .i64 n
abbrev eI(n:Int):List AV:=[.int .i64 n]
abbrev C8(l:List Int):AV := .sl 1 (0:Int) eI l
def G7(n:Int):Prop := -9223372036854775808<=n/\n<=9223372036854775807
theorem C7(n:Int)(h1 : -9223372036854775808<=n)(h2:n<=9223372036854775807):IntKind.i64.wrap n=n:=IntWalk.i64_in n ⟨h1,h2⟩
theorem Xe(n:Int)(h1:0<=n)(h2:n<=18446744073709551615):IntKind.u64.wrap n=n:=by simp[IntKind.wrap,IntKind.bits,IntKind.signed];omega
def pV(x y:AV):Prop:=∀ (F:Nat->Prop) (w:World) (v:Value),v7 F w x v->v7 F w y v
theorem pV.refl(x:AV):pV x x:=fun _ _ _ h=>h
theorem pV.slc{α:Type}(sz:Nat)(d:α)(enc:α->List AV)(l:List α):pV (.slc sz (l.map enc)) (.sl sz d enc l):=by
 intro F w v h;generalize hc:l.map enc=D5 at h;cases h with
 | slcnil =>
  have:l=[]:=by simpa using hc
  subst this;exact .slnil
 | slc g IP hb hr =>
  subst hc;simp only[List.length_map]at *
  refine .sl g IP hb fun i j hi hj=>?_
  have:=hr i j hi hj;have e:(l.map enc).getD i []=enc (l.getD i d):=by simp[List.getD,List.getElem?_map,hi]
  rwa[e]at this
theorem pV.nils{α:Type}(sz:Nat)(d:α)(enc:α->List AV):pV .nils (.sl sz d enc []):=by
 intro F w v h;cases h
 exact .slnil
theorem PC.sub{P:Program}{f:FuncId}{args N4:List AV}{res JB:AV}(h:PC P f args res)(hl:N4.length=args.length)(hs:∀ i,i<args.length->pV (N4.getD i .any) (args.getD i .any))(hr:pV res JB):PC P f N4 JB:=by
 intro F w vs hF H5 R0;rcases h F w vs hF (H5.trans hl) (fun i hi=>hs i hi _ _ _ (R0 i (hl ▸ hi)))with ⟨h1,h2⟩|⟨v,h1,h2⟩
 ·exact .inl ⟨h1,h2.mono fun e w' ⟨v,e1,e2,e3⟩=>⟨v,e1,e2,hr _ _ _ e3⟩⟩
 ·exact .inr ⟨v,h1,hr _ _ _ h2⟩
theorem PC.last{P:Program}{f:FuncId}{args:List AV}{x y res:AV}(h:PC P f (args++[x]) res)(hs:pV y x):PC P f (args++[y]) res:=by
 refine h.sub va9 (fun i hi=>?_) (.refl _);simp only[List.length_append,zB2,List.length_nil]at hi;by_cases e:i<args.length
 ·simp only[List.getD,List.getElem?_append,e,if_true];exact .refl _
 ·have:i-args.length=0:=by omega
  simp only[List.getD,List.getElem?_append,e,if_false,this];exact hs
def uG{α:Type}(p:α->Bool):List α->Int
 | [] => -1
 | a :: l=>if p a then 0 else if uG p l = -1 then -1 else uG p l+1
theorem JC{α:Type}(p:α->Bool):∀ l:List α,-1<=uG p l/\uG p l<l.length
 | []=>by simp[uG]
 | a :: l=>by
  have:=JC p l;simp only[uG,zB2];split
  ·omega
  ·split<;>omega
theorem pX{α:Type}(p:α->Bool)(d:α):∀ (l:List α) (k:Nat),k<l.length->p (l.getD k d)=true->(∀ i,i<k->p (l.getD i d)=false)->uG p l=k
 | [],k,hk,_,_=>absurd hk (zB3 k)
 | a :: l,0,_,h,_=>by
  have h:p a=true:=h;simp[uG,h]
 | a :: l,k+1,hk,h,hn=>by
  have h0:p a=false:=hn 0 va5;have:=pX p d l k (by simpa using hk) h fun i hi=>hn (i+1) va5
  simp only[uG,h0,this];simp
theorem lS{α:Type}(p:α->Bool)(d:α):∀ (l:List α),(∀ i,i<l.length->p (l.getD i d)=false)->uG p l = -1
 | [],_=>rfl
 | a :: l,hn=>by
  have h0:p a=false:=hn 0 va9;have:=lS p d l fun i hi=>hn (i+1) (by simpa using hi)
  simp[uG,h0,this]
theorem pY{α:Type}(p:α->Bool):∀ l:List α,decide (uG p l ≥ 0)=l.any p
 | []=>rfl
 | a :: l=>by
  have:=pY p l;have h2:=(JC p l).1;rw[List.any_cons,<- this];by_cases hp:p a=true
  ·simp[uG,hp]
  ·simp only[uG,hp];by_cases h3:uG p l = -1
   ·simp[h3]
   ·have:uG p l ≥ 0:=by omega
    have h4:uG p l+1 ≥ 0:=by omega
    simp[h3,this,h4]
/- Words: unsigned numbers of 64 bits, as natural numbers. A helper text: it speaks of no program. -/
abbrev u64(n:Nat):AV := .int .u64 (n:Int)
theorem wu(n:Nat)(h:n<18446744073709551616):IntKind.u64.wrap (n:Int)=n:=Xe _ va5 (by have:n<18446744073709551616:=h;omega)
theorem lT(n:Int):IntKind.u64.wrap n=((n % 18446744073709551616).toNat:Int):=by simp[IntKind.wrap,IntKind.bits,IntKind.signed];omega
theorem wi(n:Int)(h1 : -9223372036854775808<=n)(h2:n<=9223372036854775807):IntKind.i64.wrap n=n:=C7 n h1 h2
theorem CE(a b:Nat)(ha:a<18446744073709551616)(hb:b<18446744073709551616):bits .and .u64 (a:Int) (b:Int)=((a &&& b:Nat):Int):=by
 have h:(BitVec.ofInt 64 (a:Int) &&& BitVec.ofInt 64 (b:Int)).toNat=a &&& b:=by
  rw[BitVec.toNat_and,BitVec.toNat_ofInt,BitVec.toNat_ofInt]
  congr 1<;>omega
 show IntKind.u64.wrap (((BitVec.ofInt 64 (a:Int) &&& BitVec.ofInt 64 (b:Int)).toNat:Nat):Int)=_
 rw[h];exact wu _ (Nat.lt_of_le_of_lt Nat.and_le_left ha)
theorem Gs(a b:Nat)(ha:a<18446744073709551616)(hb:b<18446744073709551616):bits .or .u64 (a:Int) (b:Int)=((a ||| b:Nat):Int):=by
 have h:(BitVec.ofInt 64 (a:Int) ||| BitVec.ofInt 64 (b:Int)).toNat=a ||| b:=by
  rw[BitVec.toNat_or,BitVec.toNat_ofInt,BitVec.toNat_ofInt]
  congr 1<;>omega
 show IntKind.u64.wrap (((BitVec.ofInt 64 (a:Int) ||| BitVec.ofInt 64 (b:Int)).toNat:Nat):Int)=_
 rw[h];exact wu _ (Nat.or_lt_two_pow (n:=64) ha hb)
theorem uH(a k:Nat)(hk:k<=64):((a:Nat):Int).fdiv (2^min (Int.toNat (k:Int)) IntKind.u64.bits)=((a / 2^k:Nat):Int):=by
 have:min (Int.toNat (k:Int)) IntKind.u64.bits=k:=by show min k 64=k;omega
 rw[this,Int.fdiv_eq_ediv_of_nonneg _ (by exact Int.le_of_lt (Int.pow_pos va8))];simp
theorem JD(a k:Nat)(hk:k<=64):IntKind.u64.wrap ((a:Int)*2^min (Int.toNat (k:Int)) IntKind.u64.bits)=((a*2^k % 18446744073709551616:Nat):Int):=by
 have:min (Int.toNat (k:Int)) IntKind.u64.bits=k:=by show min k 64=k;omega
 rw[this,lT];have e:(a:Int)*2^k=((a*2^k:Nat):Int):=by simp
 rw[e];omega
theorem qZ(a b:Nat):IntKind.u64.wrap ((a:Int)*(b:Int))=((a*b % 18446744073709551616:Nat):Int):=by
 rw[lT];have e:(a:Int)*b=((a*b:Nat):Int):=by simp
 rw[e];omega
theorem a0x(a b:Nat):IntKind.u64.wrap ((a:Int)+(b:Int))=(((a+b) % 18446744073709551616:Nat):Int):=by rw[lT];omega
theorem Ew(a b:Nat)(hb:b<=18446744073709551616):IntKind.u64.wrap ((a:Int)-(b:Int))=(((a+(18446744073709551616-b)) % 18446744073709551616:Nat):Int):=by rw[lT];omega
theorem gX(a b:Nat)(ha:a<18446744073709551616):IntKind.u64.wrap ((a:Int).tdiv (b:Int))=((a / b:Nat):Int):=by
 rw[Int.tdiv_eq_ediv_of_nonneg va5];have e:(a:Int) / b=((a / b:Nat):Int):=by simp
 rw[e];exact wu _ (Nat.lt_of_le_of_lt (Nat.div_le_self a b) ha)
theorem JE(a b:Nat):(a:Int).tmod (b:Int)=((a % b:Nat):Int):=by
 rw[Int.tmod_eq_emod_of_nonneg va5];simp
theorem CF(a:Nat):a &&& 4294967295=a % 4294967296:=Nat.and_two_pow_sub_one_eq_mod a 32
theorem iK(a:Nat)(ha:a<18446744073709551616):bits .and .u64 (a:Int) 4294967295=((a % 4294967296:Nat):Int):=by
 have:=CE a 4294967295 ha va8;rw[CF]at this;exact this
theorem pZ(a:Nat):((a:Nat):Int).fdiv (2^min (Int.toNat 32) IntKind.u64.bits)=((a / 4294967296:Nat):Int):=uH a 32 va5
abbrev pr(n:Nat):AV := .agg [u64 (n / 18446744073709551616),u64 (n % 18446744073709551616)]
abbrev fr(x:Int×Int):AV := .agg [i64 x.1,i64 x.2]
abbrev eF(x:Int×Int):List AV:=[i64 x.1,i64 x.2]
/- Calls that the model stands in for: sums and differences of words with carry. A helper text: it speaks of no program. -/
theorem v7.int_inv{F:Nat->Prop}{w:World}{k:IntKind}{n:Int}{v:Value}(h:v7 F w (.int k n) v):v = .int k n:=by cases h;rfl
theorem rb{F:Nat->Prop}{w:World}{vs:Array Value}{x y c:Nat}(H5:vs.size=3)(h:∀ i,i<3->v7 F w ([u64 x,u64 y,u64 c].getD i .any) (vs.getD i undef)):vs=#[.int .u64 x,.int .u64 y,.int .u64 c]:=by
 have h0:vs.getD 0 undef = .int .u64 x:=(h 0 va5).int_inv;have h1:vs.getD 1 undef = .int .u64 y:=(h 1 va5).int_inv;have h2:vs.getD 2 undef = .int .u64 c:=(h 2 va5).int_inv;have e:∀ i,(hi:i<vs.size)->vs.getD i undef=vs[i]:=fun i hi=>by simp[Array.getD,hi]
 rw[e _ va5]at h0 h1 h2;apply Array.ext
 ·simpa using H5
 ·intro i hi hj;have:i=0∨i=1∨i=2:=by simp at hj;omega
  rcases this with rfl|rfl|rfl
  ·exact h0
  ·exact h1
  ·exact h2
theorem Ey{F:Nat->Prop}{w:World}(a b:Nat):v7 F w (.tup [u64 a,u64 b]) (.tuple #[.int .u64 a,.int .u64 b]):=by
 refine .tup rfl fun i hi=>?_
 have:i=0∨i=1:=by simp at hi;omega
 rcases this with rfl|rfl
 ·exact .int _ _
 ·exact .int _ _
theorem JF{P:Program}{f:FuncId}{fn:Func}(hf:P.funcs[f]? = some fn)(J8:(fn.name == "runtime.NumGoroutine")=false) (hb:fn.body.isNone=true) (hn:Extern.findNext fn=none) (he:Extern.find fn=some add64Entry)
  (x y c:Nat) (hc:c<=1):PC P f [u64 x,u64 y,u64 c] (.tup [u64 ((x+y+c) % 18446744073709551616),u64 ((x+y+c) / 18446744073709551616)]):=by
 intro F w vs _ H5 h;have hv:=rb H5 h;subst hv;have:=run_callFunc_extern hf J8 hb hn he #[.int .u64 x,.int .u64 y,.int .u64 c] w;rw[run_add64 x y c va5 va5 va5 va5]at this;refine .inr ⟨_,this,?_⟩;have e1:((x:Int)+y+c) % 18446744073709551616=(((x+y+c) % 18446744073709551616:Nat):Int):=by omega
 have e2:((x:Int)+y+c) / 18446744073709551616=(((x+y+c) / 18446744073709551616:Nat):Int):=by omega
 rw[e1,e2];exact Ey _ _
def JG:Array Value→Sem Value:=(Extern.MathBitsCarry.rows.getD 1 ("",fun _=>pure undef)).2
theorem JH{P:Program}{f:FuncId}{fn:Func}(hf:P.funcs[f]? = some fn)(J8:(fn.name == "runtime.NumGoroutine")=false) (hb:fn.body.isNone=true) (hn:Extern.findNext fn=none) (he:Extern.find fn=some JG)
  (x y c:Nat) (hc:c<=1):PC P f [u64 x,u64 y,u64 c] (.tup [u64 ((x+18446744073709551616-y-c) % 18446744073709551616),u64 (if x<y+c then 1 else 0)]):=by
 intro F w vs _ H5 h;have hv:=rb H5 h;subst hv;have:=run_callFunc_extern hf J8 hb hn he #[.int .u64 x,.int .u64 y,.int .u64 c] w;refine .inr ⟨.tuple #[.int .u64 (((x+18446744073709551616-y-c) % 18446744073709551616:Nat):Int),.int .u64 ((if x<y+c then 1 else 0:Nat):Int)],this.trans ?_,Ey _ _⟩;have:c=0∨c=1:=by omega
 rcases this with rfl|rfl<;>rfl
/- The executor once more, by recursors: Lean's whnf unfolds a recursive definition by its equations and then copies all of its arguments as trees; a recursor it does not copy. A helper text: it speaks of no program. -/
def Ez{α:Type 1}(f:α->(α->Prop)->Prop)(l:List α)(K:List α->Prop):Prop :=
 List.rec (motive:=fun _=>(List α->Prop)->Prop) (fun K=>K []) (fun a _ ih K=>f a fun a=>ih fun l=>K (a :: l)) l K
theorem gA{α:Type 1}{f:α->(α->Prop)->Prop}(hf:∀ a K,f a K=K a)(l:List α)(K:List α->Prop):Ez f l K=K l:=by
 unfold Ez
 induction l generalizing K with
 | nil=>rfl
 | cons a l ih =>
  show f a (fun a=>List.rec (motive:=fun _=>(List α->Prop)->Prop) (fun K=>K []) (fun a _ ih K=>f a fun a=>ih fun l=>K (a :: l)) l (fun l=>K (a :: l)))=K (a :: l)
  rw[hf,ih]
def rf(f:AV->(AV->Prop)->Prop)(x:AV)(K:AV->Prop):Prop :=
 match x with
 | .agg l=>Ez f l fun l=>K (.agg l)
 | .tup l=>Ez f l fun l=>K (.tup l)
 | .slc sz D5=>Ez (Ez f) D5 fun D5=>K (.slc sz D5)
 | .pt cs off=>Ez f cs fun cs=>K (.pt cs off)
 | .fn g a b=>Ez f a fun a=>Ez f b fun b=>K (.fn g a b)
 | .any=>K .any
 | .tt=>K .tt
 | .ff=>K .ff
 | .bool b=>K (.bool b)
 | .int k n=>K (.int k n)
 | .str s=>K (.str s)
 | .nilp=>K .nilp
 | .nils=>K .nils
 | .nilf=>K .nilf
 | .sl sz d enc l=>K (.sl sz d enc l)
 | .sf sz d enc l=>K (.sf sz d enc l)
 | .ptr id sz i off=>K (.ptr id sz i off)
 | .own id=>K (.own id)
 | .mem id i=>K (.mem id i)
 | .mptr id i k=>K (.mptr id i k)
theorem nk{f:AV->(AV->Prop)->Prop}(hf:∀ a K,f a K=K a)(x:AV)(K:AV->Prop):rf f x K=K x:=by
 cases x<;>simp only[rf]<;>(first|rfl|(rw[gA hf])|(rw[gA fun a K=>gA hf a K])|skip)
 rw[gA hf]
def YD(x:AV)(K:AV->Prop):Prop :=
 match x with
 | .any=>K .any
 | .tt=>K .tt
 | .ff=>K .ff
 | .bool b=>K (.bool b)
 | .int k n=>K (.int k n)
 | .str s=>K (.str s)
 | .nilp=>K .nilp
 | .nils=>K .nils
 | .nilf=>K .nilf
 | .sl sz d enc l=>K (.sl sz d enc l)
 | .sf sz d enc l=>K (.sf sz d enc l)
 | .ptr id sz i off=>K (.ptr id sz i off)
 | .own id=>K (.own id)
 | .mem id i=>K (.mem id i)
 | .mptr id i k=>K (.mptr id i k)
 | .agg l=>K (.agg l)
 | .tup l=>K (.tup l)
 | .slc sz D5=>K (.slc sz D5)
 | .pt cs off=>K (.pt cs off)
 | .fn g a b=>K (.fn g a b)
theorem QF(x:AV)(K:AV->Prop):YD x K=K x:=by cases x<;>rfl
def YE:AV->(AV->Prop)->Prop:=rf YD
def Up:AV->(AV->Prop)->Prop:=rf YE
def SV:AV->(AV->Prop)->Prop:=rf Up
theorem QG(x:AV)(K:AV->Prop):YE x K=K x:=nk QF x K
theorem wN(x:AV)(K:AV->Prop):Up x K=K x:=nk QG x K
theorem rh(x:AV)(K:AV->Prop):SV x K=K x:=nk wN x K
def gL(l:List AV)(K:List AV->Prop):Prop:=Ez Up l K
theorem JI(l:List AV)(K:List AV->Prop):gL l K=K l:=gA wN l K
def QH(r:Row)(K:Row->Prop):Prop :=
 match r with
 | .none=>K .none
 | .cells ty cs=>Ez Up cs fun cs=>K (.cells ty cs)
 | .lit ty sz D5=>Ez (Ez Up) D5 fun D5=>K (.lit ty sz D5)
 | .vec ty sz d enc l=>K (.vec ty sz d enc l)
 | .ctr l xs k e=>K (.ctr l xs k e)
 | .nest ty sz j0 M8 d enc ys ho l=>K (.nest ty sz j0 M8 d enc ys ho l)
theorem Nm(r:Row)(K:Row->Prop):QH r K=K r:=by
 cases r<;>simp only[QH]<;>(first|rfl|(rw[gA wN])|(rw[gA fun a K=>gA wN a K]))
def ri(l:List Row)(K:List Row->Prop):Prop:=Ez QH l K
theorem iL(l:List Row)(K:List Row->Prop):ri l K=K l:=gA Nm l K
def gY(S:St)(K:St->Prop):Prop :=
 match S with
 | ⟨St,Sh,Sn⟩=>VI Sn fun n=>gL St fun t=>ri Sh fun h=>K ⟨t,h,n⟩
theorem M6(S:St)(K:St->Prop):gY S K=K S:=by cases S;simp only[gY];rw[IA,JI,iL]
def Xf(l:List AV)(K:List AV->Prop):Prop:=List.rec (motive:=fun _=>(List AV->Prop)->Prop) (fun K=>K []) (fun a _ ih K=>ih fun l=>K (a :: l)) l K
theorem QI(l:List AV)(K:List AV->Prop):Xf l K=K l:=by
 unfold Xf
 induction l generalizing K with
 | nil=>rfl
 | cons a l ih=>exact ih _
def Vt(l:List Nat)(K:List Nat->Prop):Prop:=List.rec (motive:=fun _=>(List Nat->Prop)->Prop) (fun K=>K []) (fun a _ ih K=>ih fun l=>K (a :: l)) l K
theorem CG(l:List Nat)(K:List Nat->Prop):Vt l K=K l:=by
 unfold Vt
 induction l generalizing K with
 | nil=>rfl
 | cons a l ih=>exact ih _
def wO(S:St)(dst:Option Nat)(out:Out)(K:St->Prop):Prop :=
 match S with
 | ⟨St,Sh,Sn⟩=>match dst with
  | some d=>SV out.v fun v=>Xf (St.set d v) fun t=>match out.rows with
   | []=>K ⟨t,Sh,Sn⟩
   | r :: rs=>ri (u6 Sh (r :: rs)) fun h=>K ⟨t,h,Sn⟩
  | none=>match out.rows with
   | []=>K ⟨St,Sh,Sn⟩
   | r :: rs=>ri (u6 Sh (r :: rs)) fun h=>K ⟨St,h,Sn⟩
theorem wP(S:St)(dst:Option Nat)(out:Out)(K:St->Prop):wO S dst out K=pG S dst out K:=by
 obtain⟨v,rows⟩:=out;obtain⟨St,Sh,Sn⟩:=S;cases dst with
 | none =>
  cases rows with
  | nil=>rfl
  | cons r rs=>simp only[wO,pG];rw[U5,iL]
 | some d =>
  simp only[wO,pG];rw[cX,Cv,rh,QI];cases rows with
  | nil=>rfl
  | cons r rs=>simp only[];rw[U5,iL]
def JJ(P:Program)(dst:Option Nat)(op:Op)(g:Operand->AV)(r:Nat->Row)(K:Out->List Nat->Prop):Prop :=
 match op with
 | .call c=>match c.callee with
  | .value f=>match g f with
   | .fn (.func h) first A6=>match F9 (first++c.args.toList.map g++A6)with
    | true=>gL (first++c.args.toList.map g++A6) fun ar=>∃ v,PC P h ar v/\K ⟨v,[]⟩ []
    | false=>gL ((first++c.args.toList.map g++A6).map (D6 4 r)) fun ar=>∃ v,PC P h ar v/\match v.flat with
     | true=>K ⟨v,[]⟩ ((first++c.args.toList.map g++A6).flatMap (M3 4 r))
     | false=>False
   | _=>False
  | _=>fk P dst (.call c) g r K
 | op=>fk P dst op g r K
theorem CH(P:Program)(dst:Option Nat)(op:Op)(g:Operand->AV)(r:Nat->Row)(K:Out->List Nat->Prop):JJ P dst op g r K=fk P dst op g r K:=by
 unfold JJ;split
 ·rename_i c;split
  ·rename_i f hf;unfold fk;simp only[hf];unfold k7;simp only[hf];split
   ·rename_i h first A6 hg
    simp only[hg,JI,aZ];rfl
   ·rename_i hg;split
    ·rename_i h first A6 Qc
     exact absurd Qc (hg _ _ _)
    ·rfl
  ·rfl
 ·rfl
def QJ(P:Program)(o:Oper)(g:Operand->AV)(r:Nat->Row)(K:Out->List Nat->Prop):Prop :=
 match Jj P o g with
 | true=>JJ P o.dst o.op g r K∨Jk P (dQ P o) o.dst o.op g r K
 | false=>match dQ P o with
  | true=>JJ P o.dst o.op g r K∨Ji P o.dst o.op g K
  | false=>JJ P o.dst o.op g r K
theorem Nn(P:Program)(o:Oper)(g:Operand->AV)(r:Nat->Row)(K:Out->List Nat->Prop):QJ P o g r K=Gd P o g r K:=by
 unfold QJ Gd;simp only[CH];rfl
def JK(P:Program)(c:Call)(f:Operand)(S:St)(K:St->Out->Prop):Prop :=
 ∃ frz news:List Nat,news.all (A8 S)=true/\gY ((S.frz frz).kills news) fun S=>match S.get f with
  | .fn (.func h) first A6=>∃ (ids:List Nat) (N4:List AV) (ins n7:List Row) (res:AV),
    (PW P h N4 ins res n7/\first++c.args.toList.map S.get++A6=aX ids N4/\ids.map S.row=ins.map (C1 ids)/\wB ids news N4 ins n7 res=true) /\
    K S ⟨res.ren (ids++news),(ids++news).zip (n7.map (C1 (ids++news)))⟩
  | _=>False
theorem wQ(P:Program)(c:Call)(f:Operand)(S:St)(K:St->Out->Prop):JK P c f S K=SL P c f S K:=by
 unfold JK SL;simp only[M6,B5];rfl
def QK(P:Program)(o:Oper)(S:St)(K:St->Out->Prop):Prop :=
 match o.op with
 | .makeFunc f xs ys=>match (xs.toList.map S.get++ys.toList.map S.get).flatMap (M3 4 S.row)with
  | []=>K S ⟨.fn f (xs.toList.map S.get) (ys.toList.map S.get),[]⟩
  | i :: l=>gY (S.freeze (gW (i :: l))) fun S=>K S ⟨.fn f (xs.toList.map S.get) (ys.toList.map S.get),[]⟩
 | .call c=>match c.callee with
  | .value f=>match S.get f with
   | .fn (.func _) first A6=>(match F9 (first++c.args.toList.map S.get++A6)with
    | true=>JJ P o.dst (.call c) S.get S.row fun out _=>K S out
    | false=>∃ frz:Bool,match frz with
     | false=>JJ P o.dst (.call c) S.get S.row fun out _=>K S out
     | true=>gY (S.freeze (gW ((first++c.args.toList.map S.get++A6).flatMap (M3 4 S.row)))) fun S=>JJ P o.dst (.call c) S.get S.row fun out _=>K S out)∨JK P c f S K
   | _=>qN P o S K
  | _=>qN P o S K
 | _=>qN P o S K
theorem No(P:Program)(o:Oper)(S:St)(K:St->Out->Prop):QK P o S K=qN P o S K:=by
 unfold QK;split
 ·rename_i f xs ys h;unfold qN;simp only[h,M6,B5];rfl
 ·rename_i c h;split
  ·rename_i f hf;split
   ·rename_i x first A6 hg
    unfold qN;simp only[h,hf,hg];simp only[CH,M6,B5,wQ];rfl
   ·rfl
  ·rfl
 ·rfl
def QL(P:Program)(o:Oper)(K:St->Out->Prop)(S:St):Prop :=
 match o.op with
 | .call c=>match c.callee with
  | .value f=>JK P c f S K
  | _=>False
 | _=>False
theorem Np(P:Program)(o:Oper)(K:St->Out->Prop):QL P o K=Vj P o K:=by
 funext S
 unfold QL Vj;simp only[wQ];rfl
def EA(P:Program)(o:Oper)(S:St)(K:St->Out->Prop):Prop:=Vg gY P o S K (QL P o K) (QK P o S K)
theorem JL(P:Program)(o:Oper)(S:St)(K:St->Out->Prop):EA P o S K=zi P o S K:=by
 have e:gY=iD:=funext fun S=>funext fun K=>by rw[M6,B5]
 unfold EA zi;rw[e,Np,No]
def JM(P:Program)(o:Oper)(S:St)(K:St->Out->Prop):Prop :=
 match TX o.op with
 | true=>gY (unN o S) fun S=>EA P o S K
 | false=>EA P o S K
theorem Nq(P:Program)(o:Oper)(S:St)(K:St->Out->Prop):JM P o S K=Cu P o S K:=by
 unfold JM Cu;simp only[JL,M6,B5];rfl
def QM(P:Program)(o:Oper)(S:St)(K:St->Out->Prop):Prop :=
 match X1 o.op with
 | true=>match o.dst with
  | some d=>match A8 S d with
   | true=>gY (S.kill d) fun S=>JM P o S K
   | false=>False
  | none=>JM P o S K
 | false=>JM P o S K
theorem Nr(P:Program)(o:Oper)(S:St)(K:St->Out->Prop):QM P o S K=TY P o S K:=by
 unfold QM TY;simp only[Nq,M6,B5];rfl
def rj(P:Program)(all:List Oper)(o:Oper)(ih:Nat->St->(St->Prop)->Prop)(k:Nat)(S:St)(K:St->Prop):Prop :=
 match gw all.toArray S o with
 | some true=>QM P o S fun S out=>bQ (uA all k) out fun out=>wO S o.dst out fun S=>ih (k+1) S K
 | some false=>wO S o.dst ⟨.tup [],[]⟩ fun S=>ih (k+1) S K
 | none=>False
def QN(P:Program)(all l:List Oper)(k:Nat)(S:St)(K:St->Prop):Prop :=
 List.rec (motive:=fun _=>Nat->St->(St->Prop)->Prop) (fun _ S K=>K S) (fun o _ ih=>rj P all o ih) l k S K
theorem EB(P:Program)(all:List Oper):∀ (l:List Oper) (k:Nat) (S:St) (K:St->Prop),QN P all l k S K=Cw P all l k S K
 | [],_,_,_=>rfl
 | o :: l,k,S,K=>by
  show rj P all o (fun k S K=>QN P all l k S K) k S K=_
  unfold rj Cw;simp only[EB P all l,Nr,wP];rfl
def rk(P:Program)(all:List Oper)(o:Oper)(ih:Nat->St->List (List Nat×List Nat)->(St->Prop)->Prop)(k:Nat)(S:St)(cI:List (List Nat×List Nat))(K:St->Prop):Prop :=
 match gw all.toArray S o with
 | some true=>QJ P o S.get S.row fun out rd=>bQ (uA all k) out fun out=>wO S o.dst out fun S=>ih (k+1) S (cI++[(rd,out.rows.map (·.1))]) K
 | some false=>wO S o.dst ⟨.tup [],[]⟩ fun S=>ih (k+1) S (cI++[([],[])]) K
 | none=>False
def Ns(P:Program)(all l:List Oper)(k:Nat)(S:St)(cI:List (List Nat×List Nat))(K:St->Prop):Prop :=
 List.rec (motive:=fun _=>Nat->St->List (List Nat×List Nat)->(St->Prop)->Prop) (fun _ S cI K=>zg all cI=true/\K S) (fun o _ ih=>rk P all o ih) l k S cI K
theorem wR(P:Program)(all:List Oper):∀ (l:List Oper) (k:Nat) (S:St) (cI:List (List Nat×List Nat)) (K:St->Prop),Ns P all l k S cI K=gj P all l k S cI K
 | [],_,_,_,_=>rfl
 | o :: l,k,S,cI,K=>by
  show rk P all o (fun k S cI K=>Ns P all l k S cI K) k S cI K=_
  unfold rk gj;simp only[wR P all l,Nn,wP];rfl
def zp(ds:List Nat)(S0:St)(ws bs:List Nat)(vs:List (Nat×VT))(S:St)(K:List AV->List Row->List Row->Prop):Prop :=
 gY (canonV vs S) fun S=>gL (ws.map fun i=>S.t.getD i .any) fun P9=>ri (bs.map S.row) fun E9=>ri (vs.map fun v=>S.row v.1) fun I0 =>
  K P9 E9 I0/\jY (M5 ds S0 ws bs vs P9 E9 I0).t S.t=some (M5 ds S0 ws bs vs P9 E9 I0).t /\
   gV (M5 ds S0 ws bs vs P9 E9 I0).h S.h=some (M5 ds S0 ws bs vs P9 E9 I0).h
theorem rn(ds:List Nat)(S0:St)(ws bs:List Nat)(vs:List (Nat×VT))(S:St)(K:List AV->List Row->List Row->Prop):zp ds S0 ws bs vs S K=gp ds S0 ws bs vs S K:=by
 unfold zp gp;simp only[M6,B5,JI,aZ,iL,U5]
def QO(f:St->(Ex->St->Prop)->Prop)(n:Nat)(S:St)(Q:Ex->St->Prop):Prop :=
 Nat.rec (motive:=fun _=>St->(Ex->St->Prop)->Prop) (fun _ _=>False) (fun _ ih S Q=>f S fun e S=>match e with
  | .norm=>ih S Q
  | e=>Q e S) n S Q
theorem wS(f:St->(Ex->St->Prop)->Prop):∀ (n:Nat) (S:St) (Q:Ex->St->Prop),QO f n S Q=Nb f n S Q
 | 0,_,_=>rfl
 | n+1,S,Q=>by
  show f S (fun e S=>match e with
   | .norm=>QO f n S Q
   | e=>Q e S)=_
  unfold Nb
  congr 1
  funext e S
  cases e
  ·exact wS f n S Q
  ·rfl
  ·rfl
abbrev GX:=St->(Ex->St->Prop)->Prop
def wT(P:Program)(ops:Array Oper)(draw:Bool)(S:St)(Q:Ex->St->Prop):Prop :=
 match draw with
 | false=>QN P ops.toList ops.toList 0 S fun S=>gY S (Q .norm)
 | true=>gY (preF P S ops.toList) fun S=>(uB P ops && (cB P ops.toList).all (A8 S) && jn ops.toList)=true/\gY (S.kills (cB P ops.toList)) fun S=>Ns P ops.toList ops.toList 0 S [] fun S=>gY S (Q .norm)
def Nt(a b:GX)(S:St)(Q:Ex->St->Prop):Prop:=a S fun e S=>match e with
 | .norm=>b S Q
 | e=>Q e S
def EC(c:Operand)(a b:GX)(S:St)(Q:Ex->St->Prop):Prop :=
 match S.get c with
 | .tt=>a S Q
 | .ff=>b S Q
 | .bool x=>(x=true->a S Q)/\(x=false->b S Q)
 | _=>False
def wU(id:Nat)(c:GX)(S:St)(Q:Ex->St->Prop):Prop:=c S fun e S=>match e with
 | .exit i=>match Nat.beq i id with
  | true=>Q .norm S
  | false=>Q (.exit i) S
 | e=>Q e S
def uI(c:Code)(f:GX)(S:St)(Q:Ex->St->Prop):Prop :=
 (∃ n,QO f n S Q) ∨
  ∃ (ι:Type) (ws bs:List Nat) (vs:List (Nat×VT)) (V:ι->List AV) (BR VR:ι->List Row) (μ:ι->Nat) (I:ι->Prop),Vt (Z9 c) fun ds=>gY (canonV vs S) fun S0 =>
   (∃ i,zp ds S0 ws bs vs S fun P9 E9 I0=>I i/\P9=V i/\E9=BR i/\I0=VR i) /\
   ∀ i,I i->gY (M5 ds S0 ws bs vs (V i) (BR i) (VR i)) fun S1=>f S1 fun e S2=>match e with
    | .norm=>∃ i',zp ds S0 ws bs vs S2 fun P9 E9 I0=>(μ i' < μ i/\I i')/\P9=V i'/\E9=BR i'/\I0=VR i'
    | e=>Q e S2
def CI(P:Program)(g:Operand)(ps:Array Tmp)(dsA dsB:List Nat)(fa fb:GX)(S:St)(Q:Ex->St->Prop):Prop :=
 match S.n with
 | .round _=>False
 | .iter=>False
 | .plain=>match S.get g with
  | .fn (.func gf) [] A6=>F9 A6=true /\
   ∃ (xs:List (List AV)) (bs:List Nat) (BR:Nat->List Row) (I:Nat->Prop),(SQ P gf A6 xs/\∀ x ∈ xs,ow x=true/\x.length=ps.size) /\
    Vt (ps.toList++(dsA++dsB)) fun ds=>ds.all (A8 S)=true /\
     (zp ds S [] bs [] S fun P9 E9 I0=>I 0/\P9=[]/\E9=BR 0/\I0=[]) /\
     (∀ k x,I k->xs[k]? = some x->gY ((M5 ds S [] bs [] [] (BR k) []).kills ds) fun S1=>gY ⟨dR S1.t ps.toList x,S1.h,.round ds⟩ fun S2 =>
      fa S2 fun e S3=>match e with
       | .norm=>fb S3 fun e S4=>match e with
        | .norm=>ri (bs.map S4.row) fun E9=>(I (k+1)/\E9=BR (k+1))/\gV ((M5 ds S [] bs [] [] E9 []).kills ds).h S4.h=some ((M5 ds S [] bs [] [] E9 []).kills ds).h
        | e=>Q e ⟨S1.t,S4.h,.plain⟩
       | _=>False) /\
     (I xs.length->gY ((M5 ds S [] bs [] [] (BR xs.length) []).kills ds) (Q .norm))
  | _=>False
def Gt(P:Program)(c:Code):GX :=
 Code.rec (motive:=fun _=>GX)
  (fun S Q=>Q .norm S)
  (fun _ ops draw=>wT P ops draw)
  (fun _ _ ia ib=>Nt ia ib)
  (fun c _ _ ia ib=>EC c ia ib)
  (fun id _ ic=>wU id ic)
  (fun c ic=>uI c ic)
  (fun g ps assign body ia ib=>CI P g ps (Z9 assign) (Z9 body) ia ib)
  (fun id S Q=>Q (.exit id) S)
  (fun _ ic S Q=>ic S Q)
  (fun _ S Q=>Q .norm S)
  (fun _ _ _=>False)
  (fun S Q=>Q .ret S)
  (fun _ _ _=>False) c
theorem cD(P:Program):∀ (c:Code),Gt P c=ex P c
 | .skip=>by funext S Q;simp only[ex];rfl
 | .region id ops draw=>by
  funext S Q
  show wT P ops draw S Q=_
  unfold wT ex;cases draw
  ·simp only[EB,M6,B5]
  ·simp only[wR,M6,B5]
 | .seq a b=>by
  funext S Q
  show Nt (Gt P a) (Gt P b) S Q=_
  rw[cD P a,cD P b];simp only[ex];rfl
 | .cond c a b=>by
  funext S Q
  show EC c (Gt P a) (Gt P b) S Q=_
  rw[cD P a,cD P b];simp only[ex];rfl
 | .block id c=>by
  funext S Q
  show wU id (Gt P c) S Q=_
  rw[cD P c];simp only[ex];rfl
 | .loop c=>by
  funext S Q
  show uI c (Gt P c) S Q=_
  rw[cD P c];simp only[ex];unfold uI;simp only[wS,CG,kE,M6,B5,rn];rfl
 | .rangeFunc g ps assign body=>by
  funext S Q
  show CI P g ps (Z9 assign) (Z9 body) (Gt P assign) (Gt P body) S Q=_
  rw[cD P assign,cD P body];simp only[ex];unfold CI;simp only[CG,kE,M6,B5,rn,iL,U5];rfl
 | .exit id=>by funext S Q;simp only[ex];rfl
 | .scope c=>by
  funext S Q
  show Gt P c S Q=_
  rw[cD P c];simp only[ex]
 | .label l=>by funext S Q;simp only[ex];rfl
 | .goto l=>by funext S Q;simp only[ex];rfl
 | .ret=>by funext S Q;simp only[ex];rfl
 | .refuse w=>by funext S Q;simp only[ex];rfl
def ED(P:Program)(fn:Func)(args:List AV)(res:AV):Prop :=
 match fn.body with
 | none=>False
 | some c=>gY ⟨args++List.replicate (fn.ntmps-args.length) .any,List.replicate fn.ntmps .none,.plain⟩ fun S=>Gt P c S fun e S=>match e with
  | .exit _=>False
  | _=>match cJ P S fn.results.toList with
   | some l=>SV (dS l).fin fun v=>v=res
   | none=>False
theorem JN(P:Program)(fn:Func)(args:List AV)(res:AV):ED P fn args res=body P fn args res:=by
 unfold ED body;simp only[cD,M6,B5,rh,cX];rfl
theorem zq{P:Program}(hm:P.follows .mixedOrders=true){f:FuncId}{fn:Func}{args:List AV}{res:AV}(hf:P.funcs[f]? = some fn)(J8:(fn.name == "runtime.NumGoroutine")=false) (h:ED P fn args res):PC P f args res :=
 qX hm hf J8 (by rw[<- JN];exact h)
def wV(P:Program)(fn:Func)(args:List AV)(ins:List Row)(res:AV)(n7:List Row):Prop :=
 match fn.body with
 | none=>False
 | some c=>(Z0 ins.length args && ins.all (fun r=>E4 ins.length r && r.live) && Nat.ble args.length fn.ntmps)=true /\
  gY ⟨aX (List.range' fn.ntmps ins.length) args++List.replicate (fn.ntmps-args.length) .any,List.replicate fn.ntmps .none++ins.map (C1 (List.range' fn.ntmps ins.length)),.plain⟩ fun S=>Gt P c S fun e S=>match e with
  | .exit _=>False
  | _=>match bh P S fn.results.toList with
   | some l=>∃ news:List Nat,(di (List.range' fn.ntmps ins.length++news) && Nat.beq n7.length (List.range' fn.ntmps ins.length++news).length && res.under n7.length && n7.all (E4 n7.length))=true /\
     SV (dS l).fin fun v=>v=res.ren (List.range' fn.ntmps ins.length++news)/\(List.range' fn.ntmps ins.length++news).map S.row=n7.map (C1 (List.range' fn.ntmps ins.length++news))
   | none=>False
theorem Gu(P:Program)(fn:Func)(args:List AV)(ins:List Row)(res:AV)(n7:List Row):wV P fn args ins res n7=Eo P fn args ins res n7:=by
 unfold wV Eo;simp only[cD,M6,B5,rh,cX];rfl
theorem zr{P:Program}(hm:P.follows .mixedOrders=true){f:FuncId}{fn:Func}{args:List AV}{ins n7:List Row}{res:AV}(hf:P.funcs[f]? = some fn)(J8:(fn.name == "runtime.NumGoroutine")=false) (h:wV P fn args ins res n7):PW P f args ins res n7 :=
 CC hm hf J8 (by rw[<- Gu];exact h)
def CJ(P:Program)(fn:Func)(A6:List AV)(xs:List (List AV)):Prop :=
 match fn.body with
 | none=>False
 | some c=>Nat.ble (A6.length+1) fn.ntmps=true/\∀ l:Nat,gY ⟨(.fn (.yield l) [] [] :: A6)++List.replicate (fn.ntmps-(A6.length+1)) .any,List.replicate fn.ntmps .none++[.ctr l xs 0 false],.iter⟩ fun S=>Gt P c S fun e S=>match e with
  | .exit _=>False
  | _=>match cJ P S fn.results.toList with
   | some _=>match S.row S.t.length with
    | .ctr _ _ k e'=>e'=false->k=xs.length
    | _=>False
   | none=>False
theorem Gv(P:Program)(fn:Func)(A6:List AV)(xs:List (List AV)):CJ P fn A6 xs=Ep P fn A6 xs:=by
 unfold CJ Ep;simp only[cD,M6,B5];rfl
theorem oU{P:Program}(hm:P.follows .mixedOrders=true){f:FuncId}{fn:Func}{A6:List AV}{xs:List (List AV)}(hf:P.funcs[f]? = some fn)(J8:(fn.name == "runtime.NumGoroutine")=false) (h:CJ P fn A6 xs):SQ P f A6 xs :=
 CD hm hf J8 (by rw[<- Gv];exact h)
/- Many slots given up at once. A helper text: it speaks of no program. -/
def fx(x:AV):List Nat->Bool
 | []=>false
 | d :: l=>match x.names d with
  | true=>true
  | false=>fx x l
def AV.plain1:AV->Bool
 | .ptr _ _ _ _=>false
 | .own _=>false
 | .mem _ _=>false
 | .mptr _ _ _=>false
 | .agg _=>false
 | .tup _=>false
 | .fn _ _ _=>false
 | _=>true
def O9(ds:List Nat)(x:AV):AV:=match x.plain1 with
 | true=>x
 | false=>match fx x ds with
  | true => .any
  | false=>x
theorem wW{x:AV}(h:x.plain1=true)(d:Nat):x.names d=false:=by
 cases x<;>simp[AV.plain1]at h<;>rfl
theorem rq{x:AV}(h:x.plain1=true):∀ ds,fx x ds=false
 | []=>rfl
 | d :: l=>by simp only[fx];rw[wW h d];exact rq h l
theorem kI(ds:List Nat)(x:AV):O9 ds x=match fx x ds with
  | true => .any
  | false=>x:=by
 unfold O9;cases h:x.plain1 with
 | false=>rfl
 | true=>rw[rq h ds]
theorem zt(ds:List Nat):O9 ds .any = .any:=rfl
theorem gB(d:Nat)(l:List Nat)(x:AV):O9 l (F7 d x)=O9 (d :: l) x:=by
 rw[kI (d :: l) x];unfold F7;simp only[fx];cases h:x.names d with
 | true=>exact zt l
 | false=>exact kI l x
def Q3(ds:List Nat):Row->Row
 | .none => .none
 | .cells ty cs => .cells ty (cs.map (O9 ds))
 | .lit ty sz D5 => .lit ty sz (D5.map fun cs=>cs.map (O9 ds))
 | .vec ty sz e enc l => .vec ty sz e enc l
 | .ctr l xs k e => .ctr l xs k e
 | .nest ty sz j0 M8 e enc ys ho l => .nest ty sz j0 M8 e enc ys ho l
theorem tG(d:Nat)(l:List Nat)(r:Row):Q3 l (B1 d r)=Q3 (d :: l) r:=by
 cases r<;>simp only[Q3,B1,List.map_map,Row.cells.injEq,Row.lit.injEq,true_and]
 ·refine List.map_congr_left fun x _=>?_
  exact gB d l x
 ·refine List.map_congr_left fun x _=>?_
  simp only[Function.comp,List.map_map];refine List.map_congr_left fun y _=>?_
  exact gB d l y
def kJ:List Nat->List Row->List Row
 | [],h=>h
 | d :: l,h=>kJ l (h.set d .none)
theorem oV(x:AV):O9 [] x=x:=by
 rw[kI];rfl
theorem wX(r:Row):Q3 [] r=r:=by
 have e:O9 []=id:=funext oV;cases r<;>simp[Q3,e]
theorem zu:∀ (l:List Nat) (S:St),S.kills l=⟨S.t.map (O9 l),kJ l (S.h.map (Q3 l)),S.n⟩
 | [],S=>by
  have e:O9 []=id:=funext oV;have e2:Q3 []=id:=funext wX;simp only[St.kills,kJ];rw[e,e2,List.map_id,List.map_id]
 | d :: l,S=>by
  simp only[St.kills];rw[zu l];simp only[St.kill,List.map_map];have e:O9 l ∘ F7 d=O9 (d :: l):=funext fun x=>gB d l x
  have e2:Q3 l ∘ B1 d=Q3 (d :: l):=funext fun x=>tG d l x
  rw[e,List.map_set,List.map_map,e2];rfl
def nq(i:Nat):List Nat->Bool
 | []=>false
 | d :: l=>match Nat.beq d i with
  | true=>true
  | false=>nq i l
def jo(ds:List Nat)(i:Nat):Row->Row
 | .none => .none
 | .cells ty cs=>match nq i ds with
  | true => .none
  | false => .cells ty (cs.map (O9 ds))
 | r=>match nq i ds with
  | true => .none
  | false=>Q3 ds r
def lU(ds:List Nat):Nat->List Row->List Row
 | _,[]=>[]
 | i,r :: h=>jo ds i r :: lU ds (i+1) h
theorem wY(ds:List Nat)(i:Nat)(r:Row):jo ds i r=if nq i ds=true then .none else Q3 ds r:=by
 cases r<;>simp only[jo,Q3]<;>cases nq i ds<;>simp
theorem uJ(i d:Nat)(l:List Nat):nq i (d :: l)=(Nat.beq d i || nq i l):=by
 simp only[nq];cases Nat.beq d i<;>rfl
theorem ru:∀ (l:List Nat) (h:List Row) (j:Nat),(kJ l h)[j]? = (h[j]?).map fun r=>if nq j l=true then .none else r
 | [],h,j=>by simp[kJ,nq]
 | d :: l,h,j=>by
  simp only[kJ];rw[ru l,List.getElem?_set];by_cases e:d=j
  ·subst e;by_cases hl:d<h.length
   ·have hb:nq d (d :: l)=true:=by rw[uJ];simp
    simp[hl,hb]
   ·simp[hl]
  ·have hb:nq j (d :: l)=nq j l:=by
    rw[uJ];have:Nat.beq d j=false:=by
     cases hx:Nat.beq d j with
     | false=>rfl
     | true=>exact absurd (zA8 hx) e
    rw[this];rfl
   rw[hb,if_neg e]
theorem uK(ds:List Nat):∀ (h:List Row) (i j:Nat),(lU ds i h)[j]? = (h[j]?).map (jo ds (i+j))
 | [],i,j=>by simp[lU]
 | r :: h,i,0=>by simp[lU]
 | r :: h,i,j+1=>by
  simp only[lU,List.getElem?_cons_succ];rw[uK ds h,show i+1+j=i+(j+1)by omega]
theorem JO(l:List Nat)(h:List Row):kJ l (h.map (Q3 l))=lU l 0 h:=by
 refine List.ext_getElem? fun j=>?_
 rw[ru,uK,List.getElem?_map];cases h[j]? with
 | none=>rfl
 | some r=>simp only[Option.map_some,Nat.zero_add];rw[wY]
/- Many slots given up at once, for the executor by recursors. A helper text: it speaks of no program. -/
theorem JP{l:List Nat}{S:St}{K:St->Prop}(h:gY S fun S=>gY ⟨S.t.map (O9 l),lU l 0 S.h,S.n⟩ K):gY (S.kills l) K:=by
 rw[M6,M6]at h;rw[M6,zu,JO];exact h
theorem uL{xs:List (List AV)}{I:Nat->Prop}{A:Nat->St}{ds:List Nat}{K:Nat->List AV->St->Prop}{m:Nat}{f:Nat->List AV}(hx:∀ k x,xs[k]? = some x->k<m/\x=f k)
  (h:∀ k,k<m->I k->gY (A k) fun S=>gY ⟨S.t.map (O9 ds),lU ds 0 S.h,S.n⟩ (K k (f k))):∀ k x,I k->xs[k]? = some x->gY ((A k).kills ds) (K k x):=by
 intro k x hk hxk;obtain⟨h1,rfl⟩:=hx k x hxk;exact JP (h k h1 hk)
theorem zw{R:Prop}{l:List Nat}{S:St}{K:St->Prop}(h:R->gY S fun S=>gY ⟨S.t.map (O9 l),lU l 0 S.h,S.n⟩ K):R->gY (S.kills l) K:=fun r=>JP (h r)

end Go.Ev
