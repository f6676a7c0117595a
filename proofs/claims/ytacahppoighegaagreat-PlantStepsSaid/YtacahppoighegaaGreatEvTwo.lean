/- Helper lemmas. -/
import Derived.Test.YtacahppoighegaaGreatEvOne
set_option linter.unusedVariables false
set_option linter.unusedSimpArgs false
/- Each operation does what its abstract twin says (second part). A helper text: it speaks of no program. -/
namespace Go.Ev
section
variable {P:Program}{B:Nat->Prop}{w0:World}{F0:Env P}{S:St}{β:Nat->Option Hd}{F:Nat->Prop}{a:Act}{w:World}
def z7(B:Nat->Prop)(w0:World)(F0:Env P)(S:St)(β:Nat->Option Hd)(dst:Option Nat)(K:Out->List Nat->Prop)(a':Act)(w':World):Prop :=
 ∃ out rd,K out rd/\∃ β' F',(∀ j,dst≠some j->β' j=β j)/\Rel B w0 F0 (S.put dst out) β' F' a' w'
theorem fV{o:Oper}{v:Value}{w':World}{next:Act->World->Prop}{Q:Exit->Act->World->Prop}(h:(execOp a.eval o).run P w = .ok (.value v) w')(hn:next (a.put o.dst v) w'):o.wp P a w next Q:=by
 unfold Oper.wp;rw[h];exact hn
theorem z7.still(hR:Rel B w0 F0 S β F a w){dst:Option Nat}{K:Out->List Nat->Prop}{x:AV}{v:Value}{rd:List Nat}(hv:C4 β F w x v)(hK:K ⟨x,[]⟩ rd):z7 B w0 F0 S β dst K (a.put dst v) w :=
 ⟨_,rd,hK,β,F,fun _ _=>rfl,hR.still hv⟩
theorem HT{op:BinOp}{lit:Bool}{k k':IntKind}{x y:Int}{K:AV->Prop}(t:TypeId)(xo yo:Operand)(h:wT op lit k x k' y K) :
  ∃ r v,(do eqGuard op t xo yo (.int k x) (.int k' y);binOp op t (.int k x) (.int k' y):Sem Value).run P w = .ok v w/\C4 β F w r v/\K r:=by
 have hg:(eqGuard op t xo yo (.int k x) (.int k' y)).run P w = .ok () w:=by cases op<;>simp[eqGuard]
 simp only[Sem.run_bind,hg,Result.andThen_ok];cases op
 case shl =>
  obtain⟨h0,hK⟩:=(D4 _ _ _).1 h;refine⟨_,_,?_,.imm (.int _ _),hK⟩;simp[binOp,Op.shift,show ¬ y<0 by omega]
 case shr =>
  obtain⟨h0,hK⟩:=(D4 _ _ _).1 h;refine⟨_,_,?_,.imm (.int _ _),hK⟩;simp[binOp,Op.shift,show ¬ y<0 by omega]
 all_goals
  simp only[wT]at h;obtain rfl:k=k':=by
   by_cases hk:k=k'
   ·exact hk
   ·simp[hk]at h
  simp only[decide_true]at h
 case quo =>
  obtain⟨h0,hK⟩:=(D4 _ _ _).1 h;exact⟨_,_,by simp[binOp,Op.intDiv,h0],.imm (.int _ _),hK⟩
 case rem =>
  obtain⟨h0,hK⟩:=(D4 _ _ _).1 h;exact⟨_,_,by simp[binOp,Op.intDiv,h0],.imm (.int _ _),hK⟩
 case and=>exact⟨_,_,by simp[binOp,intBits_and],.imm (.int _ _),h⟩
 case or=>exact⟨_,_,by simp[binOp,intBits_or],.imm (.int _ _),h⟩
 case xor=>exact⟨_,_,by simp[binOp,intBits_xor],.imm (.int _ _),h⟩
 case andNot=>exact⟨_,_,by simp[binOp,intBits_andNot],.imm (.int _ _),h⟩
 case eql =>
  refine⟨_,_,by simp[binOp,Op.intCmp];rfl,?_,h⟩;exact .imm (.bool _)
 case neq =>
  refine⟨_,_,by simp[binOp,Op.intCmp];rfl,?_,h⟩;exact .imm (.bool _)
 all_goals exact⟨_,_,by simp[binOp,Op.intCmp,Op.intArith];rfl,.imm (by constructor),h⟩
theorem H6(op:BinOp)(t:TypeId)(xo yo:Operand){x y:Value}(h1:∀ xs ys,x = .agg xs->y = .agg ys->False)(h2:x = .nilIface->y = .nilIface->False) :
  (eqGuard op t xo yo x y).run P w = .ok () w:=by
 cases x<;>cases y<;>first|exact(h1 _ _ rfl rfl).elim|exact(h2 rfl rfl).elim|(cases op<;>simp[eqGuard])
theorem X3:∀ {ks:List Bool} {l m:List AV} {b:Bool},H5 ks l m=some b->l.length=ks.length/\m.length=ks.length
 | [],[],[],_,_=>⟨rfl,rfl⟩
 | k :: ks,a :: l,c :: m,b,h=>by
  simp only[H5]at h;cases h1:fR k a c with
  | none=>simp[h1]at h
  | some x =>
   cases h2:H5 ks l m with
   | none=>simp[h1,h2]at h
   | some y=>obtain⟨e1,e2⟩:=X3 h2;simp[e1,e2]
 | [],_ :: _,_,_,h=>by simp[H5]at h
 | [],[],_ :: _,_,h=>by simp[H5]at h
 | _ :: _,[],_,_,h=>by simp[H5]at h
 | _ :: _,_ :: _,[],_,h=>by simp[H5]at h
theorem jJ:∀ {ks ls:List Bool} {l m:List AV} {b:Bool},H5 (ks++ls) l m=some b->∃ x y,H5 ks (l.take ks.length) (m.take ks.length)=some x/\H5 ls (l.drop ks.length) (m.drop ks.length)=some y/\b=(x && y)
 | [],ls,l,m,b,h=>⟨true,b,rfl,by simpa using h,by simp⟩
 | k :: ks,ls,a :: l,c :: m,b,h=>by
  simp only[List.cons_append,H5,zB2,List.take_succ_cons,List.drop_succ_cons]at h ⊢;cases h1:fR k a c with
  | none=>simp[h1]at h
  | some x =>
   cases h2:H5 (ks++ls) l m with
   | none=>simp[h1,h2]at h
   | some y =>
    simp only[h1,h2,Option.some.injEq]at h;obtain⟨x',y',e1,e2,e3⟩:=jJ h2;refine⟨x && x',y',by simp[e1],e2,?_⟩;rw[<- h,e3,Bool.and_assoc]
 | _ :: _,_,[],_,_,h=>by simp[H5]at h
 | _ :: _,_,_ :: _,[],_,h=>by simp[H5]at h
theorem sG{x y:AV}{v u:Value}{b:Bool}(hx:C4 β F w x v)(hy:C4 β F w y u)(h:fR true x y=some b):∃ k p q,v = .int k p/\u = .int k q/\b=(p == q):=by
 cases x<;>cases y<;>simp only[fR,reduceCtorEq]at h
 case int.int k p k' q =>
  by_cases hk:k=k'
  ·subst hk;simp at h;exact⟨k,p,q,hx.int_inv,hy.int_inv,by rw[<- h];rfl⟩
  ·simp[hk]at h
theorem Bn{x y:AV}{v u:Value}{b:Bool}(hx:C4 β F w x v)(hy:C4 β F w y u)(h:fR false x y=some b):∃ p q:Bool,v = .bool p/\u = .bool q/\b=(p == q):=by
 cases x<;>cases y<;>simp only[fR,reduceCtorEq,Option.some.injEq]at h<;>subst h
 all_goals
  first
   | exact⟨_,_,hx.tt_inv,hy.tt_inv,by simp⟩
   | exact⟨_,_,hx.tt_inv,hy.ff_inv,by simp⟩
   | exact⟨_,_,hx.ff_inv,hy.tt_inv,by simp⟩
   | exact⟨_,_,hx.ff_inv,hy.ff_inv,by simp⟩
   | exact⟨_,_,hx.tt_inv,hy.bool_inv,by simp⟩
   | exact⟨_,_,hx.ff_inv,hy.bool_inv,by simp⟩
   | exact⟨_,_,hx.bool_inv,hy.tt_inv,by simp⟩
   | exact⟨_,_,hx.bool_inv,hy.ff_inv,by simp⟩
   | exact⟨_,_,hx.bool_inv,hy.bool_inv,by simp⟩
theorem Bo{xs:List AV}{off:Nat}(h:off<xs.length):(xs.drop off).take 1=[xs.getD off .any]:=by
 rw[List.drop_eq_getElem_cons h,List.take_succ_cons,List.take_zero];simp[h]
theorem qy{t:TypeId}{fs:Array Field}(h:P.underlying t=some (.struct fs)):P.fieldsOf t=fs:=by simp[Program.fieldsOf,h]
theorem Lo(n:Nat):(∀ t ks,bI P n t=some ks->∀ (xs ys:List AV) (vs us:Array Value) (off:Nat) (b:Bool) (d:Nat),n<=d ->
      jt (C4 β F w) xs vs->jt (C4 β F w) ys us->H5 ks ((xs.drop off).take ks.length) ((ys.drop off).take ks.length)=some b ->
      ks.length=P.cellsOf t/\∃ p q,(part t vs off).run P w = .ok p w/\(part t us off).run P w = .ok q w/\(Op.equalIn d t p q).run P w = .ok b w) /\
    (∀ (fs:List Field) (at_:Nat) ks,X2 P n fs at_=some ks->∀ (xs ys:List AV) (vs us:Array Value) (b:Bool) (d:Nat),n<=d ->
      jt (C4 β F w) xs vs->jt (C4 β F w) ys us->H5 ks ((xs.drop at_).take ks.length) ((ys.drop at_).take ks.length)=some b->(Op.eqFields d vs us fs).run P w = .ok b w):=by
  induction n with
  | zero=>exact⟨fun t ks h=>by simp[bI]at h,fun fs at_ ks h=>by simp[X2]at h⟩
  | succ n ih =>
    refine⟨fun t ks h xs ys vs us off b d hd hx hy hb=>?_,fun fs at_ ks h xs ys vs us b d hd hx hy hb=>?_⟩
    · obtain⟨d,rfl⟩:∃ e,d=e+1:=⟨d-1,va5⟩
      obtain⟨lI,Lp⟩:=X3 hb;simp only[zB1,List.length_drop]at lI Lp;have single:∀ k,ks=[k]->(∃ p q,(vs[off]? = some p)/\(us[off]? = some q)/\C4 β F w (xs.getD off .any) p/\C4 β F w (ys.getD off .any) q/\fR k (xs.getD off .any) (ys.getD off .any)=some b):=by
        intro k hk;subst hk;simp only[zB2,List.length_nil]at hb lI Lp;have SV:off<xs.length:=by omega
        have SW:off<ys.length:=by omega
        refine⟨vs.getD off undef,us.getD off undef,by simp[hx.1 ▸ SV],by simp[hy.1 ▸ SW],hx.2 off SV,hy.2 off SW,?_⟩;rw[Nat.zero_add,Bo SV,Bo SW]at hb;simp only[H5]at hb;cases hc:fR k (xs.getD off .any) (ys.getD off .any)with
        | none=>simp only[hc]at hb;cases hb
        | some z=>simp only[hc,Bool.and_true]at hb;rw[hb]
      unfold bI at h;cases hu:P.underlying t with
      | none=>simp[hu]at h
      | some td =>
        cases td<;>simp only[hu,reduceCtorEq]at h
        case int k =>
          cases hc:Nat.beq (P.cellsOf t) 1 with
          | false=>simp[hc]at h
          | true =>
            simp[hc]at h;obtain⟨p,q,h1,h2,h3,h4,h5⟩:=single _ h.symm;refine⟨by rw[<- h,zA8 hc];rfl,p,q,by simp[part,isAgg,run_underlying hu,h1],by simp[part,isAgg,run_underlying hu,h2],?_⟩;obtain⟨k',p',q',rfl,rfl,rfl⟩:=sG h3 h4 h5;exact run_equalIn_int w d t k' k p' q' hu
        case bool =>
          cases hc:Nat.beq (P.cellsOf t) 1 with
          | false=>simp[hc]at h
          | true =>
            simp[hc]at h;obtain⟨p,q,h1,h2,h3,h4,h5⟩:=single _ h.symm;refine⟨by rw[<- h,zA8 hc];rfl,p,q,by simp[part,isAgg,run_underlying hu,h1],by simp[part,isAgg,run_underlying hu,h2],?_⟩;obtain⟨p',q',rfl,rfl,rfl⟩:=Bn h3 h4 h5;exact run_equalIn_bool w d t p' q' hu
        case struct fs =>
          cases hp:P.stoodInHeld t with
          | true=>simp[hp]at h
          | false =>
            simp only[hp]at h;cases hf:X2 P n fs.toList 0 with
            | none=>simp[hf]at h
            | some ls =>
              simp only[hf]at h;cases hc:Nat.beq ls.length (P.cellsOf t)with
              | false=>simp[hc]at h
              | true =>
                simp only[hc,Option.some.injEq]at h;subst h;have hlen:=zA8 hc;obtain⟨i,hi⟩:=info_of_underlying hu;have G0:(sizeOf t).run P w = .ok ls.length w:=by rw[run_sizeOf w hi,hlen]
                refine⟨hlen,.agg (vs.extract off (off+ls.length)),.agg (us.extract off (off+ls.length)),by simp[part,isAgg,run_underlying hu,G0],by simp[part,isAgg,run_underlying hu,G0],?_⟩;rw[run_equalIn_struct w d t _ _ (by rw[qy hu];exact hu) hp,qy hu];have seg:∀ {zs:List AV} {ws:Array Value},jt (C4 β F w) zs ws->ls.length=min ls.length (zs.length-off)->jt (C4 β F w) ((zs.drop off).take ls.length) (ws.extract off (off+ls.length)):=by
                  intro zs ws hz hm;refine⟨by simp[<- hz.1];omega,fun i hi=>?_⟩;simp only[zB1,List.length_drop]at hi;have:=hz.2 (off+i) va5;have e1:((zs.drop off).take ls.length).getD i .any=zs.getD (off+i) .any:=by
                    simp[List.getD,List.getElem?_take,show i<ls.length by omega]
                  have e2:(ws.extract off (off+ls.length)).getD i undef=ws.getD (off+i) undef:=by
                    simp[Array.getD_eq_getD_getElem?,Array.getElem?_extract,<- hz.1];simp[show i<min (off+ls.length) zs.length-off by omega]
                  rw[e1,e2];exact this
                have Bp:=seg hx lI.symm;have ZK:=seg hy Lp.symm;exact ih.2 _ _ _ hf _ _ _ _ b d va5 Bp ZK (by simpa[List.take_take]using hb)
    · cases fs with
      | nil =>
        simp[X2]at h;subst h;simp[H5]at hb;subst hb;simp[Op.eqFields]
      | cons f fs =>
        simp only[X2]at h
        cases hc:((f.name != "_") && Nat.beq f.offset at_)with
        | false=>simp[hc]at h
        | true =>
          simp only[hc]at h;simp at hc;obtain⟨hn,ho⟩:=hc;cases h1:bI P n f.type with
          | none=>simp[h1]at h
          | some k1 =>
            simp only[h1]at h;cases h2:X2 P n fs (at_+k1.length)with
            | none=>simp[h2]at h
            | some k2 =>
              simp only[h2,Option.some.injEq]at h;subst h;obtain⟨x,y,e1,e2,e3⟩:=jJ hb;simp only[List.length_append,List.take_take,List.drop_take,List.drop_drop]at e1 e2;rw[show min k1.length (k1.length+k2.length)=k1.length by omega]at e1;rw[show k1.length+k2.length-k1.length=k2.length by omega]at e2;obtain⟨_,p,q,r1,r2,r3⟩:=ih.1 _ _ h1 xs ys vs us at_ x d va5 hx hy e1;have r4:=ih.2 _ _ _ h2 xs ys vs us y d va5 hx hy e2;have L0:f.offset=at_:=ho;simp only[Op.eqFields,hn,ne_eq,not_false_eq_true,if_true,Sem.run_bind,L0,r1,r2,r3,Result.andThen_ok];cases x
              · simp[e3]
              · simpa[e3]using r4
end
/- Each operation does what its abstract twin says (third part). A helper text: it speaks of no program. -/
section
variable {P:Program}{B:Nat->Prop}{w0:World}{F0:Env P}{S:St}{β:Nat->Option Hd}{F:Nat->Prop}{a:Act}{w:World}
theorem lq(d:Nat){t e:TypeId}(hu:P.underlying t=some (.pointer e))(p:Option Addr):(Op.equalIn (d+1) t (.pointer none) (.pointer p)).run P w = .ok p.isNone w:=by
 simp[Op.equalIn,run_underlying hu]
theorem lr(d:Nat){t e:TypeId}(hu:P.underlying t=some (.pointer e))(p:Option Addr):(Op.equalIn (d+1) t (.pointer p) (.pointer none)).run P w = .ok p.isNone w:=by
 cases p<;>simp[Op.equalIn,run_underlying hu]
theorem lZ(d:Nat){t e:TypeId}(hu:P.underlying t=some (.slice e))(p:Option Addr)(n c n' c':Nat):(Op.equalIn (d+1) t (.slice none n c) (.slice p n' c')).run P w = .ok p.isNone w:=by
 simp[Op.equalIn,run_underlying hu]
theorem ba{t e:TypeId}(hu:P.underlying t=some (.pointer e))(p:Option Addr):(Op.equal t (.pointer none) (.pointer p)).run P w = .ok p.isNone w:=lq 9999 hu p
theorem fy{t e:TypeId}(hu:P.underlying t=some (.pointer e))(p:Option Addr):(Op.equal t (.pointer p) (.pointer none)).run P w = .ok p.isNone w:=lr 9999 hu p
theorem gG{t e:TypeId}(hu:P.underlying t=some (.slice e))(p:Option Addr)(n c n' c':Nat):(Op.equal t (.slice none n c) (.slice p n' c')).run P w = .ok p.isNone w:=lZ 9999 hu p n c n' c'
theorem lu(d:Nat){t e:TypeId}(hu:P.underlying t=some (.slice e))(p:Addr)(n c:Nat):(Op.equalIn (d+1) t (.slice (some p) n c) (.slice none 0 0)).run P w = .ok false w:=by
 simp[Op.equalIn,run_underlying hu]
theorem iA{t e:TypeId}(hu:P.underlying t=some (.slice e))(p:Addr)(n c:Nat):(Op.equal t (.slice (some p) n c) (.slice none 0 0)).run P w = .ok false w:=lu 9999 hu p n c
theorem rn{t:TypeId}(hu:P.underlying t=some .bool)(a b:Bool):(Op.equal t (.bool a) (.bool b)).run P w = .ok (a == b) w:=run_equalIn_bool w _ t a b hu
theorem HU{t:TypeId}{x y:Value}{b:Bool}(h:(Op.equal t x y).run P w = .ok b w)(hx:∀ k n,x ≠ .int k n)(hf:∀ k n,x ≠ .float k n)(hc:∀ k n m,x ≠ .complex k n m)(hs:∀ s,x ≠ .string s) :
  (binOp .eql t x y).run P w = .ok (.bool b) w:=by
 cases x<;>first|exact(hx _ _ rfl).elim|exact(hf _ _ rfl).elim|exact(hc _ _ _ rfl).elim|exact(hs _ rfl).elim|(simp only[binOp,Sem.run_bind,h,Result.andThen_ok];rfl)
theorem HV{t:TypeId}{x y:Value}{b:Bool}(h:(Op.equal t x y).run P w = .ok b w)(hx:∀ k n,x ≠ .int k n)(hf:∀ k n,x ≠ .float k n)(hc:∀ k n m,x ≠ .complex k n m)(hs:∀ s,x ≠ .string s) :
  (binOp .neq t x y).run P w = .ok (.bool (!b)) w:=by
 cases x<;>first|exact(hx _ _ rfl).elim|exact(hf _ _ rfl).elim|exact(hc _ _ _ rfl).elim|exact(hs _ rfl).elim|(simp only[binOp,Sem.run_bind,h,Result.andThen_ok];rfl)
theorem fW{op:BinOp}{t:TypeId}(xo yo:Operand){x y:Value}{b:Bool}{K:AV->Prop}(h:(Op.equal t x y).run P w = .ok b w)
  (hx:(∀ k n,x ≠ .int k n)/\(∀ k n,x ≠ .float k n)/\(∀ k n m,x ≠ .complex k n m)/\∀ s,x ≠ .string s)
  (hg:(eqGuard op t xo yo x y).run P w = .ok () w) {r r':AV} (hr:C4 β F w r (.bool b)) (TJ:C4 β F w r' (.bool !b))
  (hK:(op = .eql/\K r)∨(op = .neq/\K r')) :
  ∃ r v,(do eqGuard op t xo yo x y;binOp op t x y:Sem Value).run P w = .ok v w/\C4 β F w r v/\K r:=by
 simp only[Sem.run_bind,hg,Result.andThen_ok];rcases hK with ⟨rfl,hK⟩|⟨rfl,hK⟩
 ·exact⟨_,_,HU h hx.1 hx.2.1 hx.2.2.1 hx.2.2.2,hr,hK⟩
 ·exact⟨_,_,HV h hx.1 hx.2.1 hx.2.2.1 hx.2.2.2,TJ,hK⟩
theorem C4.pt_ptr{cs:List AV}{off:Nat}{v:Value}(h:C4 β F w (.pt cs off) v):∃ a,v = .pointer (some a):=by
 obtain⟨b,o,g,rfl,_⟩:=h.pt_inv;exact⟨_,rfl⟩
theorem C4.ptr_ptr{id sz i off:Nat}{v:Value}(h:C4 β F w (.ptr id sz i off) v):∃ a,v = .pointer (some a):=by
 obtain⟨hd,b,_,_,rfl⟩:=h.ptr_inv;exact⟨_,rfl⟩
theorem wW{e:TypeId}{kk:IntKind}(hu:P.underlying e=some (.int kk)){xs ys:List AV}{vs us:Array Value}(hx:jt (C4 β F w) xs vs)(hy:jt (C4 β F w) ys us)(d:Nat):∀ (ks:List Bool) (off:Nat) (b:Bool),(ks.all fun k=>k)=true ->
  H5 ks ((xs.drop off).take ks.length) ((ys.drop off).take ks.length)=some b->(Op.eqItems (d+1) e 1 vs us (List.range' off ks.length)).run P w = .ok b w
 | [],off,b,_,h=>by
  simp only[List.length_nil,List.take_zero,H5,Option.some.injEq]at h;subst h;simp[Op.eqItems]
 | k :: ks,off,b,hk,h=>by
  simp only[List.all_cons,zA2]at hk;obtain⟨l1,l2⟩:=X3 h;simp only[zB1,List.length_drop,zB2]at l1 l2;have SV:off<xs.length:=by omega
  have SW:off<ys.length:=by omega
  have ex:xs.drop off=xs.getD off .any :: xs.drop (off+1):=by rw[List.drop_eq_getElem_cons SV];simp[List.getD,SV]
  have ey:ys.drop off=ys.getD off .any :: ys.drop (off+1):=by rw[List.drop_eq_getElem_cons SW];simp[List.getD,SW]
  rw[ex,ey,zB2,List.take_succ_cons,List.take_succ_cons]at h;simp only[H5]at h;cases h1:fR k (xs.getD off .any) (ys.getD off .any)with
  | none=>simp only[h1,reduceCtorEq]at h
  | some x =>
   cases h2:H5 ks ((xs.drop (off+1)).take ks.length) ((ys.drop (off+1)).take ks.length)with
   | none=>simp only[h1,h2,reduceCtorEq]at h
   | some y =>
    simp only[h1,h2,Option.some.injEq]at h;subst h;rw[hk.1]at h1;have ih:=wW hu hx hy d ks (off+1) y hk.2 h2;obtain⟨k',p',q',e1,e2,rfl⟩:=sG (hx.2 off SV) (hy.2 off SW) h1;have g1:vs[off]? = some (.int k' p'):=by rw[<- e1];simp[hx.1 ▸ SV]
    have g2:us[off]? = some (.int k' q'):=by rw[<- e2];simp[hy.1 ▸ SW]
    have r1:(part e vs (off*1)).run P w = .ok (.int k' p') w:=by rw[Nat.mul_one];simp[part,isAgg,run_underlying hu,g1]
    have r2:(part e us (off*1)).run P w = .ok (.int k' q') w:=by rw[Nat.mul_one];simp[part,isAgg,run_underlying hu,g2]
    have r3:(Op.equalIn (d+1) e (.int k' p') (.int k' q')).run P w = .ok (p' == q') w:=run_equalIn_int w d e k' kk p' q' hu;rw[zB2,List.range'_succ];simp only[Op.eqItems,Sem.run_bind,r1,r2,r3,Result.andThen_ok];cases hpq:(p' == q')
    ·simp
    ·simpa using ih
theorem HW{op:BinOp}{t:TypeId}{lit:Bool}{x y:AV}{xv yv:Value}{K:AV->Prop}(xo yo:Operand)(hx:C4 β F w x xv)(hy:C4 β F w y yv)(h:wU P op t lit x y K) :
  ∃ r v,(do eqGuard op t xo yo xv yv;binOp op t xv yv:Sem Value).run P w = .ok v w/\C4 β F w r v/\K r:=by
 have WW:∀ a:Addr,((∀ k n,Value.pointer (some a) ≠ .int k n)/\(∀ k n,Value.pointer (some a) ≠ .float k n)/\(∀ k n m,Value.pointer (some a) ≠ .complex k n m)/\∀ s,Value.pointer (some a) ≠ .string s) :=
  fun a=>⟨nofun,nofun,nofun,nofun⟩
 have TK:((∀ k n,Value.pointer none ≠ .int k n)/\(∀ k n,Value.pointer none ≠ .float k n)/\(∀ k n m,Value.pointer none ≠ .complex k n m)/\∀ s,Value.pointer none ≠ .string s) :=
  ⟨nofun,nofun,nofun,nofun⟩
 -- a1R and nils
 have rest:∀ z u,z=x->u=y->(match z.toB,u.toB with
   | some a,some b=>match P.underlying t with
    | some .bool=>T5 op (K (.bool (a == b))) (K (.bool (a != b)))
    | _=>False
   | _,_=>match P.underlying t with
    | some (.pointer _)=>match z,u with
     | .nilp,.nilp=>T5 op (K .tt) (K .ff)
     | .nilp,.pt (_ :: _) _=>T5 op (K .ff) (K .tt)
     | .nilp,.ptr .. => T5 op (K .ff) (K .tt)
     | .pt _ _,.nilp=>T5 op (K .ff) (K .tt)
     | .ptr ..,.nilp=>T5 op (K .ff) (K .tt)
     | _,_=>False
    | some (.slice _)=>match z,u with
     | .nils,.nils=>T5 op (K .tt) (K .ff)
     | _,_=>False
    | _=>False)->∃ r v,(do eqGuard op t xo yo xv yv;binOp op t xv yv:Sem Value).run P w = .ok v w/\C4 β F w r v/\K r:=by
  rintro z u rfl rfl h;split at h
  ·rename_i a b ha hb;have e1:=hx.toB_inv ha;have e2:=hy.toB_inv hb;subst e1;subst e2;split at h
   ·rename_i hu;refine fW xo yo (rn hu a b) ⟨nofun,nofun,nofun,nofun⟩
     (H6 op t xo yo nofun nofun) (.imm (.bool _)) (.imm (.bool _)) ?_
    rcases Q2 h with ⟨h1,h2⟩|⟨h1,h2⟩
    ·exact .inl ⟨h1,h2⟩
    ·exact .inr ⟨h1,h2⟩
   ·exact h.elim
  ·split at h
   ·rename_i e hu;split at h
    ·rw[hx.nilp_inv,hy.nilp_inv];exact fW xo yo (ba hu none) TK (H6 op t xo yo nofun nofun) (.imm .tt) (.imm .ff) (Q2 h)
    ·obtain⟨p,rfl⟩:=hy.pt_ptr;rw[hx.nilp_inv];exact fW xo yo (ba hu (some p)) TK (H6 op t xo yo nofun nofun) (.imm .ff) (.imm .tt) (Q2 h)
    ·obtain⟨p,rfl⟩:=hy.ptr_ptr;rw[hx.nilp_inv];exact fW xo yo (ba hu (some p)) TK (H6 op t xo yo nofun nofun) (.imm .ff) (.imm .tt) (Q2 h)
    ·obtain⟨p,rfl⟩:=hx.pt_ptr;rw[hy.nilp_inv];exact fW xo yo (fy hu (some p)) (WW p) (H6 op t xo yo nofun nofun) (.imm .ff) (.imm .tt) (Q2 h)
    ·obtain⟨p,rfl⟩:=hx.ptr_ptr;rw[hy.nilp_inv];exact fW xo yo (fy hu (some p)) (WW p) (H6 op t xo yo nofun nofun) (.imm .ff) (.imm .tt) (Q2 h)
    ·exact h.elim
   ·rename_i e hu;split at h
    ·rw[hx.nils_inv,hy.nils_inv];exact fW xo yo (gG hu none 0 0 0 0) ⟨nofun,nofun,nofun,nofun⟩
      (H6 op t xo yo nofun nofun) (.imm .tt) (.imm .ff) (Q2 h)
    ·exact h.elim
   ·exact h.elim
 cases x with
 | int k p =>
  cases y with
  | int k' q =>
   rw[hx.int_inv,hy.int_inv];exact HT t xo yo h
  | _=>exact h.elim
 | agg xs =>
  cases y with
  | agg ys =>
   simp only[wU]at h;obtain⟨fX,h⟩:=h;generalize kC xs=ks at fX h;rw[zA9]at fX;rcases fX with fX|fX
   ·unfold SU at fX;split at fX
    ·rename_i fs hu hg;cases hk:bI P 40 t with
     | none=>simp[hk]at fX
     | some WV =>
      simp only[hk,beq_iff_eq]at fX;subst fX;cases hc:H5 WV xs ys with
      | none=>simp[hc]at h
      | some b =>
       simp only[hc]at h;obtain⟨vs,rfl,hl,hr⟩:=hx.agg_inv;obtain⟨us,rfl,mS,TJ⟩:=hy.agg_inv;obtain⟨l1,l2⟩:=X3 hc;obtain⟨G0,p,q,r1,r2,r3⟩:=(Lo (P:=P) (β:=β) (F:=F) (w:=w) 40).1 t WV hk xs ys vs us 0 b Op.maxDepth (by simp[Op.maxDepth]) ⟨hl,hr⟩ ⟨mS,TJ⟩
        (by rw[List.drop_zero,List.drop_zero,List.take_of_length_le va5,List.take_of_length_le va5];exact hc)
       obtain⟨i,hi⟩:=info_of_underlying hu;have hs:(sizeOf t).run P w = .ok WV.length w:=by rw[run_sizeOf w hi,G0]
       have e1:(part t vs 0).run P w = .ok (.agg vs) w:=by simp[part,isAgg,run_underlying hu,hs,<- l1,hl]
       have e2:(part t us 0).run P w = .ok (.agg us) w:=by simp[part,isAgg,run_underlying hu,hs,<- l2,mS]
       rw[e1]at r1;rw[e2]at r2;cases r1
       cases r2
       exact fW xo yo r3 ⟨nofun,nofun,nofun,nofun⟩ (run_eqGuard_agg w op t xo yo vs us hg) (.imm (.bool _)) (.imm (.bool _))
        (Q2 h)
    ·cases fX
   ·unfold Lm at fX;split at fX
    ·rename_i len e hu hg;split at fX
     ·rename_i inf kk hi hue;simp only[zA2]at fX;obtain⟨c1,c2,c3⟩:=fX;have c1:=zA8 c1;have c2:=zA8 c2;cases hc:H5 ks xs ys with
      | none=>simp[hc]at h
      | some b =>
       simp only[hc]at h;obtain⟨vs,rfl,hl,hr⟩:=hx.agg_inv;obtain⟨us,rfl,mS,TJ⟩:=hy.agg_inv;obtain⟨l1,l2⟩:=X3 hc;have:=wW hue (w:=w) ⟨hl,hr⟩ ⟨mS,TJ⟩ 9998 ks 0 b c3 (by rw[List.drop_zero,List.drop_zero,List.take_of_length_le va5,List.take_of_length_le va5];exact hc);have r3:(Op.equal t (.agg vs) (.agg us)).run P w = .ok b w:=by
        show(Op.equalIn (9999+1) t (.agg vs) (.agg us)).run P w=_
        rw[run_equalIn_array w 9999 vs us hu hi,c1,<- c2,List.range_eq_range'];exact this
       exact fW xo yo r3 ⟨nofun,nofun,nofun,nofun⟩ (run_eqGuard_agg w op t xo yo vs us hg) (.imm (.bool _)) (.imm (.bool _))
        (Q2 h)
     ·cases fX
    ·cases fX
  | _=>exact h.elim
 | any=>exact rest _ _ rfl rfl h
 | tt=>exact rest _ _ rfl rfl h
 | ff=>exact rest _ _ rfl rfl h
 | bool b=>exact rest _ _ rfl rfl h
 | str s=>exact rest _ _ rfl rfl h
 | mapv c=>exact rest _ _ rfl rfl h
 | nilp=>exact rest _ _ rfl rfl h
 | nils=>exact rest _ _ rfl rfl h
 | nilf=>exact rest _ _ rfl rfl h
 | tup l=>exact rest _ _ rfl rfl h
 | sl sz d enc l=>exact rest _ _ rfl rfl h
 | slc sz E5=>exact rest _ _ rfl rfl h
 | sf sz d enc l=>exact rest _ _ rfl rfl h
 | pt cs off=>exact rest _ _ rfl rfl h
 | ptr id sz i off=>exact rest _ _ rfl rfl h
 | own id=>exact rest _ _ rfl rfl h
 | mem id i=>exact rest _ _ rfl rfl h
 | mptr id i k=>exact rest _ _ rfl rfl h
 | fn f xs ys=>exact rest _ _ rfl rfl h
end
/- Each operation does what its abstract twin says (fourth part): memory. A helper text: it speaks of no program. -/
section
variable {P:Program}{B:Nat->Prop}{w0:World}{F0:Env P}{S:St}{β:Nat->Option Hd}{F:Nat->Prop}{a:Act}{w:World}
theorem Lq{op:UnOp}{x:AV}{v:Value}{K:AV->Prop}(hx:C4 β F w x v)(h:HS op x K):∃ r u,(Op.unary op v).run P w = .ok u w/\C4 β F w r u/\K r:=by
 cases op<;>cases x<;>simp only[HS]at h
 case not.tt=>rw[hx.tt_inv];exact⟨_,_,rfl,.imm .ff,h⟩
 case not.ff=>rw[hx.ff_inv];exact⟨_,_,rfl,.imm .tt,h⟩
 case not.bool b=>rw[hx.bool_inv];exact⟨_,_,rfl,.imm (.bool _),h⟩
 case neg.int k n=>rw[hx.int_inv];exact⟨_,_,rfl,.imm (.int _ _),h⟩
 case xor.int k n=>rw[hx.int_inv];exact⟨_,_,rfl,.imm (.int _ _),h⟩
 all_goals exact h.elim
theorem U3(b o j:Nat):(⟨b,o,none⟩:Addr).add j=⟨b,o+j,none⟩:=by
 unfold Addr.add;split<;>simp_all
theorem jK(cs:List AV)(off n i:Nat)(hi:i<n):((cs.drop off).take n).getD i .any=cs.getD (off+i) .any:=by
 simp[List.getD,List.getElem?_take,hi]
theorem ew{t:TypeId}{i:TypeInfo}{d:TypeDesc}(hi:P.info? t=some i)(hu:P.underlying t=some d){cs:List AV}{b o off:Nat}{g:Nat->Value}
  (hc:∀ j,j<cs.length->w.cell? ⟨b,o+j,none⟩=some (g j)) (hr:∀ j,j<cs.length->C4 β F w (cs.getD j .any) (g j)) {x:AV} (h:lG (aZ d) i.size cs off=some x) :
  ∃ v,(Instr.loadAt t (.pointer (some ⟨b,o+off,none⟩))).run P w = .ok v w/\C4 β F w x v:=by
 unfold lG at h;cases hd:aZ d with
 | true =>
  simp only[hd]at h;cases hb:Nat.ble (off+i.size) cs.length with
  | false=>simp[hb]at h
  | true =>
   simp only[hb,Option.some.injEq]at h;subst h;have hle:=Nat.le_of_ble_eq_true hb;have hl:=run_loadCells (P:=P) w ⟨b,o+off,none⟩ i.size (fun j=>g (off+j)) (fun j hj=>by rw[U3,Nat.add_assoc];exact hc _ va5);refine⟨.agg ((List.range i.size).map fun j=>g (off+j)).toArray,?_,.agg ?_ ?_⟩
   ·cases d<;>simp[aZ]at hd<;>simp[Instr.loadAt,Instr.sureAddr,loadVar,isAgg,run_underlying hu,sizeOf,typeInfo,hi,hl]
   ·simp;omega
   ·intro j hj;simp only[zB1,List.length_drop]at hj;rw[jK _ _ _ _ va5];have e:(((List.range i.size).map fun j=>g (off+j)).toArray).getD j undef=g (off+j):=by
     simp[Array.getD_eq_getD_getElem?,show j<i.size by omega]
    rw[e];exact hr _ va5
 | false =>
  simp only[hd]at h;cases hb:Nat.blt off cs.length with
  | false=>simp[hb]at h
  | true =>
   simp only[hb,Option.some.injEq]at h;subst h;have z8:off<cs.length:=by simpa[Nat.blt_eq]using hb
   have H7:=hc off z8;refine⟨g off,?_,hr off z8⟩;cases d<;>simp[aZ]at hd<;>simp[Instr.loadAt,Instr.sureAddr,loadVar,isAgg,run_underlying hu,H7]
theorem K3{o:Oper}{next:Act->World->Prop}{Q:Exit->Act->World->Prop}{s:Sem Value}(ho:execOp a.eval o=(do pure (.value (<- s)))){v:Value}{w':World}(hs:s.run P w = .ok v w')(hn:next (a.put o.dst v) w'):o.wp P a w next Q:=by
 refine fV (v:=v) (w':=w') ?_ hn;rw[ho];simp[hs]
theorem wX(hR:Rel B w0 F0 S β F a w){id:Nat}{ty:TypeId}{cs:List AV}(hr:S.row id = .cells ty cs){hd:Hd}{b:Nat}(hb:β id=some hd)(hh:hd.b=some b) :
  ∃ vs,w.heap[b]? = some (.cells vs ty (0,0))/\vs.size=cs.length/\∀ i,i<cs.length->C4 β F w (cs.getD i .any) (vs.getD i undef):=by
 have:=hR.rows id;rw[hr]at this;obtain⟨hd',b',vs,e1,em,e2,e3,e4,e5⟩:=this;rw[hb]at e1;cases e1
 rw[hh]at e2;cases e2
 exact⟨vs,e3,e4,e5⟩
theorem ag(hR:Rel B w0 F0 S β F a w){id:Nat}{ty:TypeId}{α:Type}{sz:Nat}{d:α}{enc:α->List AV}{l:List α}(hr:S.row id = .vec ty sz d enc l){hd:Hd}(hb:β id=some hd) :
  hd.len=l.length/\((l=[]/\hd.b=none/\hd.cap=0)∨∃ b vs,hd.b=some b/\w.heap[b]? = some (.cells vs ty (0,0)) /\
   l.length<=hd.cap/\hd.cap<=maxLen/\vs.size=hd.cap*sz/\∀ i j,i<l.length->j<sz->y6 F w ((enc (l.getD i d)).getD j .any) (vs.getD (i*sz+j) undef)):=by
 have:=hR.rows id;rw[hr]at this;obtain⟨hd',e1,em,e2,e3⟩:=this;rw[hb]at e1;cases e1
 exact⟨e2,e3⟩
theorem yF(hR:Rel B w0 F0 S β F a w){id:Nat}{ty:TypeId}{sz:Nat}{E5:List (List AV)}(hr:S.row id = .lit ty sz E5){hd:Hd}(hb:β id=some hd) :
  ∃ b vs,hd.b=some b/\w.heap[b]? = some (.cells vs ty (0,0))/\hd.len=E5.length/\vs.size=E5.length*sz/\∀ i j,i<E5.length->j<sz->C4 β F w ((E5.getD i []).getD j .any) (vs.getD (i*sz+j) undef):=by
 have:=hR.rows id;rw[hr]at this;obtain⟨hd',b,vs,e1,em,e2,e3,e4,_,e6,_,e8⟩:=this;rw[hb]at e1;cases e1
 exact⟨b,vs,e2,e3,e4,e6,e8⟩
theorem Lr(hR:Rel B w0 F0 S β F a w){o:Oper}{t:TypeId}{x:Operand}(ho:o.op = .load t x){K:Out->List Nat->Prop}(h:y0 P o.dst (.load t x) S.get S.row K){Q:Exit->Act->World->Prop} :
  o.wp P a w (z7 B w0 F0 S β o.dst K) Q:=by
 simp only[y0]at h;split at h
 ·rename_i i d hi hu;have hx:=hR.get x;have L0:execOp a.eval o=(do pure (.value (<- Instr.loadAt t (a.eval x)))):=by simp[execOp,ho]
  split at h
  ·rename_i cs off hg;rw[hg]at hx;obtain⟨b,ob,g,hv,hc,hr⟩:=hx.pt_inv;split at h
   ·rename_i v hl;obtain⟨u,h1,h2⟩:=ew (P:=P) hi hu (fun j hj=>(hc j hj).2) (fun j hj=>C4.imm (β:=β) (hr j hj)) hl;rw[hv]at L0;exact K3 L0 h1 (z7.still hR h2 h)
   ·exact h.elim
  ·rename_i id sz j off hg;rw[hg]at hx;obtain⟨hd,b,hb,hh,hv⟩:=hx.ptr_inv;split at h
   ·rename_i ty cs hr;obtain⟨vs,e1,e2,e3⟩:=wX hR hr hb hh;split at h
    ·rename_i v hl;obtain⟨u,h1,h2⟩:=ew (P:=P) (o:=0) (b:=b) (g:=fun j=>vs.getD j undef) hi hu (fun j hj=>by rw[Nat.zero_add];exact G3 e1 va5) e3 hl;rw[hv]at L0;rw[Nat.zero_add]at h1;exact K3 L0 h1 (z7.still hR h2 h)
    ·exact h.elim
   ·rename_i ty α Ba d' enc l hr;split at h
    ·rename_i G0;split at h
     ·rename_i hlen;split at h
      ·rename_i v hl;obtain⟨hj,hK⟩:=h;have e0:=zA8 G0;have ZL:=zA8 hlen;obtain⟨_,jL⟩:=ag hR hr hb;rcases jL with ⟨h1,h2,_⟩|⟨b',vs,e1,e2,e3,e4,e5,e6⟩
       ·rw[h1]at hj;simp at hj
       ·rw[hh]at e1;cases e1
        obtain⟨u,h1,h2⟩:=ew (P:=P) (β:=β) (F:=F) (w:=w) (o:=j*sz) (b:=b) (g:=fun k=>vs.getD (j*sz+k) undef) hi hu
         (fun k hk=>G3 e2 (by
          rw[e5,<- e0];have:=z6 (zB5 hj e3) (show k<sz by omega)
          omega))
         (fun k hk => .imm (by have:=e6 j k hj va5;rw[<- e0]at this;exact this)) hl
        rw[hv]at L0;exact K3 L0 h1 (z7.still hR h2 hK)
      ·exact h.elim
     ·exact h.elim
    ·exact h.elim
   ·rename_i ty Ba E5 hr;split at h
    ·rename_i G0;split at h
     ·rename_i hlen;split at h
      ·rename_i v hl;split at h
       ·rename_i hjb;have hj:j<E5.length:=Nat.le_of_ble_eq_true hjb;have e0:=zA8 G0;have ZL:=zA8 hlen;obtain⟨b',vs,e1,e2,_,e5,e6⟩:=yF hR hr hb;rw[hh]at e1;cases e1
        obtain⟨u,h1,h2⟩:=ew (P:=P) (β:=β) (F:=F) (w:=w) (o:=j*sz) (b:=b) (g:=fun k=>vs.getD (j*sz+k) undef) hi hu
         (fun k hk=>G3 e2 (by
          rw[e5,<- e0];have:=z6 hj (show k<sz by omega)
          omega))
         (fun k hk=>by have:=e6 j k hj va5;rw[<- e0]at this;exact this) hl
        rw[hv]at L0;exact K3 L0 h1 (z7.still hR h2 h)
       ·exact h.elim
      ·exact h.elim
     ·exact h.elim
    ·exact h.elim
   ·exact h.elim
  ·exact h.elim
 ·exact h.elim
theorem qz{β':Nat->Option Hd}{d:Nat}{len cap:Nat}{F:Nat->Prop}{w':World}{n:Nat}(h:β' d=some ⟨some n,len,cap,jr⟩):C4 β' F w' (.ptr d 0 0 0) (.pointer (some ⟨n,0,none⟩)):=by
 have:=C4.ptr (F:=F) (w:=w') (sz:=0) (i:=0) (off:=0) h rfl;simpa using this
theorem HX(hR:Rel B w0 F0 S β F a w){o:Oper}{t:TypeId}(ho:o.op = .alloc t)(B1:∀ d,o.dst=some d->β d=none){K:Out->List Nat->Prop}(h:y0 P o.dst (.alloc t) S.get S.row K){Q:Exit->Act->World->Prop} :
  o.wp P a w (z7 B w0 F0 S β o.dst K) Q:=by
 simp only[y0]at h;split at h
 ·rename_i d cs hd hz;unfold dc at hz;cases hi:P.info? t with
  | none=>simp[hi]at hz
  | some i =>
   cases hv:i.zero with
   | none=>simp[hi,hv]at hz
   | some z =>
    simp only[hi,hv,Option.some.injEq]at hz;have L0:execOp a.eval o=(do pure (.value (<- Instr.alloc t true (.tuple #[])))):=by simp[execOp,ho]
    have K4:(Instr.alloc t true (.tuple #[])).run P w = .ok (.pointer (some ⟨w.heap.size,0,none⟩)) (w.alloc (.cells z.cells t)):=by
     simp[Instr.alloc,zeroValue,typeInfo,hi,hv,newVar,newRow]
    obtain⟨β',h1,h2⟩:=hR.alloc (B1 d hd) (dst:=o.dst) (x := .ptr d 0 0 0) (v := .pointer (some ⟨w.heap.size,0,none⟩)) (r := .cells t cs) (vs:=z.cells) (ty:=t) 0 0
     (fun β' hb _=>qz hb)
     (fun β' hb _ hk=>⟨_,w.heap.size,z.cells,hb,rfl,rfl,O7 w _,by rw[<- hz];simp,fun j hj=>by
      rw[<- hz];have oW:j<z.cells.size:=by rw[<- hz]at hj;simpa using hj
      have e:(z.cells.toList.map AV.ofConst).getD j .any=AV.ofConst (z.cells.getD j undef):=by
       simp[List.getD,Array.getD_eq_getD_getElem?,oW]
      rw[e];exact .imm (.ofConst _)⟩) (fun _ _ _ _ h=>by cases h)
    exact K3 L0 K4 ⟨_,_,h,β',F,fun j hj=>h1 j (fun e=>hj (by rw[e];exact hd)),h2⟩
 ·exact h.elim
theorem PI(hR:Rel B w0 F0 S β F a w){o:Oper}{t:TypeId}{x:Operand}(ho:o.op = .box t x)(B1:∀ d,o.dst=some d->β d=none){K:Out->List Nat->Prop}(h:y0 P o.dst (.box t x) S.get S.row K){Q:Exit->Act->World->Prop} :
  o.wp P a w (z7 B w0 F0 S β o.dst K) Q:=by
 simp only[y0]at h;split at h
 ·rename_i d cs hd hz;obtain⟨c1,c2,c3⟩:=cells?_rep (hR.get x) hz;have L0:execOp a.eval o=(do pure (.value (<- Instr.box t (a.eval x)))):=by simp[execOp,ho]
  have K4:(Instr.box t (a.eval x)).run P w = .ok (.pointer (some ⟨w.heap.size,0,none⟩)) (w.alloc (.cells (a.eval x).cells t)):=by
   simp[Instr.box,newVar,newRow]
  obtain⟨β',h1,h2⟩:=hR.alloc (B1 d hd) (dst:=o.dst) (x := .ptr d 0 0 0) (v := .pointer (some ⟨w.heap.size,0,none⟩)) (r := .cells t cs) (vs:=(a.eval x).cells) (ty:=t) 0 0
   (fun β' hb _=>qz hb)
   (fun β' hb hg hk=>⟨_,w.heap.size,(a.eval x).cells,hb,rfl,rfl,O7 w _,c1,fun j hj=>(c2 j hj).grow hg (fun _ h=>h) hk⟩) (fun _ _ _ _ h=>by cases h)
  exact K3 L0 K4 ⟨_,_,h,β',F,fun j hj=>h1 j (fun e=>hj (by rw[e];exact hd)),h2⟩
 ·exact h.elim
end
/- Each operation does what its abstract twin says (fifth part): structs, stores, places. A helper text: it speaks of no program. -/
section
variable {P:Program}{B:Nat->Prop}{w0:World}{F0:Env P}{S:St}{β:Nat->Option Hd}{F:Nat->Prop}{a:Act}{w:World}
theorem ak{t:TypeId}{cs:List AV}(h:dc P t=some cs):∃ i z,P.info? t=some i/\i.zero=some z/\cs=z.cells.toList.map AV.ofConst/\jt (C4 β F w) cs z.cells:=by
 unfold dc at h;cases hi:P.info? t with
 | none=>simp[hi]at h
 | some i =>
  cases hv:i.zero with
  | none=>simp[hi,hv]at h
  | some z =>
   simp only[hi,hv,Option.some.injEq]at h;refine⟨i,z,rfl,hv,h.symm,by rw[<- h];simp,fun j hj=>?_⟩;rw[<- h];have oW:j<z.cells.size:=by rw[<- h]at hj;simpa using hj
   have e:(z.cells.toList.map AV.ofConst).getD j .any=AV.ofConst (z.cells.getD j undef):=by
    simp[List.getD,Array.getD_eq_getD_getElem?,oW]
   rw[e];exact .imm (.ofConst _)
theorem wY(hR:Rel B w0 F0 S β F a w)(ps:Array (Nat×Operand)) :
  (ps.toList.map fun p=>(p.1,S.get p.2)).length=(ps.map fun(i,x)=>(i,a.eval x)).toList.length /\
  ∀ i,i<(ps.toList.map fun p=>(p.1,S.get p.2)).length->((ps.toList.map fun p=>(p.1,S.get p.2)).getD i (0,.any)).1=((ps.map fun(i,x)=>(i,a.eval x)).toList.getD i (0,undef)).1 /\
   C4 β F w ((ps.toList.map fun p=>(p.1,S.get p.2)).getD i (0,.any)).2 ((ps.map fun(i,x)=>(i,a.eval x)).toList.getD i (0,undef)).2:=by
 refine⟨by simp,fun i hi=>?_⟩;have cI:i<ps.toList.length:=by simpa using hi
 have e1:(ps.toList.map fun p=>(p.1,S.get p.2)).getD i (0,.any)=((ps.toList[i]).1,S.get (ps.toList[i]).2):=by
  have:i<ps.size:=by simpa using cI
  simp[List.getD,this]
 have e2:(ps.map fun(i,x)=>(i,a.eval x)).toList.getD i (0,undef)=((ps.toList[i]).1,a.eval (ps.toList[i]).2):=by
  have:i<ps.size:=by simpa using cI
  simp[List.getD,this]
 rw[e1,e2];exact⟨rfl,hR.get _⟩
theorem rp(fs:Array Field)(h:∀ f ∈ fs.toList,(P.info? f.type).isSome=true) :
  (fs.mapM fun f=>do pure (f.offset,<- sizeOf f.type):Sem (Array (Nat×Nat))).run P w = .ok (fs.map fun f=>(f.offset,P.cellsOf f.type)) w:=by
 have key:∀ (l:List Field),(∀ f ∈ l,(P.info? f.type).isSome=true)->(l.mapM fun f=>do pure (f.offset,<- sizeOf f.type):Sem (List (Nat×Nat))).run P w = .ok (l.map fun f=>(f.offset,P.cellsOf f.type)) w:=by
  intro l
  induction l with
  | nil=>intro _;simp
  | cons f l ih =>
   intro hl;obtain⟨i,hi⟩:=Option.isSome_iff_exists.1 (hl f va9);simp only[List.mapM_cons,Sem.run_bind,run_sizeOf w hi,Result.andThen_ok,Sem.run_pure,ih fun g hg=>hl g (by simp[hg]),List.map_cons]
 have:=key fs.toList h;rw[<- Array.toList_mapM]at this;simp only[Sem.run_map]at this;generalize hr:(fs.mapM fun f=>do pure (f.offset,<- sizeOf f.type):Sem (Array (Nat×Nat))).run P w=r at this;cases r with
 | ok x w1 =>
  simp only[Result.andThen_ok,Result.ok.injEq]at this;obtain⟨e1,rfl⟩:=this
  congr 1
  apply Array.ext';simpa using e1
 | halt x w1=>simp[Result.andThen]at this
theorem HY(hR:Rel B w0 F0 S β F a w){o:Oper}{t:TypeId}{ps:Array (Nat×Operand)}(ho:o.op = .build t ps){K:Out->List Nat->Prop}(h:y0 P o.dst (.build t ps) S.get S.row K){Q:Exit->Act->World->Prop} :
  o.wp P a w (z7 B w0 F0 S β o.dst K) Q:=by
 simp only[y0]at h;split at h
 ·exact h.elim
 ·rename_i z hz;obtain⟨i,zv,hi,DU,_,La⟩:=ak (β:=β) (F:=F) (w:=w) hz;have L0:execOp a.eval o=(do pure (.value (<- Instr.build t (ps.map fun(i,x)=>(i,a.eval x))))):=by simp[execOp,ho]
  obtain⟨p1,p2⟩:=wY hR ps;split at h
  ·rename_i fs hu;split at h
   ·rename_i sH;split at h
    ·rename_i cs hf;have hpe:(fun i=>(fs.toList.map fun f=>(f.offset,P.cellsOf f.type))[i]?)=fun i=>(fs.map fun f=>(f.offset,P.cellsOf f.type))[i]? := funext fun i=>by rw[<- Array.toList_map,Array.getElem?_toList]
     rw[hpe]at hf;obtain⟨us,Ee,Gv⟩:=nc p1 p2 La hf;have ji:=rp (P:=P) (w:=w) fs (List.all_eq_true.1 sH);refine K3 L0 (v := .agg us) (w':=w) ?_ (z7.still hR (.agg Gv.1 Gv.2) h);simp only[Instr.build,Sem.run_bind,zeroValue,typeInfo,run_program,hi,DU,run_underlying hu,Result.andThen_ok,Sem.run_pure,ji,Ee]
    ·exact h.elim
   ·exact h.elim
  ·rename_i n e hu;split at h
   ·rename_i ie hie;split at h
    ·rename_i cs hf;obtain⟨us,Ee,Gv⟩:=nc p1 p2 La hf;refine K3 L0 (v := .agg us) (w':=w) ?_ (z7.still hR (.agg Gv.1 Gv.2) h);simp only[Instr.build,Sem.run_bind,zeroValue,typeInfo,run_program,hi,DU,run_underlying hu,Result.andThen_ok,Sem.run_pure,run_sizeOf w hie,Ee]
    ·exact h.elim
   ·exact h.elim
  ·exact h.elim
theorem N2(g:Nat)(cur new:Array Value)(t:TypeId)(fz:Nat×Nat)(hg:w.heap[g]? = some (.cells cur t fz)) :
  ((w.setRow g new).os=w.os/\(w.setRow g new).tape=w.tape/\(w.setRow g new).output=w.output/\(w.setRow g new).heap.size=w.heap.size)/\(∀ k,k≠g->(w.setRow g new).heap[k]? = w.heap[k]?) /\
   (w.setRow g new).heap[g]? = some (.cells new t fz) :=
 ⟨⟨rfl,rfl,rfl,by simp⟩,fun k hk=>setRow_other w g k new hk,setRow_heap w g cur new t fz hg⟩
theorem bK{t:TypeId}{i:TypeInfo}(hi:P.info? t=some i){b o:Nat}{cur:Array Value}{ty:TypeId}(hb:w.heap[b]? = some (.cells cur ty (0,0))){v:Value}(hs:v.cells.size=i.size)(ho:o+i.size<=cur.size)
  (h1:∀ u ∈ v.cells.toList,u.oneCell'=true) :
  (Instr.storeAt t (.pointer (some ⟨b,o,none⟩)) v).run P w = .ok () (w.setRow b (x8 cur o v.cells.toList)):=by
 have rP:=run_storeCells_at P b o ty v.cells.toList 0 cur w hb (by simp[hs];omega) h1;simp only[Nat.add_zero]at rP;simp[Instr.storeAt,Instr.sureAddr,storeVar,sizeOf,typeInfo,hi,hs];exact rP
theorem iB{o:Oper}{next:Act->World->Prop}{Q:Exit->Act->World->Prop}{s:Sem Unit}(ho:execOp a.eval o=(do s;pure .skip)){w':World}(hs:s.run P w = .ok () w')(hn:next (a.put o.dst undef) w'):o.wp P a w next Q:=by
 unfold Oper.wp;rw[ho];simp only[Sem.run_bind,hs,Result.andThen_ok,Sem.run_pure];exact hn
theorem HZ(hR:Rel B w0 F0 S β F a w){o:Oper}{t:TypeId}{x y:Operand}(ho:o.op = .store t x y){K:Out->List Nat->Prop}(h:y0 P o.dst (.store t x y) S.get S.row K){Q:Exit->Act->World->Prop} :
  o.wp P a w (z7 B w0 F0 S β o.dst K) Q:=by
 simp only[y0]at h;split at h
 case h_2=>exact h.elim
 rename_i i hi;split at h
 case h_2=>exact h.elim
 rename_i l hl;split at h
 case h_2=>exact h.elim
 rename_i G0;have jM:=zA8 G0;obtain⟨c1,c2,c3⟩:=cells?_rep (hR.get y) hl;have TI:(a.eval y).cells.toList.length=l.length:=by simp[c1]
 have L0:execOp a.eval o=(do Instr.storeAt t (a.eval x) (a.eval y);pure .skip):=by simp[execOp,ho]
 have hx:=hR.get x;split at h
 case h_2=>exact h.elim
 rename_i id sz j off hg;rw[hg]at hx;obtain⟨hd,b,hb,hh,hv⟩:=hx.ptr_inv;rw[hv]at L0;have nd:x7 β id b:=by rw[x7,hb];exact A8 hh
 split at h
 ·rename_i ty cs hr;split at h
  case h_2=>exact h.elim
  rename_i hle;have Bq:=Nat.le_of_ble_eq_true hle;obtain⟨vs,e1,e2,e3⟩:=wX hR hr hb hh;have K4:=bK (P:=P) hi e1 (v:=a.eval y) (o:=j*sz+off) va5 va5 c3;obtain⟨f1,f2,f3⟩:=N2 b vs (x8 vs (j*sz+off) (a.eval y).cells.toList) ty (0,0) e1;refine iB L0 K4 ⟨_,_,h,β,F,fun _ _=>rfl,hR.write (by rw[hr];simp) nd f1 f2 (fun _ => .imm (.any _)) (fun hk=>?_) (fun _ _ _ _ h=>by cases h)⟩;have hs:=jt.set (R:=C4 β F (w.setRow b (x8 vs (j*sz+off) (a.eval y).cells.toList))) (xs:=cs) (vs:=vs) (l:=l) (ls:=(a.eval y).cells) (off:=j*sz+off)
   ⟨e2.symm,fun k sI=>(e3 k sI).grow (fun _ _=>rfl) (fun _ h=>h) hk⟩ ⟨c1.symm,fun k sI=>(c2 k sI).grow (fun _ _=>rfl) (fun _ h=>h) hk⟩ Bq
  obtain⟨_,_,_,q1,q2,_⟩:=hr ▸ hR.rows id;rw[hb]at q1;cases q1
  exact⟨hd,b,_,hb,q2,hh,f3,hs.1.symm,hs.2⟩
 ·rename_i α ty Ba d enc zs hr;split at h
  case h_2=>exact h.elim
  rename_i yG;split at h
  case h_2=>exact h.elim
  rename_i S9;split at h
  case h_2=>exact h.elim
  rename_i hle;split at h
  case h_2=>exact h.elim
  rename_i hlen;obtain⟨yy,hy1,hj,hK⟩:=h;have e0:=zA8 yG;subst e0;have Bq:=Nat.le_of_ble_eq_true hle;have SX:=zA8 hlen;obtain⟨lI,jL⟩:=ag hR hr hb;rcases jL with ⟨h1,h2,_⟩|⟨b',vs,e1,e2,e3,e4,e5,e6⟩
  ·rw[h1]at hj;simp at hj
  rw[hh]at e1;cases e1
  have mT:∀ k,k<sz->j*sz+k<vs.size:=fun k hk=>by
   rw[e5];exact z6 (zB5 hj e3) hk
  have ma:j*sz+off+l.length<=vs.size:=by
   rcases Nat.eq_zero_or_pos (off+l.length)with h0|h0
   ·rcases Nat.eq_zero_or_pos sz with Ia|Ia
    ·simp[Ia];omega
    ·have:=mT 0 Ia;omega
   ·have:=mT (off+l.length-1) va5;omega
  have K4:=bK (P:=P) hi e2 (v:=a.eval y) (o:=j*sz+off) va5 va5 c3;obtain⟨f1,f2,f3⟩:=N2 b vs (x8 vs (j*sz+off) (a.eval y).cells.toList) ty (0,0) e2;refine iB L0 K4 ⟨_,_,hK,β,F,fun _ _=>rfl,hR.write (by rw[hr];simp) nd f1 f2 (fun _ => .imm (.any _)) (fun hk=>?_) (fun _ _ _ _ h=>by cases h)⟩;obtain⟨_,q1,q2,_⟩:=hr ▸ hR.rows id;rw[hb]at q1;cases q1
  refine⟨hd,hb,q2,by rw[lI];simp,.inr ⟨b,_,hh,f3,by simpa using e3,e4,by rw[C0 va5];exact e5,fun p q hp hq=>?_⟩⟩;have ph:p<zs.length:=by simpa using hp
  rw[B9 va5,TI];by_cases Ls:p=j
  ·subst Ls;have eg:(zs.set p yy).getD p d=yy:=by simp[List.getD,ph]
   rw[eg,hy1,fU (by rw[List.length_map];omega),List.length_map,gF];by_cases Ib:off<=q/\q<off+l.length
   ·have c:p*sz+off<=p*sz+q/\p*sz+q<p*sz+off+l.length:=by omega
    rw[if_pos Ib,if_pos c];have H7:=(c2 (q-off) va5).shut (H0 S9 _);have ee:(a.eval y).cells.toList.getD (p*sz+q-(p*sz+off)) undef=(a.eval y).cells.getD (q-off) undef:=by
     rw[show p*sz+q-(p*sz+off)=q-off by omega];simp[List.getD,Array.getD_eq_getD_getElem?]
    rw[ee];exact(H7.mono (fun _ h=>h) hk).tts
   ·have c:¬ (p*sz+off<=p*sz+q/\p*sz+q<p*sz+off+l.length):=by omega
    rw[if_neg Ib,if_neg c];exact(e6 p q ph hq).mono (fun _ h=>h) hk
  ·have eg:(zs.set j yy).getD p d=zs.getD p d:=by simp[List.getD,List.getElem?_set,Ne.symm Ls]
   have c:¬ (j*sz+off<=p*sz+q/\p*sz+q<j*sz+off+l.length):=by
    rcases Nat.lt_or_gt_of_ne Ls with z8|sJ
    ·have:=z6 z8 hq;omega
    ·have:(j+1)*sz<=p*sz:=Nat.mul_le_mul_right sz sJ;rw[Nat.add_mul]at this;omega
   rw[eg,if_neg c];exact(e6 p q ph hq).mono (fun _ h=>h) hk
 ·exact h.elim
end

end Go.Ev
