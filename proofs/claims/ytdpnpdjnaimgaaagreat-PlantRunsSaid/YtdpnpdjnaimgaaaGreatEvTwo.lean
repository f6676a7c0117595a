/- Helper lemmas. -/
import Derived.Test.YtdpnpdjnaimgaaaGreatEvOne
set_option linter.unusedVariables false
set_option linter.unusedSimpArgs false
/- Each operation does what its abstract twin says (second part). A helper text: it speaks of no program. -/
namespace Go.Ev
section
variable {P:Program}{B:Nat->Prop}{w0:World}{F0:Env P}{S:St}{β:Nat->Option Hd}{F:Nat->Prop}{a:Act}{w:World}
def y6(B:Nat->Prop)(w0:World)(F0:Env P)(S:St)(β:Nat->Option Hd)(dst:Option Nat)(K:Out->List Nat->Prop)(a':Act)(w':World):Prop :=
 ∃ out rd,K out rd/\∃ β' F',(∀ j,dst≠some j->β' j=β j)/\Rel B w0 F0 (S.put dst out) β' F' a' w'
theorem eC{o:Oper}{v:Value}{w':World}{next:Act->World->Prop}{Q:Exit->Act->World->Prop}(h:(execOp a.eval o).run P w = .ok (.value v) w')(hn:next (a.put o.dst v) w'):o.wp P a w next Q:=by
 unfold Oper.wp;rw[h];exact hn
theorem y6.still(hR:Rel B w0 F0 S β F a w){dst:Option Nat}{K:Out->List Nat->Prop}{x:AV}{v:Value}{rd:List Nat}(hv:B4 β F w x v)(hK:K ⟨x,[]⟩ rd):y6 B w0 F0 S β dst K (a.put dst v) w :=
 ⟨_,rd,hK,β,F,fun _ _=>rfl,hR.still hv⟩
theorem FH{op:BinOp}{lit:Bool}{k k':IntKind}{x y:Int}{K:AV->Prop}(t:TypeId)(xo yo:Operand)(h:ur op lit k x k' y K) :
  ∃ r v,(do eqGuard op t xo yo (.int k x) (.int k' y);binOp op t (.int k x) (.int k' y):Sem Value).run P w = .ok v w/\B4 β F w r v/\K r:=by
 have hg:(eqGuard op t xo yo (.int k x) (.int k' y)).run P w = .ok () w:=by cases op<;>simp[eqGuard]
 simp only[Sem.run_bind,hg,Result.andThen_ok];cases op
 case shl =>
  obtain⟨h0,hK⟩:=(C3 _ _ _).1 h;refine⟨_,_,?_,.imm (.int _ _),hK⟩;simp[binOp,Op.shift,show ¬ y<0 by omega]
 case shr =>
  obtain⟨h0,hK⟩:=(C3 _ _ _).1 h;refine⟨_,_,?_,.imm (.int _ _),hK⟩;simp[binOp,Op.shift,show ¬ y<0 by omega]
 all_goals
  simp only[ur]at h;obtain rfl:k=k':=by
   by_cases hk:k=k'
   ·exact hk
   ·simp[hk]at h
  simp only[decide_true]at h
 case quo =>
  obtain⟨h0,hK⟩:=(C3 _ _ _).1 h;exact⟨_,_,by simp[binOp,Op.intDiv,h0],.imm (.int _ _),hK⟩
 case rem =>
  obtain⟨h0,hK⟩:=(C3 _ _ _).1 h;exact⟨_,_,by simp[binOp,Op.intDiv,h0],.imm (.int _ _),hK⟩
 case and=>exact⟨_,_,by simp[binOp,intBits_and],.imm (.int _ _),h⟩
 case or=>exact⟨_,_,by simp[binOp,intBits_or],.imm (.int _ _),h⟩
 case xor=>exact⟨_,_,by simp[binOp,intBits_xor],.imm (.int _ _),h⟩
 case andNot=>exact⟨_,_,by simp[binOp,intBits_andNot],.imm (.int _ _),h⟩
 case eql =>
  refine⟨_,_,by simp[binOp,Op.intCmp];rfl,?_,h⟩;exact .imm (.bool _)
 case neq =>
  refine⟨_,_,by simp[binOp,Op.intCmp];rfl,?_,h⟩;exact .imm (.bool _)
 all_goals exact⟨_,_,by simp[binOp,Op.intCmp,Op.intArith];rfl,.imm (by constructor),h⟩
theorem H3(op:BinOp)(t:TypeId)(xo yo:Operand){x y:Value}(h1:∀ xs ys,x = .agg xs->y = .agg ys->False)(h2:x = .nilIface->y = .nilIface->False) :
  (eqGuard op t xo yo x y).run P w = .ok () w:=by
 cases x<;>cases y<;>first|exact(h1 _ _ rfl rfl).elim|exact(h2 rfl rfl).elim|(cases op<;>simp[eqGuard])
theorem U7:∀ {ks:List Bool} {l m:List AV} {b:Bool},H2 ks l m=some b->l.length=ks.length/\m.length=ks.length
 | [],[],[],_,_=>⟨rfl,rfl⟩
 | k :: ks,a :: l,c :: m,b,h=>by
  simp only[H2]at h;cases h1:dZ k a c with
  | none=>simp[h1]at h
  | some x =>
   cases h2:H2 ks l m with
   | none=>simp[h1,h2]at h
   | some y=>obtain⟨e1,e2⟩:=U7 h2;simp[e1,e2]
 | [],_ :: _,_,_,h=>by simp[H2]at h
 | [],[],_ :: _,_,h=>by simp[H2]at h
 | _ :: _,[],_,_,h=>by simp[H2]at h
 | _ :: _,_ :: _,[],_,h=>by simp[H2]at h
theorem iF:∀ {ks ls:List Bool} {l m:List AV} {b:Bool},H2 (ks++ls) l m=some b->∃ x y,H2 ks (l.take ks.length) (m.take ks.length)=some x/\H2 ls (l.drop ks.length) (m.drop ks.length)=some y/\b=(x && y)
 | [],ls,l,m,b,h=>⟨true,b,rfl,by simpa using h,by simp⟩
 | k :: ks,ls,a :: l,c :: m,b,h=>by
  simp only[List.cons_append,H2,zB2,List.take_succ_cons,List.drop_succ_cons]at h ⊢;cases h1:dZ k a c with
  | none=>simp[h1]at h
  | some x =>
   cases h2:H2 (ks++ls) l m with
   | none=>simp[h1,h2]at h
   | some y =>
    simp only[h1,h2,Option.some.injEq]at h;obtain⟨x',y',e1,e2,e3⟩:=iF h2;refine⟨x && x',y',by simp[e1],e2,?_⟩;rw[<- h,e3,Bool.and_assoc]
 | _ :: _,_,[],_,_,h=>by simp[H2]at h
 | _ :: _,_,_ :: _,[],_,h=>by simp[H2]at h
theorem qs{x y:AV}{v u:Value}{b:Bool}(hx:B4 β F w x v)(hy:B4 β F w y u)(h:dZ true x y=some b):∃ k p q,v = .int k p/\u = .int k q/\b=(p == q):=by
 cases x<;>cases y<;>simp only[dZ,reduceCtorEq]at h
 case int.int k p k' q =>
  by_cases hk:k=k'
  ·subst hk;simp at h;exact⟨k,p,q,hx.int_inv,hy.int_inv,by rw[<- h];rfl⟩
  ·simp[hk]at h
theorem yE{x y:AV}{v u:Value}{b:Bool}(hx:B4 β F w x v)(hy:B4 β F w y u)(h:dZ false x y=some b):∃ p q:Bool,v = .bool p/\u = .bool q/\b=(p == q):=by
 cases x<;>cases y<;>simp only[dZ,reduceCtorEq,Option.some.injEq]at h<;>subst h
 all_goals
  first
   | exact⟨_,_,hx.tt_inv,hy.tt_inv,by simp⟩
   | exact⟨_,_,hx.tt_inv,hy.ff_inv,by simp⟩
   | exact⟨_,_,hx.ff_inv,hy.tt_inv,by simp⟩
   | exact⟨_,_,hx.ff_inv,hy.ff_inv,by simp⟩
   | exact⟨_,_,hx.tt_inv,hy.bool_inv,by simp⟩
   | exact⟨_,_,hx.ff_inv,hy.bool_inv,by simp⟩
   | exact⟨_,_,hx.bool_inv,hy.tt_inv,by simp⟩
   | exact⟨_,_,hx.bool_inv,hy.ff_inv,by simp⟩
   | exact⟨_,_,hx.bool_inv,hy.bool_inv,by simp⟩
theorem yF{xs:List AV}{off:Nat}(h:off<xs.length):(xs.drop off).take 1=[xs.getD off .any]:=by
 rw[List.drop_eq_getElem_cons h,List.take_succ_cons,List.take_zero];simp[h]
theorem oG{t:TypeId}{fs:Array Field}(h:P.underlying t=some (.struct fs)):P.fieldsOf t=fs:=by simp[Program.fieldsOf,h]
theorem IE(n:Nat):(∀ t ks,bc P n t=some ks->∀ (xs ys:List AV) (vs us:Array Value) (off:Nat) (b:Bool) (d:Nat),n<=d ->
      il (B4 β F w) xs vs->il (B4 β F w) ys us->H2 ks ((xs.drop off).take ks.length) ((ys.drop off).take ks.length)=some b ->
      ks.length=P.cellsOf t/\∃ p q,(part t vs off).run P w = .ok p w/\(part t us off).run P w = .ok q w/\(Op.equalIn d t p q).run P w = .ok b w) /\
    (∀ (fs:List Field) (at_:Nat) ks,U6 P n fs at_=some ks->∀ (xs ys:List AV) (vs us:Array Value) (b:Bool) (d:Nat),n<=d ->
      il (B4 β F w) xs vs->il (B4 β F w) ys us->H2 ks ((xs.drop at_).take ks.length) ((ys.drop at_).take ks.length)=some b->(Op.eqFields d vs us fs).run P w = .ok b w):=by
  induction n with
  | zero=>exact⟨fun t ks h=>by simp[bc]at h,fun fs at_ ks h=>by simp[U6]at h⟩
  | succ n ih =>
    refine⟨fun t ks h xs ys vs us off b d hd hx hy hb=>?_,fun fs at_ ks h xs ys vs us b d hd hx hy hb=>?_⟩
    · obtain⟨d,rfl⟩:∃ e,d=e+1:=⟨d-1,va5⟩
      obtain⟨lf,IF⟩:=U7 hb;simp only[zB1,List.length_drop]at lf IF;have single:∀ k,ks=[k]->(∃ p q,(vs[off]? = some p)/\(us[off]? = some q)/\B4 β F w (xs.getD off .any) p/\B4 β F w (ys.getD off .any) q/\dZ k (xs.getD off .any) (ys.getD off .any)=some b):=by
        intro k hk;subst hk;simp only[zB2,List.length_nil]at hb lf IF;have Ps:off<xs.length:=by omega
        have Pt:off<ys.length:=by omega
        refine⟨vs.getD off undef,us.getD off undef,by simp[hx.1 ▸ Ps],by simp[hy.1 ▸ Pt],hx.2 off Ps,hy.2 off Pt,?_⟩;rw[Nat.zero_add,yF Ps,yF Pt]at hb;simp only[H2]at hb;cases hc:dZ k (xs.getD off .any) (ys.getD off .any)with
        | none=>simp only[hc]at hb;cases hb
        | some z=>simp only[hc,Bool.and_true]at hb;rw[hb]
      unfold bc at h;cases hu:P.underlying t with
      | none=>simp[hu]at h
      | some td =>
        cases td<;>simp only[hu,reduceCtorEq]at h
        case int k =>
          cases hc:Nat.beq (P.cellsOf t) 1 with
          | false=>simp[hc]at h
          | true =>
            simp[hc]at h;obtain⟨p,q,h1,h2,h3,h4,h5⟩:=single _ h.symm;refine⟨by rw[<- h,zA8 hc];rfl,p,q,by simp[part,isAgg,run_underlying hu,h1],by simp[part,isAgg,run_underlying hu,h2],?_⟩;obtain⟨k',p',q',rfl,rfl,rfl⟩:=qs h3 h4 h5;exact run_equalIn_int w d t k' k p' q' hu
        case bool =>
          cases hc:Nat.beq (P.cellsOf t) 1 with
          | false=>simp[hc]at h
          | true =>
            simp[hc]at h;obtain⟨p,q,h1,h2,h3,h4,h5⟩:=single _ h.symm;refine⟨by rw[<- h,zA8 hc];rfl,p,q,by simp[part,isAgg,run_underlying hu,h1],by simp[part,isAgg,run_underlying hu,h2],?_⟩;obtain⟨p',q',rfl,rfl,rfl⟩:=yE h3 h4 h5;exact run_equalIn_bool w d t p' q' hu
        case struct fs =>
          cases hp:P.stoodInHeld t with
          | true=>simp[hp]at h
          | false =>
            simp only[hp]at h;cases hf:U6 P n fs.toList 0 with
            | none=>simp[hf]at h
            | some ls =>
              simp only[hf]at h;cases hc:Nat.beq ls.length (P.cellsOf t)with
              | false=>simp[hc]at h
              | true =>
                simp only[hc,Option.some.injEq]at h;subst h;have hlen:=zA8 hc;obtain⟨i,hi⟩:=info_of_underlying hu;have H5:(sizeOf t).run P w = .ok ls.length w:=by rw[run_sizeOf w hi,hlen]
                refine⟨hlen,.agg (vs.extract off (off+ls.length)),.agg (us.extract off (off+ls.length)),by simp[part,isAgg,run_underlying hu,H5],by simp[part,isAgg,run_underlying hu,H5],?_⟩;rw[run_equalIn_struct w d t _ _ (by rw[oG hu];exact hu) hp,oG hu];have Ya:∀ {zs:List AV} {ws:Array Value},il (B4 β F w) zs ws->ls.length=min ls.length (zs.length-off)->il (B4 β F w) ((zs.drop off).take ls.length) (ws.extract off (off+ls.length)):=by
                  intro zs ws hz hm;refine⟨by simp[<- hz.1];omega,fun i hi=>?_⟩;simp only[zB1,List.length_drop]at hi;have:=hz.2 (off+i) va5;have e1:((zs.drop off).take ls.length).getD i .any=zs.getD (off+i) .any:=by
                    simp[List.getD,List.getElem?_take,show i<ls.length by omega]
                  have e2:(ws.extract off (off+ls.length)).getD i undef=ws.getD (off+i) undef:=by
                    simp[Array.getD_eq_getD_getElem?,Array.getElem?_extract,<- hz.1];simp[show i<min (off+ls.length) zs.length-off by omega]
                  rw[e1,e2];exact this
                have yG:=Ya hx lf.symm;have VJ:=Ya hy IF.symm;exact ih.2 _ _ _ hf _ _ _ _ b d va5 yG VJ (by simpa[List.take_take]using hb)
    · cases fs with
      | nil =>
        simp[U6]at h;subst h;simp[H2]at hb;subst hb;simp[Op.eqFields]
      | cons f fs =>
        simp only[U6]at h
        cases hc:((f.name != "_") && Nat.beq f.offset at_)with
        | false=>simp[hc]at h
        | true =>
          simp only[hc]at h;simp at hc;obtain⟨hn,ho⟩:=hc;cases h1:bc P n f.type with
          | none=>simp[h1]at h
          | some k1 =>
            simp only[h1]at h;cases h2:U6 P n fs (at_+k1.length)with
            | none=>simp[h2]at h
            | some k2 =>
              simp only[h2,Option.some.injEq]at h;subst h;obtain⟨x,y,e1,e2,e3⟩:=iF hb;simp only[List.length_append,List.take_take,List.drop_take,List.drop_drop]at e1 e2;rw[show min k1.length (k1.length+k2.length)=k1.length by omega]at e1;rw[show k1.length+k2.length-k1.length=k2.length by omega]at e2;obtain⟨_,p,q,r1,r2,r3⟩:=ih.1 _ _ h1 xs ys vs us at_ x d va5 hx hy e1;have r4:=ih.2 _ _ _ h2 xs ys vs us y d va5 hx hy e2;have M4:f.offset=at_:=ho;simp only[Op.eqFields,hn,ne_eq,not_false_eq_true,if_true,Sem.run_bind,M4,r1,r2,r3,Result.andThen_ok];cases x
              · simp[e3]
              · simpa[e3]using r4
end
/- Each operation does what its abstract twin says (third part). A helper text: it speaks of no program. -/
section
variable {P:Program}{B:Nat->Prop}{w0:World}{F0:Env P}{S:St}{β:Nat->Option Hd}{F:Nat->Prop}{a:Act}{w:World}
theorem jG(d:Nat){t e:TypeId}(hu:P.underlying t=some (.pointer e))(p:Option Addr):(Op.equalIn (d+1) t (.pointer none) (.pointer p)).run P w = .ok p.isNone w:=by
 simp[Op.equalIn,run_underlying hu]
theorem jH(d:Nat){t e:TypeId}(hu:P.underlying t=some (.pointer e))(p:Option Addr):(Op.equalIn (d+1) t (.pointer p) (.pointer none)).run P w = .ok p.isNone w:=by
 cases p<;>simp[Op.equalIn,run_underlying hu]
theorem kt(d:Nat){t e:TypeId}(hu:P.underlying t=some (.slice e))(p:Option Addr)(n c n' c':Nat):(Op.equalIn (d+1) t (.slice none n c) (.slice p n' c')).run P w = .ok p.isNone w:=by
 simp[Op.equalIn,run_underlying hu]
theorem ax{t e:TypeId}(hu:P.underlying t=some (.pointer e))(p:Option Addr):(Op.equal t (.pointer none) (.pointer p)).run P w = .ok p.isNone w:=jG 9999 hu p
theorem dJ{t e:TypeId}(hu:P.underlying t=some (.pointer e))(p:Option Addr):(Op.equal t (.pointer p) (.pointer none)).run P w = .ok p.isNone w:=jH 9999 hu p
theorem fc{t e:TypeId}(hu:P.underlying t=some (.slice e))(p:Option Addr)(n c n' c':Nat):(Op.equal t (.slice none n c) (.slice p n' c')).run P w = .ok p.isNone w:=kt 9999 hu p n c n' c'
theorem jI(d:Nat){t e:TypeId}(hu:P.underlying t=some (.slice e))(p:Addr)(n c:Nat):(Op.equalIn (d+1) t (.slice (some p) n c) (.slice none 0 0)).run P w = .ok false w:=by
 simp[Op.equalIn,run_underlying hu]
theorem fW{t e:TypeId}(hu:P.underlying t=some (.slice e))(p:Addr)(n c:Nat):(Op.equal t (.slice (some p) n c) (.slice none 0 0)).run P w = .ok false w:=jI 9999 hu p n c
theorem pC{t:TypeId}(hu:P.underlying t=some .bool)(a b:Bool):(Op.equal t (.bool a) (.bool b)).run P w = .ok (a == b) w:=run_equalIn_bool w _ t a b hu
theorem FI{t:TypeId}{x y:Value}{b:Bool}(h:(Op.equal t x y).run P w = .ok b w)(hx:∀ k n,x ≠ .int k n)(hf:∀ k n,x ≠ .float k n)(hc:∀ k n m,x ≠ .complex k n m)(hs:∀ s,x ≠ .string s) :
  (binOp .eql t x y).run P w = .ok (.bool b) w:=by
 cases x<;>first|exact(hx _ _ rfl).elim|exact(hf _ _ rfl).elim|exact(hc _ _ _ rfl).elim|exact(hs _ rfl).elim|(simp only[binOp,Sem.run_bind,h,Result.andThen_ok];rfl)
theorem FJ{t:TypeId}{x y:Value}{b:Bool}(h:(Op.equal t x y).run P w = .ok b w)(hx:∀ k n,x ≠ .int k n)(hf:∀ k n,x ≠ .float k n)(hc:∀ k n m,x ≠ .complex k n m)(hs:∀ s,x ≠ .string s) :
  (binOp .neq t x y).run P w = .ok (.bool (!b)) w:=by
 cases x<;>first|exact(hx _ _ rfl).elim|exact(hf _ _ rfl).elim|exact(hc _ _ _ rfl).elim|exact(hs _ rfl).elim|(simp only[binOp,Sem.run_bind,h,Result.andThen_ok];rfl)
theorem eD{op:BinOp}{t:TypeId}(xo yo:Operand){x y:Value}{b:Bool}{K:AV->Prop}(h:(Op.equal t x y).run P w = .ok b w)
  (hx:(∀ k n,x ≠ .int k n)/\(∀ k n,x ≠ .float k n)/\(∀ k n m,x ≠ .complex k n m)/\∀ s,x ≠ .string s)
  (hg:(eqGuard op t xo yo x y).run P w = .ok () w) {r r':AV} (hr:B4 β F w r (.bool b)) (PY:B4 β F w r' (.bool !b))
  (hK:(op = .eql/\K r)∨(op = .neq/\K r')) :
  ∃ r v,(do eqGuard op t xo yo x y;binOp op t x y:Sem Value).run P w = .ok v w/\B4 β F w r v/\K r:=by
 simp only[Sem.run_bind,hg,Result.andThen_ok];rcases hK with ⟨rfl,hK⟩|⟨rfl,hK⟩
 ·exact⟨_,_,FI h hx.1 hx.2.1 hx.2.2.1 hx.2.2.2,hr,hK⟩
 ·exact⟨_,_,FJ h hx.1 hx.2.1 hx.2.2.1 hx.2.2.2,PY,hK⟩
theorem B4.pt_ptr{cs:List AV}{off:Nat}{v:Value}(h:B4 β F w (.pt cs off) v):∃ a,v = .pointer (some a):=by
 obtain⟨b,o,g,rfl,_⟩:=h.pt_inv;exact⟨_,rfl⟩
theorem B4.ptr_ptr{id sz i off:Nat}{v:Value}(h:B4 β F w (.ptr id sz i off) v):∃ a,v = .pointer (some a):=by
 obtain⟨hd,b,_,_,rfl⟩:=h.ptr_inv;exact⟨_,rfl⟩
theorem uw{e:TypeId}{kk:IntKind}(hu:P.underlying e=some (.int kk)){xs ys:List AV}{vs us:Array Value}(hx:il (B4 β F w) xs vs)(hy:il (B4 β F w) ys us)(d:Nat):∀ (ks:List Bool) (off:Nat) (b:Bool),(ks.all fun k=>k)=true ->
  H2 ks ((xs.drop off).take ks.length) ((ys.drop off).take ks.length)=some b->(Op.eqItems (d+1) e 1 vs us (List.range' off ks.length)).run P w = .ok b w
 | [],off,b,_,h=>by
  simp only[List.length_nil,List.take_zero,H2,Option.some.injEq]at h;subst h;simp[Op.eqItems]
 | k :: ks,off,b,hk,h=>by
  simp only[List.all_cons,zA2]at hk;obtain⟨l1,l2⟩:=U7 h;simp only[zB1,List.length_drop,zB2]at l1 l2;have Ps:off<xs.length:=by omega
  have Pt:off<ys.length:=by omega
  have ex:xs.drop off=xs.getD off .any :: xs.drop (off+1):=by rw[List.drop_eq_getElem_cons Ps];simp[List.getD,Ps]
  have ey:ys.drop off=ys.getD off .any :: ys.drop (off+1):=by rw[List.drop_eq_getElem_cons Pt];simp[List.getD,Pt]
  rw[ex,ey,zB2,List.take_succ_cons,List.take_succ_cons]at h;simp only[H2]at h;cases h1:dZ k (xs.getD off .any) (ys.getD off .any)with
  | none=>simp only[h1,reduceCtorEq]at h
  | some x =>
   cases h2:H2 ks ((xs.drop (off+1)).take ks.length) ((ys.drop (off+1)).take ks.length)with
   | none=>simp only[h1,h2,reduceCtorEq]at h
   | some y =>
    simp only[h1,h2,Option.some.injEq]at h;subst h;rw[hk.1]at h1;have ih:=uw hu hx hy d ks (off+1) y hk.2 h2;obtain⟨k',p',q',e1,e2,rfl⟩:=qs (hx.2 off Ps) (hy.2 off Pt) h1;have g1:vs[off]? = some (.int k' p'):=by rw[<- e1];simp[hx.1 ▸ Ps]
    have g2:us[off]? = some (.int k' q'):=by rw[<- e2];simp[hy.1 ▸ Pt]
    have r1:(part e vs (off*1)).run P w = .ok (.int k' p') w:=by rw[Nat.mul_one];simp[part,isAgg,run_underlying hu,g1]
    have r2:(part e us (off*1)).run P w = .ok (.int k' q') w:=by rw[Nat.mul_one];simp[part,isAgg,run_underlying hu,g2]
    have r3:(Op.equalIn (d+1) e (.int k' p') (.int k' q')).run P w = .ok (p' == q') w:=run_equalIn_int w d e k' kk p' q' hu;rw[zB2,List.range'_succ];simp only[Op.eqItems,Sem.run_bind,r1,r2,r3,Result.andThen_ok];cases VK:(p' == q')
    ·simp
    ·simpa using ih
theorem FK{op:BinOp}{t:TypeId}{lit:Bool}{x y:AV}{xv yv:Value}{K:AV->Prop}(xo yo:Operand)(hx:B4 β F w x xv)(hy:B4 β F w y yv)(h:uu P op t lit x y K) :
  ∃ r v,(do eqGuard op t xo yo xv yv;binOp op t xv yv:Sem Value).run P w = .ok v w/\B4 β F w r v/\K r:=by
 have Tq:∀ a:Addr,((∀ k n,Value.pointer (some a) ≠ .int k n)/\(∀ k n,Value.pointer (some a) ≠ .float k n)/\(∀ k n m,Value.pointer (some a) ≠ .complex k n m)/\∀ s,Value.pointer (some a) ≠ .string s) :=
  fun a=>⟨nofun,nofun,nofun,nofun⟩
 have PZ:((∀ k n,Value.pointer none ≠ .int k n)/\(∀ k n,Value.pointer none ≠ .float k n)/\(∀ k n m,Value.pointer none ≠ .complex k n m)/\∀ s,Value.pointer none ≠ .string s) :=
  ⟨nofun,nofun,nofun,nofun⟩
 -- Yb and nils
 have rest:∀ z u,z=x->u=y->(match z.toB,u.toB with
   | some a,some b=>match P.underlying t with
    | some .bool=>R5 op (K (.bool (a == b))) (K (.bool (a != b)))
    | _=>False
   | _,_=>match P.underlying t with
    | some (.pointer _)=>match z,u with
     | .nilp,.nilp=>R5 op (K .tt) (K .ff)
     | .nilp,.pt (_ :: _) _=>R5 op (K .ff) (K .tt)
     | .nilp,.ptr .. => R5 op (K .ff) (K .tt)
     | .pt _ _,.nilp=>R5 op (K .ff) (K .tt)
     | .ptr ..,.nilp=>R5 op (K .ff) (K .tt)
     | _,_=>False
    | some (.slice _)=>match z,u with
     | .nils,.nils=>R5 op (K .tt) (K .ff)
     | _,_=>False
    | _=>False)->∃ r v,(do eqGuard op t xo yo xv yv;binOp op t xv yv:Sem Value).run P w = .ok v w/\B4 β F w r v/\K r:=by
  rintro z u rfl rfl h;split at h
  ·rename_i a b ha hb;have e1:=hx.toB_inv ha;have e2:=hy.toB_inv hb;subst e1;subst e2;split at h
   ·rename_i hu;refine eD xo yo (pC hu a b) ⟨nofun,nofun,nofun,nofun⟩
     (H3 op t xo yo nofun nofun) (.imm (.bool _)) (.imm (.bool _)) ?_
    rcases P6 h with ⟨h1,h2⟩|⟨h1,h2⟩
    ·exact .inl ⟨h1,h2⟩
    ·exact .inr ⟨h1,h2⟩
   ·exact h.elim
  ·split at h
   ·rename_i e hu;split at h
    ·rw[hx.nilp_inv,hy.nilp_inv];exact eD xo yo (ax hu none) PZ (H3 op t xo yo nofun nofun) (.imm .tt) (.imm .ff) (P6 h)
    ·obtain⟨p,rfl⟩:=hy.pt_ptr;rw[hx.nilp_inv];exact eD xo yo (ax hu (some p)) PZ (H3 op t xo yo nofun nofun) (.imm .ff) (.imm .tt) (P6 h)
    ·obtain⟨p,rfl⟩:=hy.ptr_ptr;rw[hx.nilp_inv];exact eD xo yo (ax hu (some p)) PZ (H3 op t xo yo nofun nofun) (.imm .ff) (.imm .tt) (P6 h)
    ·obtain⟨p,rfl⟩:=hx.pt_ptr;rw[hy.nilp_inv];exact eD xo yo (dJ hu (some p)) (Tq p) (H3 op t xo yo nofun nofun) (.imm .ff) (.imm .tt) (P6 h)
    ·obtain⟨p,rfl⟩:=hx.ptr_ptr;rw[hy.nilp_inv];exact eD xo yo (dJ hu (some p)) (Tq p) (H3 op t xo yo nofun nofun) (.imm .ff) (.imm .tt) (P6 h)
    ·exact h.elim
   ·rename_i e hu;split at h
    ·rw[hx.nils_inv,hy.nils_inv];exact eD xo yo (fc hu none 0 0 0 0) ⟨nofun,nofun,nofun,nofun⟩
      (H3 op t xo yo nofun nofun) (.imm .tt) (.imm .ff) (P6 h)
    ·exact h.elim
   ·exact h.elim
 cases x with
 | int k p =>
  cases y with
  | int k' q =>
   rw[hx.int_inv,hy.int_inv];exact FH t xo yo h
  | _=>exact h.elim
 | agg xs =>
  cases y with
  | agg ys =>
   simp only[uu]at h;obtain⟨jV,h⟩:=h;generalize jj xs=ks at jV h;rw[zA9]at jV;rcases jV with jV|jV
   ·unfold Pr at jV;split at jV
    ·rename_i fs hu hg;cases hk:bc P 40 t with
     | none=>simp[hk]at jV
     | some Tp =>
      simp only[hk,beq_iff_eq]at jV;subst jV;cases hc:H2 Tp xs ys with
      | none=>simp[hc]at h
      | some b =>
       simp only[hc]at h;obtain⟨vs,rfl,hl,hr⟩:=hx.agg_inv;obtain⟨us,rfl,lC,PY⟩:=hy.agg_inv;obtain⟨l1,l2⟩:=U7 hc;obtain⟨H5,p,q,r1,r2,r3⟩:=(IE (P:=P) (β:=β) (F:=F) (w:=w) 40).1 t Tp hk xs ys vs us 0 b Op.maxDepth (by simp[Op.maxDepth]) ⟨hl,hr⟩ ⟨lC,PY⟩
        (by rw[List.drop_zero,List.drop_zero,List.take_of_length_le va5,List.take_of_length_le va5];exact hc)
       obtain⟨i,hi⟩:=info_of_underlying hu;have hs:(sizeOf t).run P w = .ok Tp.length w:=by rw[run_sizeOf w hi,H5]
       have e1:(part t vs 0).run P w = .ok (.agg vs) w:=by simp[part,isAgg,run_underlying hu,hs,<- l1,hl]
       have e2:(part t us 0).run P w = .ok (.agg us) w:=by simp[part,isAgg,run_underlying hu,hs,<- l2,lC]
       rw[e1]at r1;rw[e2]at r2;cases r1
       cases r2
       exact eD xo yo r3 ⟨nofun,nofun,nofun,nofun⟩ (run_eqGuard_agg w op t xo yo vs us hg) (.imm (.bool _)) (.imm (.bool _))
        (P6 h)
    ·cases jV
   ·unfold IC at jV;split at jV
    ·rename_i len e hu hg;split at jV
     ·rename_i inf kk hi YX;simp only[zA2]at jV;obtain⟨c1,c2,c3⟩:=jV;have c1:=zA8 c1;have c2:=zA8 c2;cases hc:H2 ks xs ys with
      | none=>simp[hc]at h
      | some b =>
       simp only[hc]at h;obtain⟨vs,rfl,hl,hr⟩:=hx.agg_inv;obtain⟨us,rfl,lC,PY⟩:=hy.agg_inv;obtain⟨l1,l2⟩:=U7 hc;have:=uw YX (w:=w) ⟨hl,hr⟩ ⟨lC,PY⟩ 9998 ks 0 b c3 (by rw[List.drop_zero,List.drop_zero,List.take_of_length_le va5,List.take_of_length_le va5];exact hc);have r3:(Op.equal t (.agg vs) (.agg us)).run P w = .ok b w:=by
        show(Op.equalIn (9999+1) t (.agg vs) (.agg us)).run P w=_
        rw[run_equalIn_array w 9999 vs us hu hi,c1,<- c2,List.range_eq_range'];exact this
       exact eD xo yo r3 ⟨nofun,nofun,nofun,nofun⟩ (run_eqGuard_agg w op t xo yo vs us hg) (.imm (.bool _)) (.imm (.bool _))
        (P6 h)
     ·cases jV
    ·cases jV
  | _=>exact h.elim
 | any=>exact rest _ _ rfl rfl h
 | tt=>exact rest _ _ rfl rfl h
 | ff=>exact rest _ _ rfl rfl h
 | bool b=>exact rest _ _ rfl rfl h
 | str s=>exact rest _ _ rfl rfl h
 | nilp=>exact rest _ _ rfl rfl h
 | nils=>exact rest _ _ rfl rfl h
 | nilf=>exact rest _ _ rfl rfl h
 | tup l=>exact rest _ _ rfl rfl h
 | sl sz d enc l=>exact rest _ _ rfl rfl h
 | slc sz D5=>exact rest _ _ rfl rfl h
 | sf sz d enc l=>exact rest _ _ rfl rfl h
 | pt cs off=>exact rest _ _ rfl rfl h
 | ptr id sz i off=>exact rest _ _ rfl rfl h
 | own id=>exact rest _ _ rfl rfl h
 | mem id i=>exact rest _ _ rfl rfl h
 | mptr id i k=>exact rest _ _ rfl rfl h
 | fn f xs ys=>exact rest _ _ rfl rfl h
end
/- Each operation does what its abstract twin says (fourth part): memory. A helper text: it speaks of no program. -/
section
variable {P:Program}{B:Nat->Prop}{w0:World}{F0:Env P}{S:St}{β:Nat->Option Hd}{F:Nat->Prop}{a:Act}{w:World}
theorem IH{op:UnOp}{x:AV}{v:Value}{K:AV->Prop}(hx:B4 β F w x v)(h:FF op x K):∃ r u,(Op.unary op v).run P w = .ok u w/\B4 β F w r u/\K r:=by
 cases op<;>cases x<;>simp only[FF]at h
 case not.tt=>rw[hx.tt_inv];exact⟨_,_,rfl,.imm .ff,h⟩
 case not.ff=>rw[hx.ff_inv];exact⟨_,_,rfl,.imm .tt,h⟩
 case not.bool b=>rw[hx.bool_inv];exact⟨_,_,rfl,.imm (.bool _),h⟩
 case neg.int k n=>rw[hx.int_inv];exact⟨_,_,rfl,.imm (.int _ _),h⟩
 case xor.int k n=>rw[hx.int_inv];exact⟨_,_,rfl,.imm (.int _ _),h⟩
 all_goals exact h.elim
theorem U8(b o j:Nat):(⟨b,o,none⟩:Addr).add j=⟨b,o+j,none⟩:=by
 unfold Addr.add;split<;>simp_all
theorem iG(cs:List AV)(off n i:Nat)(hi:i<n):((cs.drop off).take n).getD i .any=cs.getD (off+i) .any:=by
 simp[List.getD,List.getElem?_take,hi]
theorem cZ{t:TypeId}{i:TypeInfo}{d:TypeDesc}(hi:P.info? t=some i)(hu:P.underlying t=some d){cs:List AV}{b o off:Nat}{g:Nat->Value}
  (hc:∀ j,j<cs.length->w.cell? ⟨b,o+j,none⟩=some (g j)) (hr:∀ j,j<cs.length->B4 β F w (cs.getD j .any) (g j)) {x:AV} (h:jT (aw d) i.size cs off=some x) :
  ∃ v,(Instr.loadAt t (.pointer (some ⟨b,o+off,none⟩))).run P w = .ok v w/\B4 β F w x v:=by
 unfold jT at h;cases hd:aw d with
 | true =>
  simp only[hd]at h;cases hb:Nat.ble (off+i.size) cs.length with
  | false=>simp[hb]at h
  | true =>
   simp only[hb,Option.some.injEq]at h;subst h;have hle:=Nat.le_of_ble_eq_true hb;have hl:=run_loadCells (P:=P) w ⟨b,o+off,none⟩ i.size (fun j=>g (off+j)) (fun j hj=>by rw[U8,Nat.add_assoc];exact hc _ va5);refine⟨.agg ((List.range i.size).map fun j=>g (off+j)).toArray,?_,.agg ?_ ?_⟩
   ·cases d<;>simp[aw]at hd<;>simp[Instr.loadAt,Instr.sureAddr,loadVar,isAgg,run_underlying hu,sizeOf,typeInfo,hi,hl]
   ·simp;omega
   ·intro j hj;simp only[zB1,List.length_drop]at hj;rw[iG _ _ _ _ va5];have e:(((List.range i.size).map fun j=>g (off+j)).toArray).getD j undef=g (off+j):=by
     simp[Array.getD_eq_getD_getElem?,show j<i.size by omega]
    rw[e];exact hr _ va5
 | false =>
  simp only[hd]at h;cases hb:Nat.blt off cs.length with
  | false=>simp[hb]at h
  | true =>
   simp only[hb,Option.some.injEq]at h;subst h;have A2:off<cs.length:=by simpa[Nat.blt_eq]using hb
   have I5:=hc off A2;refine⟨g off,?_,hr off A2⟩;cases d<;>simp[aw]at hd<;>simp[Instr.loadAt,Instr.sureAddr,loadVar,isAgg,run_underlying hu,I5]
theorem K5{o:Oper}{next:Act->World->Prop}{Q:Exit->Act->World->Prop}{s:Sem Value}(ho:execOp a.eval o=(do pure (.value (<- s)))){v:Value}{w':World}(hs:s.run P w = .ok v w')(hn:next (a.put o.dst v) w'):o.wp P a w next Q:=by
 refine eC (v:=v) (w':=w') ?_ hn;rw[ho];simp[hs]
theorem ux(hR:Rel B w0 F0 S β F a w){id:Nat}{ty:TypeId}{cs:List AV}(hr:S.row id = .cells ty cs){hd:Hd}{b:Nat}(hb:β id=some hd)(hh:hd.b=some b) :
  ∃ vs,w.heap[b]? = some (.cells vs ty (0,0))/\vs.size=cs.length/\∀ i,i<cs.length->B4 β F w (cs.getD i .any) (vs.getD i undef):=by
 have:=hR.rows id;rw[hr]at this;obtain⟨hd',b',vs,e1,em,e2,e3,e4,e5⟩:=this;rw[hb]at e1;cases e1
 rw[hh]at e2;cases e2
 exact⟨vs,e3,e4,e5⟩
theorem ay(hR:Rel B w0 F0 S β F a w){id:Nat}{ty:TypeId}{α:Type}{sz:Nat}{d:α}{enc:α->List AV}{l:List α}(hr:S.row id = .vec ty sz d enc l){hd:Hd}(hb:β id=some hd) :
  hd.len=l.length/\((l=[]/\hd.b=none/\hd.cap=0)∨∃ b vs,hd.b=some b/\w.heap[b]? = some (.cells vs ty (0,0)) /\
   l.length<=hd.cap/\hd.cap<=maxLen/\vs.size=hd.cap*sz/\∀ i j,i<l.length->j<sz->v7 F w ((enc (l.getD i d)).getD j .any) (vs.getD (i*sz+j) undef)):=by
 have:=hR.rows id;rw[hr]at this;obtain⟨hd',e1,em,e2,e3⟩:=this;rw[hb]at e1;cases e1
 exact⟨e2,e3⟩
theorem vS(hR:Rel B w0 F0 S β F a w){id:Nat}{ty:TypeId}{sz:Nat}{D5:List (List AV)}(hr:S.row id = .lit ty sz D5){hd:Hd}(hb:β id=some hd) :
  ∃ b vs,hd.b=some b/\w.heap[b]? = some (.cells vs ty (0,0))/\hd.len=D5.length/\vs.size=D5.length*sz/\∀ i j,i<D5.length->j<sz->B4 β F w ((D5.getD i []).getD j .any) (vs.getD (i*sz+j) undef):=by
 have:=hR.rows id;rw[hr]at this;obtain⟨hd',b,vs,e1,em,e2,e3,e4,_,e6,_,e8⟩:=this;rw[hb]at e1;cases e1
 exact⟨b,vs,e2,e3,e4,e6,e8⟩
theorem II(hR:Rel B w0 F0 S β F a w){o:Oper}{t:TypeId}{x:Operand}(ho:o.op = .load t x){K:Out->List Nat->Prop}(h:k7 P o.dst (.load t x) S.get S.row K){Q:Exit->Act->World->Prop} :
  o.wp P a w (y6 B w0 F0 S β o.dst K) Q:=by
 simp only[k7]at h;split at h
 ·rename_i i d hi hu;have hx:=hR.get x;have M4:execOp a.eval o=(do pure (.value (<- Instr.loadAt t (a.eval x)))):=by simp[execOp,ho]
  split at h
  ·rename_i cs off hg;rw[hg]at hx;obtain⟨b,ob,g,hv,hc,hr⟩:=hx.pt_inv;split at h
   ·rename_i v hl;obtain⟨u,h1,h2⟩:=cZ (P:=P) hi hu (fun j hj=>(hc j hj).2) (fun j hj=>B4.imm (β:=β) (hr j hj)) hl;rw[hv]at M4;exact K5 M4 h1 (y6.still hR h2 h)
   ·exact h.elim
  ·rename_i id sz j off hg;rw[hg]at hx;obtain⟨hd,b,hb,hh,hv⟩:=hx.ptr_inv;split at h
   ·rename_i ty cs hr;obtain⟨vs,e1,e2,e3⟩:=ux hR hr hb hh;split at h
    ·rename_i v hl;obtain⟨u,h1,h2⟩:=cZ (P:=P) (o:=0) (b:=b) (g:=fun j=>vs.getD j undef) hi hu (fun j hj=>by rw[Nat.zero_add];exact G0 e1 va5) e3 hl;rw[hv]at M4;rw[Nat.zero_add]at h1;exact K5 M4 h1 (y6.still hR h2 h)
    ·exact h.elim
   ·rename_i ty α yq d' enc l hr;split at h
    ·rename_i H5;split at h
     ·rename_i hlen;split at h
      ·rename_i v hl;obtain⟨hj,hK⟩:=h;have e0:=zA8 H5;have VL:=zA8 hlen;obtain⟨_,jJ⟩:=ay hR hr hb;rcases jJ with ⟨h1,h2,_⟩|⟨b',vs,e1,e2,e3,e4,e5,e6⟩
       ·rw[h1]at hj;simp at hj
       ·rw[hh]at e1;cases e1
        obtain⟨u,h1,h2⟩:=cZ (P:=P) (β:=β) (F:=F) (w:=w) (o:=j*sz) (b:=b) (g:=fun k=>vs.getD (j*sz+k) undef) hi hu
         (fun k hk=>G0 e2 (by
          rw[e5,<- e0];have:=z5 (zB5 hj e3) (show k<sz by omega)
          omega))
         (fun k hk => .imm (by have:=e6 j k hj va5;rw[<- e0]at this;exact this)) hl
        rw[hv]at M4;exact K5 M4 h1 (y6.still hR h2 hK)
      ·exact h.elim
     ·exact h.elim
    ·exact h.elim
   ·rename_i ty yq D5 hr;split at h
    ·rename_i H5;split at h
     ·rename_i hlen;split at h
      ·rename_i v hl;split at h
       ·rename_i YY;have hj:j<D5.length:=Nat.le_of_ble_eq_true YY;have e0:=zA8 H5;have VL:=zA8 hlen;obtain⟨b',vs,e1,e2,_,e5,e6⟩:=vS hR hr hb;rw[hh]at e1;cases e1
        obtain⟨u,h1,h2⟩:=cZ (P:=P) (β:=β) (F:=F) (w:=w) (o:=j*sz) (b:=b) (g:=fun k=>vs.getD (j*sz+k) undef) hi hu
         (fun k hk=>G0 e2 (by
          rw[e5,<- e0];have:=z5 hj (show k<sz by omega)
          omega))
         (fun k hk=>by have:=e6 j k hj va5;rw[<- e0]at this;exact this) hl
        rw[hv]at M4;exact K5 M4 h1 (y6.still hR h2 h)
       ·exact h.elim
      ·exact h.elim
     ·exact h.elim
    ·exact h.elim
   ·exact h.elim
  ·exact h.elim
 ·exact h.elim
theorem oH{β':Nat->Option Hd}{d:Nat}{len cap:Nat}{F:Nat->Prop}{w':World}{n:Nat}(h:β' d=some ⟨some n,len,cap,iw⟩):B4 β' F w' (.ptr d 0 0 0) (.pointer (some ⟨n,0,none⟩)):=by
 have:=B4.ptr (F:=F) (w:=w') (sz:=0) (i:=0) (off:=0) h rfl;simpa using this
theorem FL(hR:Rel B w0 F0 S β F a w){o:Oper}{t:TypeId}(ho:o.op = .alloc t)(B3:∀ d,o.dst=some d->β d=none){K:Out->List Nat->Prop}(h:k7 P o.dst (.alloc t) S.get S.row K){Q:Exit->Act->World->Prop} :
  o.wp P a w (y6 B w0 F0 S β o.dst K) Q:=by
 simp only[k7]at h;split at h
 ·rename_i d cs hd hz;unfold cu at hz;cases hi:P.info? t with
  | none=>simp[hi]at hz
  | some i =>
   cases hv:i.zero with
   | none=>simp[hi,hv]at hz
   | some z =>
    simp only[hi,hv,Option.some.injEq]at hz;have M4:execOp a.eval o=(do pure (.value (<- Instr.alloc t true (.tuple #[])))):=by simp[execOp,ho]
    have L9:(Instr.alloc t true (.tuple #[])).run P w = .ok (.pointer (some ⟨w.heap.size,0,none⟩)) (w.alloc (.cells z.cells t)):=by
     simp[Instr.alloc,zeroValue,typeInfo,hi,hv,newVar,newRow]
    obtain⟨β',h1,h2⟩:=hR.alloc (B3 d hd) (dst:=o.dst) (x := .ptr d 0 0 0) (v := .pointer (some ⟨w.heap.size,0,none⟩)) (r := .cells t cs) (vs:=z.cells) (ty:=t) 0 0
     (fun β' hb _=>oH hb)
     (fun β' hb _ hk=>⟨_,w.heap.size,z.cells,hb,rfl,rfl,O4 w _,by rw[<- hz];simp,fun j hj=>by
      rw[<- hz];have lh:j<z.cells.size:=by rw[<- hz]at hj;simpa using hj
      have e:(z.cells.toList.map AV.ofConst).getD j .any=AV.ofConst (z.cells.getD j undef):=by
       simp[List.getD,Array.getD_eq_getD_getElem?,lh]
      rw[e];exact .imm (.ofConst _)⟩) (fun _ _ _ _ h=>by cases h)
    exact K5 M4 L9 ⟨_,_,h,β',F,fun j hj=>h1 j (fun e=>hj (by rw[e];exact hd)),h2⟩
 ·exact h.elim
theorem MG(hR:Rel B w0 F0 S β F a w){o:Oper}{t:TypeId}{x:Operand}(ho:o.op = .box t x)(B3:∀ d,o.dst=some d->β d=none){K:Out->List Nat->Prop}(h:k7 P o.dst (.box t x) S.get S.row K){Q:Exit->Act->World->Prop} :
  o.wp P a w (y6 B w0 F0 S β o.dst K) Q:=by
 simp only[k7]at h;split at h
 ·rename_i d cs hd hz;obtain⟨c1,c2,c3⟩:=cells?_rep (hR.get x) hz;have M4:execOp a.eval o=(do pure (.value (<- Instr.box t (a.eval x)))):=by simp[execOp,ho]
  have L9:(Instr.box t (a.eval x)).run P w = .ok (.pointer (some ⟨w.heap.size,0,none⟩)) (w.alloc (.cells (a.eval x).cells t)):=by
   simp[Instr.box,newVar,newRow]
  obtain⟨β',h1,h2⟩:=hR.alloc (B3 d hd) (dst:=o.dst) (x := .ptr d 0 0 0) (v := .pointer (some ⟨w.heap.size,0,none⟩)) (r := .cells t cs) (vs:=(a.eval x).cells) (ty:=t) 0 0
   (fun β' hb _=>oH hb)
   (fun β' hb hg hk=>⟨_,w.heap.size,(a.eval x).cells,hb,rfl,rfl,O4 w _,c1,fun j hj=>(c2 j hj).grow hg (fun _ h=>h) hk⟩) (fun _ _ _ _ h=>by cases h)
  exact K5 M4 L9 ⟨_,_,h,β',F,fun j hj=>h1 j (fun e=>hj (by rw[e];exact hd)),h2⟩
 ·exact h.elim
end
/- Each operation does what its abstract twin says (fifth part): structs, stores, places. A helper text: it speaks of no program. -/
section
variable {P:Program}{B:Nat->Prop}{w0:World}{F0:Env P}{S:St}{β:Nat->Option Hd}{F:Nat->Prop}{a:Act}{w:World}
theorem Y6{t:TypeId}{cs:List AV}(h:cu P t=some cs):∃ i z,P.info? t=some i/\i.zero=some z/\cs=z.cells.toList.map AV.ofConst/\il (B4 β F w) cs z.cells:=by
 unfold cu at h;cases hi:P.info? t with
 | none=>simp[hi]at h
 | some i =>
  cases hv:i.zero with
  | none=>simp[hi,hv]at h
  | some z =>
   simp only[hi,hv,Option.some.injEq]at h;refine⟨i,z,rfl,hv,h.symm,by rw[<- h];simp,fun j hj=>?_⟩;rw[<- h];have lh:j<z.cells.size:=by rw[<- h]at hj;simpa using hj
   have e:(z.cells.toList.map AV.ofConst).getD j .any=AV.ofConst (z.cells.getD j undef):=by
    simp[List.getD,Array.getD_eq_getD_getElem?,lh]
   rw[e];exact .imm (.ofConst _)
theorem uy(hR:Rel B w0 F0 S β F a w)(ps:Array (Nat×Operand)) :
  (ps.toList.map fun p=>(p.1,S.get p.2)).length=(ps.map fun(i,x)=>(i,a.eval x)).toList.length /\
  ∀ i,i<(ps.toList.map fun p=>(p.1,S.get p.2)).length->((ps.toList.map fun p=>(p.1,S.get p.2)).getD i (0,.any)).1=((ps.map fun(i,x)=>(i,a.eval x)).toList.getD i (0,undef)).1 /\
   B4 β F w ((ps.toList.map fun p=>(p.1,S.get p.2)).getD i (0,.any)).2 ((ps.map fun(i,x)=>(i,a.eval x)).toList.getD i (0,undef)).2:=by
 refine⟨by simp,fun i hi=>?_⟩;have bO:i<ps.toList.length:=by simpa using hi
 have e1:(ps.toList.map fun p=>(p.1,S.get p.2)).getD i (0,.any)=((ps.toList[i]).1,S.get (ps.toList[i]).2):=by
  have:i<ps.size:=by simpa using bO
  simp[List.getD,this]
 have e2:(ps.map fun(i,x)=>(i,a.eval x)).toList.getD i (0,undef)=((ps.toList[i]).1,a.eval (ps.toList[i]).2):=by
  have:i<ps.size:=by simpa using bO
  simp[List.getD,this]
 rw[e1,e2];exact⟨rfl,hR.get _⟩
theorem pD(fs:Array Field)(h:∀ f ∈ fs.toList,(P.info? f.type).isSome=true) :
  (fs.mapM fun f=>do pure (f.offset,<- sizeOf f.type):Sem (Array (Nat×Nat))).run P w = .ok (fs.map fun f=>(f.offset,P.cellsOf f.type)) w:=by
 have key:∀ (l:List Field),(∀ f ∈ l,(P.info? f.type).isSome=true)->(l.mapM fun f=>do pure (f.offset,<- sizeOf f.type):Sem (List (Nat×Nat))).run P w = .ok (l.map fun f=>(f.offset,P.cellsOf f.type)) w:=by
  intro l
  induction l with
  | nil=>intro _;simp
  | cons f l ih =>
   intro hl;obtain⟨i,hi⟩:=Option.isSome_iff_exists.1 (hl f va9);simp only[List.mapM_cons,Sem.run_bind,run_sizeOf w hi,Result.andThen_ok,Sem.run_pure,ih fun g hg=>hl g (by simp[hg]),List.map_cons]
 have:=key fs.toList h;rw[<- Array.toList_mapM]at this;simp only[Sem.run_map]at this;generalize hr:(fs.mapM fun f=>do pure (f.offset,<- sizeOf f.type):Sem (Array (Nat×Nat))).run P w=r at this;cases r with
 | ok x w1 =>
  simp only[Result.andThen_ok,Result.ok.injEq]at this;obtain⟨e1,rfl⟩:=this
  congr 1
  apply Array.ext';simpa using e1
 | halt x w1=>simp[Result.andThen]at this
theorem FM(hR:Rel B w0 F0 S β F a w){o:Oper}{t:TypeId}{ps:Array (Nat×Operand)}(ho:o.op = .build t ps){K:Out->List Nat->Prop}(h:k7 P o.dst (.build t ps) S.get S.row K){Q:Exit->Act->World->Prop} :
  o.wp P a w (y6 B w0 F0 S β o.dst K) Q:=by
 simp only[k7]at h;split at h
 ·exact h.elim
 ·rename_i z hz;obtain⟨i,zv,hi,BQ,_,Is⟩:=Y6 (β:=β) (F:=F) (w:=w) hz;have M4:execOp a.eval o=(do pure (.value (<- Instr.build t (ps.map fun(i,x)=>(i,a.eval x))))):=by simp[execOp,ho]
  obtain⟨p1,p2⟩:=uy hR ps;split at h
  ·rename_i fs hu;split at h
   ·rename_i qt;split at h
    ·rename_i cs hf;have YZ:(fun i=>(fs.toList.map fun f=>(f.offset,P.cellsOf f.type))[i]?)=fun i=>(fs.map fun f=>(f.offset,P.cellsOf f.type))[i]? := funext fun i=>by rw[<- Array.toList_map,Array.getElem?_toList]
     rw[YZ]at hf;obtain⟨us,Cc,Ee⟩:=lA p1 p2 Is hf;have pB:=pD (P:=P) (w:=w) fs (List.all_eq_true.1 qt);refine K5 M4 (v := .agg us) (w':=w) ?_ (y6.still hR (.agg Ee.1 Ee.2) h);simp only[Instr.build,Sem.run_bind,zeroValue,typeInfo,run_program,hi,BQ,run_underlying hu,Result.andThen_ok,Sem.run_pure,pB,Cc]
    ·exact h.elim
   ·exact h.elim
  ·rename_i n e hu;split at h
   ·rename_i ie Za;split at h
    ·rename_i cs hf;obtain⟨us,Cc,Ee⟩:=lA p1 p2 Is hf;refine K5 M4 (v := .agg us) (w':=w) ?_ (y6.still hR (.agg Ee.1 Ee.2) h);simp only[Instr.build,Sem.run_bind,zeroValue,typeInfo,run_program,hi,BQ,run_underlying hu,Result.andThen_ok,Sem.run_pure,run_sizeOf w Za,Cc]
    ·exact h.elim
   ·exact h.elim
  ·exact h.elim
theorem O7(g:Nat)(cur new:Array Value)(t:TypeId)(fz:Nat×Nat)(hg:w.heap[g]? = some (.cells cur t fz)) :
  ((w.setRow g new).os=w.os/\(w.setRow g new).tape=w.tape/\(w.setRow g new).output=w.output/\(w.setRow g new).heap.size=w.heap.size)/\(∀ k,k≠g->(w.setRow g new).heap[k]? = w.heap[k]?) /\
   (w.setRow g new).heap[g]? = some (.cells new t fz) :=
 ⟨⟨rfl,rfl,rfl,by simp⟩,fun k hk=>setRow_other w g k new hk,setRow_heap w g cur new t fz hg⟩
theorem cQ{t:TypeId}{i:TypeInfo}(hi:P.info? t=some i){b o:Nat}{cur:Array Value}{ty:TypeId}(hb:w.heap[b]? = some (.cells cur ty (0,0))){v:Value}(hs:v.cells.size=i.size)(ho:o+i.size<=cur.size)
  (h1:∀ u ∈ v.cells.toList,u.oneCell'=true) :
  (Instr.storeAt t (.pointer (some ⟨b,o,none⟩)) v).run P w = .ok () (w.setRow b (z6 cur o v.cells.toList)):=by
 have yH:=run_storeCells_at P b o ty v.cells.toList 0 cur w hb (by simp[hs];omega) h1;simp only[Nat.add_zero]at yH;simp[Instr.storeAt,Instr.sureAddr,storeVar,sizeOf,typeInfo,hi,hs];exact yH
theorem jk{o:Oper}{next:Act->World->Prop}{Q:Exit->Act->World->Prop}{s:Sem Unit}(ho:execOp a.eval o=(do s;pure .skip)){w':World}(hs:s.run P w = .ok () w')(hn:next (a.put o.dst undef) w'):o.wp P a w next Q:=by
 unfold Oper.wp;rw[ho];simp only[Sem.run_bind,hs,Result.andThen_ok,Sem.run_pure];exact hn
theorem FN(hR:Rel B w0 F0 S β F a w){o:Oper}{t:TypeId}{x y:Operand}(ho:o.op = .store t x y){K:Out->List Nat->Prop}(h:k7 P o.dst (.store t x y) S.get S.row K){Q:Exit->Act->World->Prop} :
  o.wp P a w (y6 B w0 F0 S β o.dst K) Q:=by
 simp only[k7]at h;split at h
 case h_2=>exact h.elim
 rename_i i hi;split at h
 case h_2=>exact h.elim
 rename_i l hl;split at h
 case h_2=>exact h.elim
 rename_i H5;have iH:=zA8 H5;obtain⟨c1,c2,c3⟩:=cells?_rep (hR.get y) hl;have PX:(a.eval y).cells.toList.length=l.length:=by simp[c1]
 have M4:execOp a.eval o=(do Instr.storeAt t (a.eval x) (a.eval y);pure .skip):=by simp[execOp,ho]
 have hx:=hR.get x;split at h
 case h_2=>exact h.elim
 rename_i id sz j off hg;rw[hg]at hx;obtain⟨hd,b,hb,hh,hv⟩:=hx.ptr_inv;rw[hv]at M4;have lE:y0 β id b:=by rw[y0,hb];exact D2 hh
 split at h
 ·rename_i ty cs hr;split at h
  case h_2=>exact h.elim
  rename_i hle;have IJ:=Nat.le_of_ble_eq_true hle;obtain⟨vs,e1,e2,e3⟩:=ux hR hr hb hh;have L9:=cQ (P:=P) hi e1 (v:=a.eval y) (o:=j*sz+off) va5 va5 c3;obtain⟨f1,f2,f3⟩:=O7 b vs (z6 vs (j*sz+off) (a.eval y).cells.toList) ty (0,0) e1;refine jk M4 L9 ⟨_,_,h,β,F,fun _ _=>rfl,hR.write (by rw[hr];simp) lE f1 f2 (fun _ => .imm (.any _)) (fun hk=>?_) (fun _ _ _ _ h=>by cases h)⟩;have hs:=il.set (R:=B4 β F (w.setRow b (z6 vs (j*sz+off) (a.eval y).cells.toList))) (xs:=cs) (vs:=vs) (l:=l) (ls:=(a.eval y).cells) (off:=j*sz+off)
   ⟨e2.symm,fun k oI=>(e3 k oI).grow (fun _ _=>rfl) (fun _ h=>h) hk⟩ ⟨c1.symm,fun k oI=>(c2 k oI).grow (fun _ _=>rfl) (fun _ h=>h) hk⟩ IJ
  obtain⟨_,_,_,q1,q2,_⟩:=hr ▸ hR.rows id;rw[hb]at q1;cases q1
  exact⟨hd,b,_,hb,q2,hh,f3,hs.1.symm,hs.2⟩
 ·rename_i α ty yq d enc zs hr;split at h
  case h_2=>exact h.elim
  rename_i Cd;split at h
  case h_2=>exact h.elim
  rename_i Y7;split at h
  case h_2=>exact h.elim
  rename_i hle;split at h
  case h_2=>exact h.elim
  rename_i hlen;obtain⟨yy,Zb,hj,hK⟩:=h;have e0:=zA8 Cd;subst e0;have IJ:=Nat.le_of_ble_eq_true hle;have Pu:=zA8 hlen;obtain⟨lf,jJ⟩:=ay hR hr hb;rcases jJ with ⟨h1,h2,_⟩|⟨b',vs,e1,e2,e3,e4,e5,e6⟩
  ·rw[h1]at hj;simp at hj
  rw[hh]at e1;cases e1
  have oJ:∀ k,k<sz->j*sz+k<vs.size:=fun k hk=>by
   rw[e5];exact z5 (zB5 hj e3) hk
  have ku:j*sz+off+l.length<=vs.size:=by
   rcases Nat.eq_zero_or_pos (off+l.length)with h0|h0
   ·rcases Nat.eq_zero_or_pos sz with IK|IK
    ·simp[IK];omega
    ·have:=oJ 0 IK;omega
   ·have:=oJ (off+l.length-1) va5;omega
  have L9:=cQ (P:=P) hi e2 (v:=a.eval y) (o:=j*sz+off) va5 va5 c3;obtain⟨f1,f2,f3⟩:=O7 b vs (z6 vs (j*sz+off) (a.eval y).cells.toList) ty (0,0) e2;refine jk M4 L9 ⟨_,_,hK,β,F,fun _ _=>rfl,hR.write (by rw[hr];simp) lE f1 f2 (fun _ => .imm (.any _)) (fun hk=>?_) (fun _ _ _ _ h=>by cases h)⟩;obtain⟨_,q1,q2,_⟩:=hr ▸ hR.rows id;rw[hb]at q1;cases q1
  refine⟨hd,hb,q2,by rw[lf];simp,.inr ⟨b,_,hh,f3,by simpa using e3,e4,by rw[D4 va5];exact e5,fun p q hp hq=>?_⟩⟩;have na:p<zs.length:=by simpa using hp
  rw[D3 va5,PX];by_cases IL:p=j
  ·subst IL;have eg:(zs.set p yy).getD p d=yy:=by simp[List.getD,na]
   rw[eg,Zb,eA (by rw[List.length_map];omega),List.length_map,eZ];by_cases It:off<=q/\q<off+l.length
   ·have c:p*sz+off<=p*sz+q/\p*sz+q<p*sz+off+l.length:=by omega
    rw[if_pos It,if_pos c];have I5:=(c2 (q-off) va5).shut (G5 Y7 _);have ee:(a.eval y).cells.toList.getD (p*sz+q-(p*sz+off)) undef=(a.eval y).cells.getD (q-off) undef:=by
     rw[show p*sz+q-(p*sz+off)=q-off by omega];simp[List.getD,Array.getD_eq_getD_getElem?]
    rw[ee];exact(I5.mono (fun _ h=>h) hk).tts
   ·have c:¬ (p*sz+off<=p*sz+q/\p*sz+q<p*sz+off+l.length):=by omega
    rw[if_neg It,if_neg c];exact(e6 p q na hq).mono (fun _ h=>h) hk
  ·have eg:(zs.set j yy).getD p d=zs.getD p d:=by simp[List.getD,List.getElem?_set,Ne.symm IL]
   have c:¬ (j*sz+off<=p*sz+q/\p*sz+q<j*sz+off+l.length):=by
    rcases Nat.lt_or_gt_of_ne IL with A2|tv
    ·have:=z5 A2 hq;omega
    ·have:(j+1)*sz<=p*sz:=Nat.mul_le_mul_right sz tv;rw[Nat.add_mul]at this;omega
   rw[eg,if_neg c];exact(e6 p q na hq).mono (fun _ h=>h) hk
 ·exact h.elim
end

end Go.Ev
