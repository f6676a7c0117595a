/- Helper lemmas. -/
import Derived.Test.YtacahppoighegaaGreatEvThree
import Derived.KernelRfl
import Derived.Deep.LoopGhost
set_option linter.unusedVariables false
set_option linter.unusedSimpArgs false
/- All operations together; what they read; regions. A helper text: it speaks of no program. -/
namespace Go.Ev
section
variable {P:Program}{B:Nat->Prop}{w0:World}{F0:Env P}{S:St}{β:Nat->Option Hd}{F:Nat->Prop}{a:Act}{w:World}
def Y9:Op->Bool
 | .alloc _=>true
 | .box .. => true
 | .buildSlice .. => true
 | .makeSlice .. => true
 | .call c=>match c.callee with
  | .builtin .append=>true
  | _=>false
 | _=>false
theorem Bv(hR:Rel B w0 F0 S β F a w){o:Oper}{x:Operand}(ho:o.op = .move x∨o.op = .assign x){K:Out->List Nat->Prop}(h:K ⟨S.get x,[]⟩ []){Q:Exit->Act->World->Prop} :
  o.wp P a w (z7 B w0 F0 S β o.dst K) Q:=by
 refine fV (v:=a.eval x) (w':=w) ?_ (z7.still hR (hR.get x) h);rcases ho with ho|ho<;>simp[execOp,ho]
theorem LB(hR:Rel B w0 F0 S β F a w){o:Oper}{c x y:Operand}(ho:o.op = .pick c x y){K:Out->List Nat->Prop}(h:y0 P o.dst (.pick c x y) S.get S.row K){Q:Exit->Act->World->Prop} :
  o.wp P a w (z7 B w0 F0 S β o.dst K) Q:=by
 simp only[y0]at h;have hc:=hR.get c;split at h
 ·rename_i hg;rw[hg]at hc;exact fV (v:=a.eval x) (w':=w) (by simp[execOp,ho,hc.tt_inv,asBool]) (z7.still hR (hR.get x) h)
 ·rename_i hg;rw[hg]at hc;exact fV (v:=a.eval y) (w':=w) (by simp[execOp,ho,hc.ff_inv,asBool]) (z7.still hR (hR.get y) h)
 ·rename_i b hg;rw[hg]at hc;cases b
  ·exact fV (v:=a.eval y) (w':=w) (by simp[execOp,ho,hc.bool_inv,asBool]) (z7.still hR (hR.get y) (h.2 rfl))
  ·exact fV (v:=a.eval x) (w':=w) (by simp[execOp,ho,hc.bool_inv,asBool]) (z7.still hR (hR.get x) (h.1 rfl))
 ·exact h.elim
theorem LC(hR:Rel B w0 F0 S β F a w){o:Oper}(B1:Y9 o.op=true->∀ d,o.dst=some d->β d=none){K:Out->List Nat->Prop}(h:y0 P o.dst o.op S.get S.row K){Q:Exit->Act->World->Prop} :
  o.wp P a w (z7 B w0 F0 S β o.dst K) Q:=by
 cases ho:o.op<;>rw[ho]at h B1
 case move x=>exact Bv hR (.inl ho) h
 case assign x=>exact Bv hR (.inr ho) h
 case pick c x y=>exact LB hR ho h
 case alloc t=>exact HX hR ho (B1 rfl) h
 case box t x=>exact PI hR ho (B1 rfl) h
 case build t ps=>exact HY hR ho h
 case buildSlice t n ps=>exact sK hR ho (B1 rfl) h
 case load t x=>exact Lr hR ho h
 case store t x y=>exact HZ hR ho h
 case nilCheck x=>exact yI hR ho h
 case index t x i=>exact Ic hR ho h
 case binOp op t x y yt =>
  obtain⟨r,v,h1,h2,h3⟩:=HW (P:=P) x y (hR.get x) (hR.get y) h;exact K3 (s:=do eqGuard op t x y (a.eval x) (a.eval y);binOp op t (a.eval x) (a.eval y)) (by simp[execOp,ho]) h1 (z7.still hR h2 h3)
 case unOp op t x =>
  simp only[y0]at h;obtain⟨r,v,h1,h2,h3⟩:=Lq (P:=P) (hR.get x) h;exact K3 (s:=Op.unary op (a.eval x)) (by simp[execOp,ho]) h1 (z7.still hR h2 h3)
 case convert src t x=>exact Bt hR ho h
 case makeFunc f xs ys=>exact yH hR ho h
 case makeSlice t x y=>exact vJ hR ho (B1 rfl) h
 case slice t x lo hi mx=>exact Ih hR ho h
 case fieldAddr s x f=>exact vH hR ho h
 case indexAddr t x i=>exact vI hR ho h
 case extract x i=>exact Bs hR ho h
 case call c =>
  cases hc:c.callee with
  | value f=>exact Lx hR ho hc h
  | invoke r m=>simp[y0,hc]at h
  | builtin b =>
   cases b
   case len=>exact PK hR ho hc h
   case max=>exact PL hR ho hc h
   case min=>exact PM hR ho hc h
   case append=>exact Ei hR ho hc (B1 (by simp[Y9,hc])) h
   all_goals simp[y0,hc]at h
 all_goals simp[y0]at h
theorem Bw{op:BinOp}{lit:Bool}{k k':IntKind}{x y:Int}{K:AV->Prop}(h:wT op lit k x k' y K):∃ v,K v/\wT op lit k x k' y (fun u=>u=v):=by
 cases op
 case shl=>obtain⟨h1,h2⟩:=(D4 _ _ _).1 h;exact⟨_,h2,(D4 _ _ _).2 ⟨h1,rfl⟩⟩
 case shr=>obtain⟨h1,h2⟩:=(D4 _ _ _).1 h;exact⟨_,h2,(D4 _ _ _).2 ⟨h1,rfl⟩⟩
 all_goals
  simp only[wT]at h ⊢;by_cases hk:k=k'
  ·simp only[hk,decide_true]at h ⊢;first
    | (obtain⟨h1,h2⟩:=(D4 _ _ _).1 h;exact⟨_,h2,(D4 _ _ _).2 ⟨h1,rfl⟩⟩)
    | exact⟨_,h,rfl⟩
  ·simp[hk]at h
theorem nh{op:BinOp}{x y:AV}{K:AV->Prop}(h:T5 op (K x) (K y)):∃ v,K v/\T5 op (x=v) (y=v):=by
 cases op<;>first|exact h.elim|exact⟨_,h,rfl⟩
theorem Bx{op:BinOp}{t:TypeId}{lit:Bool}{x y:AV}{K:AV->Prop}(h:wU P op t lit x y K):∃ v,K v/\wU P op t lit x y (fun u=>u=v):=by
  unfold wU at h ⊢
  repeat' split at h
  all_goals first
    | exact h.elim
    | exact Bw h
    | exact nh h
    | (obtain⟨fX,h⟩:=h
       repeat' split at h
       all_goals first
         | exact h.elim
         | (obtain⟨v,h1,h2⟩:=nh h
            exact⟨v,h1,fX,by simp only[*]⟩))
theorem Ek{op:UnOp}{x:AV}{K:AV->Prop}(h:HS op x K):∃ v,K v/\HS op x (fun u=>u=v):=by
 unfold HS at h ⊢;split at h;all_goals first
  | exact h.elim
  | exact⟨_,h,rfl⟩
def E1(op:Op):List Operand:=op.operands.toList
theorem sM{r r':Nat->Row}{x:AV}{D:Pq}(h:sE r x D)(hr:∀ i ∈ eu x,r' i=r i):sE r' x D:=by
 cases x<;>simp only[sE]at h ⊢<;>first|exact h|(rw[hr _ (by simp[eu])];exact h)
theorem yN{r r':Nat->Row}{e:TypeId}{x:AV}(h:pd r e x=true)(hr:∀ i ∈ eu x,r' i=r i):pd r' e x=true:=by
 cases x<;>simp only[pd]at h ⊢<;>first|exact h|(rw[hr _ (by simp[eu])];exact h)
theorem yO{r r':Nat->Row}{x y:AV}(h:fT r x y=true)(hr:∀ i ∈ eu y,r' i=r i):fT r' x y=true:=by
 cases x with
 | sf sz d enc l =>
  cases y with
  | own q =>
   simp only[fT]at h ⊢;rw[hr q (by simp[eu])];exact h
  | _=>exact h
 | _=>exact h
theorem El{dst:Option Nat}{op:Op}{g:Operand->AV}{r:Nat->Row}{K:Out->List Nat->Prop}(h:y0 P dst op g r K) :
    ∃ out rd,K out rd/\∀ g' r',(∀ x ∈ E1 op,g' x=g x)->(∀ i ∈ rd,r' i=r i)->y0 P dst op g' r' (fun o d=>o=out/\d=rd):=by
  cases op
  case move x=>exact⟨_,_,h,fun g' r' hg hr=>by simp only[y0];rw[hg x (by simp[E1,Op.operands])];exact⟨rfl,trivial⟩⟩
  case assign x=>exact⟨_,_,h,fun g' r' hg hr=>by simp only[y0];rw[hg x (by simp[E1,Op.operands])];exact⟨rfl,trivial⟩⟩
  case pick c x y =>
    simp only[y0]at h;have e:∀ g':Operand->AV,(∀ z ∈ E1 (.pick c x y),g' z=g z)->g' c=g c/\g' x=g x/\g' y=g y:=fun g' hg=>⟨hg _ (by simp[E1,Op.operands]),hg _ (by simp[E1,Op.operands]),hg _ (by simp[E1,Op.operands])⟩
    split at h
    · rename_i hc
      exact⟨_,_,h,fun g' r' hg hr=>by obtain⟨e1,e2,e3⟩:=e g' hg;simp[y0,e1,e2,hc]⟩
    · rename_i hc
      exact⟨_,_,h,fun g' r' hg hr=>by obtain⟨e1,e2,e3⟩:=e g' hg;simp[y0,e1,e3,hc]⟩
    · rename_i b hc
      cases b
      · exact⟨_,_,h.2 rfl,fun g' r' hg hr=>by obtain⟨e1,e2,e3⟩:=e g' hg;simp[y0,e1,e3,hc]⟩
      · exact⟨_,_,h.1 rfl,fun g' r' hg hr=>by obtain⟨e1,e2,e3⟩:=e g' hg;simp[y0,e1,e2,hc]⟩
    · exact h.elim
  case alloc t =>
    simp only[y0]at h;split at h
    · rename_i d cs hz
      exact⟨_,_,h,fun g' r' hg hr=>by simp only[y0,hz];exact⟨trivial,trivial⟩⟩
    · exact h.elim
  case box t x =>
    simp only[y0]at h;split at h
    · rename_i d cs hz
      exact⟨_,_,h,fun g' r' hg hr=>by simp only[y0];rw[hg x (by simp[E1,Op.operands]),hz];exact⟨rfl,trivial⟩⟩
    · exact h.elim
  case build t ps =>
    have e:∀ g':Operand->AV,(∀ z ∈ E1 (.build t ps),g' z=g z)->(ps.toList.map fun p=>(p.1,g' p.2))=ps.toList.map fun p=>(p.1,g p.2):=fun g' hg =>
      List.map_congr_left fun p hp=>by rw[hg p.2 (by simp only[E1,Op.operands];exact List.mem_map.2 ⟨p,hp,rfl⟩)]
    simp only[y0]at h
    repeat' split at h
    all_goals first
      | exact h.elim
      | exact⟨_,_,h,fun g' r' hg hr=>by simp only[y0,e g' hg, *];exact⟨trivial,trivial⟩⟩
  case buildSlice t n ps =>
    have e:∀ g':Operand->AV,(∀ z ∈ E1 (.buildSlice t n ps),g' z=g z)->(ps.toList.map fun p=>(p.1,g' p.2))=ps.toList.map fun p=>(p.1,g p.2):=fun g' hg =>
      List.map_congr_left fun p hp=>by rw[hg p.2 (by simp only[E1,Op.operands];exact List.mem_map.2 ⟨p,hp,rfl⟩)]
    simp only[y0]at h
    repeat' split at h
    all_goals first
      | exact h.elim
      | exact⟨_,_,h,fun g' r' hg hr=>by simp only[y0,e g' hg, *];exact⟨trivial,trivial⟩⟩
  case load t x =>
    have e:∀ g':Operand->AV,(∀ z ∈ E1 (.load t x),g' z=g z)->g' x=g x:=fun g' hg=>hg _ (by simp[E1,Op.operands])
    simp only[y0]at h
    repeat' split at h
    all_goals first
      | exact h.elim
      | exact⟨_,_,h,fun g' r' hg hr=>by simp only[y0,e g' hg, *];exact⟨trivial,trivial⟩⟩
      | exact⟨_,_,h,fun g' r' hg hr=>by simp only[y0,e g' hg,hr _ (List.mem_singleton.2 rfl), *];exact⟨trivial,trivial⟩⟩
      | exact⟨_,_,h.2,fun g' r' hg hr=>by simp only[y0,e g' hg,hr _ (List.mem_singleton.2 rfl), *];exact⟨trivial,trivial,trivial⟩⟩
  case store t x y =>
    have e:∀ g':Operand->AV,(∀ z ∈ E1 (.store t x y),g' z=g z)->g' x=g x/\g' y=g y:=fun g' hg=>⟨hg _ (by simp[E1,Op.operands]),hg _ (by simp[E1,Op.operands])⟩
    simp only[y0]at h
    repeat' split at h
    all_goals first
      | exact h.elim
      | exact⟨_,_,h,fun g' r' hg hr=>by simp only[y0,(e g' hg).1,(e g' hg).2,hr _ (List.mem_singleton.2 rfl), *];exact⟨trivial,trivial⟩⟩
      | (obtain⟨z,h1,h2,h3⟩:=h
         exact⟨_,_,h3,fun g' r' hg hr=>by simp only[y0,(e g' hg).1,(e g' hg).2,hr _ (List.mem_singleton.2 rfl), *];exact⟨z,h1,trivial,rfl,trivial⟩⟩)
  case nilCheck x =>
    have e:∀ g':Operand->AV,(∀ z ∈ E1 (.nilCheck x),g' z=g z)->g' x=g x:=fun g' hg=>hg _ (by simp[E1,Op.operands])
    simp only[y0]at h
    repeat' split at h
    all_goals first
      | exact h.elim
      | exact⟨_,_,h,fun g' r' hg hr=>by simp only[y0,e g' hg, *];exact⟨trivial,trivial⟩⟩
  case binOp op t x y yt =>
    have e:∀ g':Operand->AV,(∀ z ∈ E1 (.binOp op t x y yt),g' z=g z)->g' x=g x/\g' y=g y:=fun g' hg=>⟨hg _ (by simp[E1,Op.operands]),hg _ (by simp[E1,Op.operands])⟩
    obtain⟨v,h1,h2⟩:=Bx h;refine⟨_,_,h1,fun g' r' hg hr=>?_⟩;simp only[y0,(e g' hg).1,(e g' hg).2];simpa using h2
  case unOp op t x =>
    have e:∀ g':Operand->AV,(∀ z ∈ E1 (.unOp op t x),g' z=g z)->g' x=g x:=fun g' hg=>hg _ (by simp[E1,Op.operands])
    simp only[y0]at h;obtain⟨v,h1,h2⟩:=Ek h;refine⟨_,_,h1,fun g' r' hg hr=>?_⟩;simp only[y0,e g' hg];simpa using h2
  case convert src t x =>
    have e:∀ g':Operand->AV,(∀ z ∈ E1 (.convert src t x),g' z=g z)->g' x=g x:=fun g' hg=>hg _ (by simp[E1,Op.operands])
    simp only[y0]at h
    repeat' split at h
    all_goals first
      | exact h.elim
      | exact⟨_,_,h,fun g' r' hg hr=>by simp only[y0,e g' hg, *];exact⟨trivial,trivial⟩⟩
  case makeFunc f xs ys =>
    have e1:∀ g':Operand->AV,(∀ z ∈ E1 (.makeFunc f xs ys),g' z=g z)->xs.toList.map g'=xs.toList.map g:=fun g' hg=>List.map_congr_left fun p hp=>hg p (by simp only[E1,Op.operands,Array.toList_append];exact List.mem_append_left _ hp)
    have e2:∀ g':Operand->AV,(∀ z ∈ E1 (.makeFunc f xs ys),g' z=g z)->ys.toList.map g'=ys.toList.map g:=fun g' hg=>List.map_congr_left fun p hp=>hg p (by simp only[E1,Op.operands,Array.toList_append];exact List.mem_append_right _ hp)
    exact⟨_,_,h,fun g' r' hg hr=>by simp only[y0,e1 g' hg,e2 g' hg];exact⟨trivial,trivial⟩⟩
  case makeSlice t x y =>
    have e:∀ g':Operand->AV,(∀ z ∈ E1 (.makeSlice t x y),g' z=g z)->g' x=g x/\g' y=g y:=fun g' hg=>⟨hg _ (by simp[E1,Op.operands]),hg _ (by simp[E1,Op.operands])⟩
    simp only[y0]at h
    repeat' split at h
    all_goals first
      | exact h.elim
      | (obtain⟨α,z,enc,h1,h2,h3,h4,h5,h6⟩:=h
         subst h2
         exact⟨_,_,h6,fun g' r' hg hr=>by simp only[y0,(e g' hg).1,(e g' hg).2, *];exact⟨α,z,enc,h1,trivial,trivial,trivial,trivial,rfl,trivial⟩⟩)
  case slice t x lo hi mx =>
    have e:∀ g':Operand->AV,(∀ z ∈ E1 (.slice t x lo hi mx),g' z=g z)->g' x=g x/\(∀ l:AV,Pr g' lo l=Pr g lo l)/\∀ l:AV,Pr g' hi l=Pr g hi l:=fun g' hg=>by
      refine⟨hg _ (by simp[E1,Op.operands]),fun l=>?_,fun l=>?_⟩
      · cases lo with
        | none=>rfl
        | some y=>exact hg y (by simp[E1,Op.operands])
      · cases hi with
        | none=>rfl
        | some y=>exact hg y (by simp[E1,Op.operands])
    by_cases Lu:mx=none
    case neg =>
      obtain⟨m,rfl⟩:∃ m,mx=some m:=by cases mx with
        | none=>exact absurd rfl Lu
        | some m=>exact⟨m,rfl⟩
      simp only[y0]at h;split at h
      case h_2=>exact h.elim
      rename_i hh;split at h
      case h_2=>exact h.elim
      rename_i e' hu;split at h
      case h_2=>exact h.elim
      rename_i inf cI;split at h
      case h_2=>exact h.elim
      rename_i α sz d enc l hg;split at h
      case h_2=>exact h.elim
      rename_i G0;split at h
      case h_2=>exact h.elim
      rename_i kb q kc c Ps ZW;obtain⟨hob,hK⟩:=(D4 _ _ _).1 h;refine⟨_,_,hK,fun g' r' ZX hr=>?_⟩;have e1:=ZX x (by simp[E1,Op.operands]);have e2:=ZX hh (by simp[E1,Op.operands]);have e3:=ZX m (by simp[E1,Op.operands]);simp only[y0,hu,cI,e1,e2,e3,hg,G0,Ps,ZW];exact(D4 _ _ _).2 ⟨hob,by simp⟩
    subst Lu;simp only[y0]at h;split at h
    case h_2=>exact h.elim
    rename_i e' hu;split at h
    case h_2=>exact h.elim
    rename_i inf cI;split at h
    case h_2=>exact h.elim
    rename_i α sz d enc l rv;split at h
    case h_2=>exact h.elim
    rename_i G0;split at h
    case h_2=>exact h.elim
    rename_i ka p kb q Pt Ps;obtain⟨h1,hK⟩:=(D4 _ _ _).1 h;refine⟨_,_,hK,fun g' r' hg hr=>?_⟩;obtain⟨e1,e2,e3⟩:=e g' hg;simp only[y0,hu,cI,e1,rv,G0,e2,e3,Pt,Ps];exact(D4 _ _ _).2 ⟨h1,by simp⟩
  case fieldAddr s x f =>
    have e:∀ g':Operand->AV,(∀ z ∈ E1 (.fieldAddr s x f),g' z=g z)->g' x=g x:=fun g' hg=>hg _ (by simp[E1,Op.operands])
    simp only[y0]at h
    repeat' split at h
    all_goals first
      | exact h.elim
      | exact⟨_,_,h,fun g' r' hg hr=>by simp only[y0,e g' hg, *];exact⟨trivial,trivial⟩⟩
  case extract x i =>
    have e:∀ g':Operand->AV,(∀ z ∈ E1 (.extract x i),g' z=g z)->g' x=g x:=fun g' hg=>hg _ (by simp[E1,Op.operands])
    simp only[y0]at h
    repeat' split at h
    all_goals first
      | exact h.elim
      | exact⟨_,_,h,fun g' r' hg hr=>by simp only[y0,e g' hg, *];exact⟨trivial,trivial⟩⟩
  case index t x i =>
    have e:∀ g':Operand->AV,(∀ z ∈ E1 (.index t x i),g' z=g z)->g' x=g x/\g' i=g i:=fun g' hg=>⟨hg _ (by simp[E1,Op.operands]),hg _ (by simp[E1,Op.operands])⟩
    simp only[y0]at h;split at h
    case h_2=>exact h.elim
    rename_i k n hn;split at h
    · rename_i s rv
      split at h
      case h_2=>exact h.elim
      rename_i hu;obtain⟨h1,h2⟩:=(D4 _ _ _).1 h;refine⟨_,_,h2,fun g' r' hg hr=>?_⟩;simp only[y0,(e g' hg).1,(e g' hg).2,hn,hu,rv];exact(D4 _ _ _).2 ⟨h1,by simp⟩
    · rename_i l rv
      split at h
      case h_2=>exact h.elim
      rename_i len e' hu;split at h
      case h_2=>exact h.elim
      rename_i inf d hi hd;split at h
      case h_2=>exact h.elim
      rename_i hc;obtain⟨h1,h2⟩:=(D4 _ _ _).1 h;refine⟨_,_,h2,fun g' r' hg hr=>?_⟩;simp only[y0,(e g' hg).1,(e g' hg).2,hn,hu,rv,hi,hd,hc];exact(D4 _ _ _).2 ⟨h1,by simp⟩
    · exact h.elim
  case indexAddr t x i =>
    have e:∀ g':Operand->AV,(∀ z ∈ E1 (.indexAddr t x i),g' z=g z)->g' x=g x/\g' i=g i:=fun g' hg=>⟨hg _ (by simp[E1,Op.operands]),hg _ (by simp[E1,Op.operands])⟩
    simp only[y0]at h;split at h
    case h_2=>exact h.elim
    rename_i k n hn;split at h
    · rename_i e' hu
      split at h
      case h_2=>exact h.elim
      rename_i inf hi;split at h
      · rename_i rv
        split at h
        case h_2=>exact h.elim
        rename_i G0;obtain⟨h1,h2⟩:=(D4 _ _ _).1 h;split at h2
        case h_2=>exact h2.elim
        rename_i hlen;refine⟨_,_,h2,fun g' r' hg hr=>?_⟩;simp only[y0,(e g' hg).1,(e g' hg).2,hn,hu,hi,rv,G0,hlen];exact(D4 _ _ _).2 ⟨h1,by simp⟩
      · rename_i rv
        split at h
        case h_2=>exact h.elim
        rename_i G0;obtain⟨h1,h2⟩:=(D4 _ _ _).1 h;split at h2
        case h_2=>exact h2.elim
        rename_i hlen;refine⟨_,_,h2,fun g' r' hg hr=>?_⟩;simp only[y0,(e g' hg).1,(e g' hg).2,hn,hu,hi,rv,G0,hlen];exact(D4 _ _ _).2 ⟨h1,by simp⟩
      · rename_i id rv
        split at h
        case h_3=>exact h.elim
        all_goals
          rename_i By;split at h
          case h_2=>exact h.elim
          rename_i G0;obtain⟨h1,h2⟩:=(D4 _ _ _).1 h;refine⟨_,_,h2,fun g' r' hg hr=>?_⟩;simp only[y0,(e g' hg).1,(e g' hg).2,hn,hu,hi,rv,hr id (List.mem_singleton.2 rfl),By,G0];exact(D4 _ _ _).2 ⟨h1,by simp⟩
      · exact h.elim
    · rename_i len e' hu
      split at h
      case h_2=>exact h.elim
      rename_i inf hi;obtain⟨h1,h2⟩:=(D4 _ _ _).1 h;split at h2
      case h_3=>exact h2.elim
      all_goals
        rename_i rv;refine⟨_,_,h2,fun g' r' hg hr=>?_⟩;simp only[y0,(e g' hg).1,(e g' hg).2,hn,hu,hi,rv];exact(D4 _ _ _).2 ⟨h1,by simp⟩
    · exact h.elim
  case call c =>
    have jk:∀ g':Operand->AV,(∀ z ∈ E1 (.call c),g' z=g z)->∀ x ∈ c.args.toList,g' x=g x:=fun g' hg x hx=>hg x (by simp only[E1,Op.operands,Call.operands,Array.toList_append];exact List.mem_append_right _ hx)
    have emap:∀ g':Operand->AV,(∀ z ∈ E1 (.call c),g' z=g z)->c.args.toList.map g'=c.args.toList.map g:=fun g' hg=>List.map_congr_left (jk g' hg)
    cases hc:c.callee with
    | invoke r m=>simp[y0,hc]at h
    | value f =>
      have ef:∀ g':Operand->AV,(∀ z ∈ E1 (.call c),g' z=g z)->g' f=g f:=fun g' hg=>hg f (by simp[E1,Op.operands,Call.operands,hc])
      simp only[y0,hc]at h;split at h
      case h_2=>exact h.elim
      rename_i gC first B2 Wt
      split at h
      · rename_i S9
        rw[bA]at h;obtain⟨v,h1,h2⟩:=h;refine⟨_,_,h2,fun g' r' hg hr=>?_⟩;simp only[y0,hc,ef g' hg,Wt,emap g' hg,S9];rw[bA];exact⟨v,h1,by simp⟩
      · rename_i S9
        rw[bA]at h;obtain⟨v,h1,h2⟩:=h;split at h2
        case h_2=>exact h2.elim
        rename_i Ly;refine⟨_,_,h2,fun g' r' hg hr=>?_⟩;simp only[y0,hc,ef g' hg,Wt,emap g' hg,S9];rw[bA];have:(first++c.args.toList.map g++B2).map (E3 4 r')=(first++c.args.toList.map g++B2).map (E3 4 r):=List.map_congr_left fun x hx=>na 4 x fun i hi=>hr i (List.mem_flatMap.2 ⟨x,hx,hi⟩)
        have Xe:(first++c.args.toList.map g++B2).flatMap (N1 4 r')=(first++c.args.toList.map g++B2).flatMap (N1 4 r):=by
          have key:∀ n (x:AV),(∀ i ∈ N1 n r x,r' i=r i)->N1 n r' x=N1 n r x:=by
            intro n
            induction n with
            | zero=>intro x _;rfl
            | succ n ih =>
              intro x hx;have hl:∀ l:List AV,(∀ i ∈ l.flatMap (N1 n r),r' i=r i)->l.flatMap (N1 n r')=l.flatMap (N1 n r):=fun l hl=>by
                induction l with
                | nil=>rfl
                | cons y l ZY =>
                  simp only[List.flatMap_cons];rw[ih y fun i hi=>hl i (by simp only[List.flatMap_cons];exact List.mem_append_left _ hi),ZY fun i hi=>hl i (by simp only[List.flatMap_cons];exact List.mem_append_right _ hi)]
              have DY:∀ l:List (List AV),(∀ i ∈ l.flatMap (fun cs=>cs.flatMap (N1 n r)),r' i=r i)->l.flatMap (fun cs=>cs.flatMap (N1 n r'))=l.flatMap (fun cs=>cs.flatMap (N1 n r)):=fun l h2=>by
                induction l with
                | nil=>rfl
                | cons y l ZY =>
                  simp only[List.flatMap_cons];rw[hl y fun i hi=>h2 i (by simp only[List.flatMap_cons];exact List.mem_append_left _ hi),ZY fun i hi=>h2 i (by simp only[List.flatMap_cons];exact List.mem_append_right _ hi)]
              cases x with
              | ptr id sz i off =>
                have e:=hx id (by simp[N1]);simp only[N1,e];cases hr:r id with
                | cells ty cs=>simp only[hl cs fun i hi=>hx i (by simp only[N1,hr];exact List.mem_cons_of_mem _ hi)]
                | _=>rfl
              | own id =>
                have e:=hx id (by simp[N1]);simp only[N1,e];cases hr:r id with
                | lit ty sz E5=>simp only[DY E5 fun i hi=>hx i (by simp only[N1,hr];exact List.mem_cons_of_mem _ hi)]
                | _=>rfl
              | agg l=>simp only[N1];exact hl l fun i hi=>hx i (by simpa only[N1]using hi)
              | tup l=>simp only[N1];exact hl l fun i hi=>hx i (by simpa only[N1]using hi)
              | fn f a b =>
                simp only[N1];rw[hl a fun i hi=>hx i (by simp only[N1];exact List.mem_append_left _ hi),hl b fun i hi=>hx i (by simp only[N1];exact List.mem_append_right _ hi)]
              | _=>rfl
          generalize first++c.args.toList.map g++B2=A at hr
          induction A with
          | nil=>rfl
          | cons x A ih =>
            simp only[List.flatMap_cons]at hr ⊢;rw[key 4 x fun i hi=>hr i (List.mem_append_left _ hi),ih fun i hi=>hr i (List.mem_append_right _ hi)]
        rw[this];refine⟨v,h1,?_⟩;simp only[Ly,Xe];exact⟨trivial,trivial⟩
    | builtin b =>
      cases b
      case len =>
        simp only[y0,hc]at h;split at h
        case h_2=>exact h.elim
        rename_i x t hx ht;have ex:∀ g':Operand->AV,(∀ z ∈ E1 (.call c),g' z=g z)->g' x=g x:=fun g' hg=>jk g' hg x (by rw[hx];simp)
        repeat' split at h
        all_goals first
          | exact h.elim
          | exact⟨_,_,h,fun g' r' hg hr=>by simp only[y0,hc,ex g' hg, *];exact⟨trivial,trivial⟩⟩
          | exact⟨_,_,h,fun g' r' hg hr=>by simp only[y0,hc,ex g' hg,hr _ (List.mem_singleton.2 rfl), *];exact⟨trivial,trivial⟩⟩
      case max =>
        simp only[y0,hc]at h;split at h
        case h_2=>exact h.elim
        rename_i x y hx;have ex:∀ g':Operand->AV,(∀ z ∈ E1 (.call c),g' z=g z)->g' x=g x/\g' y=g y:=fun g' hg=>⟨jk g' hg x (by rw[hx];simp),jk g' hg y (by rw[hx];simp)⟩
        split at h
        · exact⟨_,_,h,fun g' r' hg hr=>by simp only[y0,hc,(ex g' hg).1,(ex g' hg).2, *];exact⟨trivial,trivial⟩⟩
        · exact h.elim
      case min =>
        simp only[y0,hc]at h;split at h
        case h_2=>exact h.elim
        rename_i x y hx;have ex:∀ g':Operand->AV,(∀ z ∈ E1 (.call c),g' z=g z)->g' x=g x/\g' y=g y:=fun g' hg=>⟨jk g' hg x (by rw[hx];simp),jk g' hg y (by rw[hx];simp)⟩
        split at h
        · exact⟨_,_,h,fun g' r' hg hr=>by simp only[y0,hc,(ex g' hg).1,(ex g' hg).2, *];exact⟨trivial,trivial⟩⟩
        · exact h.elim
      case append =>
        simp only[y0,hc]at h;split at h
        case h_2=>exact h.elim
        rename_i x y t t' hx ht;have ex:∀ g':Operand->AV,(∀ z ∈ E1 (.call c),g' z=g z)->g' x=g x/\g' y=g y:=fun g' hg=>⟨jk g' hg x (by rw[hx];simp),jk g' hg y (by rw[hx];simp)⟩
        split at h
        case h_2=>exact h.elim
        rename_i dd e hd hu ZU;split at h
        case h_2=>exact h.elim
        rename_i inf z hi hz;split at h
        case h_2=>exact h.elim
        rename_i rq;split at h
        case h_2=>exact h.elim
        rename_i Ii;split at h
        case h_2=>exact h.elim
        rename_i gK;obtain⟨D,l',h1,h2,h3,h4,h5,h6,h7⟩:=h;refine⟨_,_,h7,fun g' r' hg hr=>?_⟩;have oV:(pd r' hd (g x) || fT r' (g x) (g y))=true:=by
          rw[zA9]at gK ⊢;rcases gK with gK|gK
          · exact .inl (yN gK fun i hi=>hr i (List.mem_append_left _ hi))
          · exact .inr (yO gK fun i hi=>hr i (List.mem_append_right _ hi))
        have h2':=sM h2 fun i hi=>hr i (List.mem_append_left _ hi)
        have h3':=sM h3 fun i hi=>hr i (List.mem_append_right _ hi)
        simp only[y0,hc,(ex g' hg).1,(ex g' hg).2,hx,ht,hu,ZU,hi,hz,rq,Ii,oV];exact⟨D,l',h1,h2',h3',h4,h5,h6,by simp⟩
      all_goals simp[y0,hc]at h
  all_goals simp[y0]at h
end
/- Rows whose elements hold slices of their own: what is read of them, and append. A helper text: it speaks of no program. -/
def sN(id i j0:Nat)(ho:Option Nat)(cs:List AV):List AV:=cs.set j0 (match ho with
 | none => .mem id i
 | some _ => .any)
section
variable {P:Program}{B:Nat->Prop}{w0:World}{F0:Env P}{S:St}{β:Nat->Option Hd}{F:Nat->Prop}{a:Act}{w:World}
theorem T0(l:List AV)(t:Nat)(x:AV)(i:Nat):(l.set t x).getD i .any=if t=i/\i<l.length then x else l.getD i .any:=by
 have:=aC l (some t) x i;simpa[fO]using this
theorem Z2(hR:Rel B w0 F0 S β F a w){id:Nat}{ty:TypeId}{α:Type}{sz j0:Nat}{G7:TypeId}{d:α}{enc:α->List AV}{ys:α->List Int}{ho:Option Nat}{l:List α}(hr:S.row id = .nest ty sz j0 G7 d enc ys ho l){hd:Hd}(hb:β id=some hd) :
  hd.len=l.length/\((l=[]/\hd.b=none/\hd.cap=0/\hd.m=jr)∨∃ b vs,hd.b=some b/\w.heap[b]? = some (.cells vs ty (0,0)) /\
   l.length<=hd.cap/\hd.cap<=maxLen/\vs.size=hd.cap*sz /\
   (∀ i j,i<l.length->j<sz->j≠j0->y6 F w ((enc (l.getD i d)).getD j .any) (vs.getD (i*sz+j) undef)) /\
   (∀ i,iz w G7 (hd.m i) (jh ys d ho l i) (vs.getD (i*sz+j0) undef))/\(∀ i k c,(hd.m i).1=some c->(hd.m k).1=some c->i=k)/\∀ i c,(hd.m i).1=some c->c≠b):=by
 have:=hR.rows id;rw[hr]at this;obtain⟨hd',e1,e2,e3⟩:=this;rw[hb]at e1;cases e1
 exact⟨e2,e3⟩
theorem Ij(hR:Rel B w0 F0 S β F a w){o:Oper}{t:TypeId}{x:Operand}(L0:o.op = .load t x){id sz j off:Nat}(hg:S.get x = .ptr id sz j off){α:Type}{ty:TypeId}{Ba j0:Nat}{G7:TypeId}{d:α}{enc:α->List AV}{ys:α->List Int}{ho:Option Nat}{l:List α}
  (hr:S.row id = .nest ty Ba j0 G7 d enc ys ho l) {i:TypeInfo} {dd:TypeDesc} (hi:P.info? t=some i) (hu:P.underlying t=some dd) (e0:sz=Ba) (ZL:(enc (l.getD j d)).length=sz) {v:AV}
  (hl:lG (aZ dd) i.size (sN id j j0 ho (enc (l.getD j d))) off=some v) (hj:j<l.length) {K:Out->List Nat->Prop} {rd:List Nat} (hK:K ⟨v,[]⟩ rd) {Q:Exit->Act->World->Prop}:o.wp P a w (z7 B w0 F0 S β o.dst K) Q:=by
 have hx:=hR.get x;have kD:execOp a.eval o=(do pure (.value (<- Instr.loadAt t (a.eval x)))):=by simp[execOp,L0]
 rw[hg]at hx;obtain⟨hd,b,hb,hh,hv⟩:=hx.ptr_inv;obtain⟨hlen,jL⟩:=Z2 hR hr hb;rcases jL with ⟨h1,h2,_⟩|⟨b',vs,e1,e2,e3,e4,e5,e6,e7,e8⟩
 ·rw[h1]at hj;simp at hj
 rw[hh]at e1;cases e1
 have rQ:(sN id j j0 ho (enc (l.getD j d))).length=sz:=by unfold sN;rw[List.length_set];exact ZL
 obtain⟨u,h1,h2⟩:=ew (P:=P) (β:=β) (F:=F) (w:=w) (o:=j*sz) (b:=b) (g:=fun k=>vs.getD (j*sz+k) undef) hi hu
  (fun k hk=>G3 e2 (by
   rw[e5,<- e0];have:=z6 (zB5 hj e3) (show k<sz by omega)
   omega))
  (fun k hk=>by
   have sI:k<sz:=by omega
   unfold sN;rw[T0];split
   ·rename_i hc;obtain⟨hc,_⟩:=hc;subst hc;cases ho with
    | some h=>exact .imm (.any _)
    | none =>
     have hm:=e7 j;rw[jh,if_pos ⟨hj,by simp⟩]at hm;rw[<- e0]at hm;have:=C4.mem (F:=F) (w:=w) hb (i:=j) va5;rw[<- hm.1]at this;exact this
   ·rename_i hc;have V8:k≠j0:=fun e=>hc ⟨e.symm,va5⟩
    have:=e6 j k hj va5 V8;rw[<- e0]at this
    exact .imm this) hl
 rw[hv]at kD;exact K3 kD h1 (z7.still hR h2 hK)
theorem yP{xs ys:List AV}{j0:Nat}(h:xs.set j0 .any=ys.set j0 .any):xs.length=ys.length/\∀ k,k≠j0->xs.getD k .any=ys.getD k .any:=by
 refine⟨by simpa using congrArg List.length h,fun k hk=>?_⟩;have:=congrArg (fun l=>List.getD l k .any) h;simp only[T0]at this;have sI:¬ (j0=k/\k<xs.length):=fun e=>hk e.1.symm
 have Ld:¬ (j0=k/\k<ys.length):=fun e=>hk e.1.symm
 rwa[if_neg sI,if_neg Ld]at this
theorem jN{hd:Hd}{G7:TypeId}{zs:List Int}{v:Value}(hl:hd.len=zs.length)(h:(zs=[]/\hd.b=none/\hd.cap=0)∨∃ b vs,hd.b=some b/\w.heap[b]? = some (.cells vs G7 (0,0)) /\
      zs.length<=hd.cap/\hd.cap<=maxLen/\vs.size=hd.cap*1/\∀ i j,i<zs.length->j<1->y6 F w ((aR (zs.getD i 0)).getD j .any) (vs.getD (i*1+j) undef)) (hv:v = .slice (hd.b.map fun b=>⟨b,0,none⟩) hd.len hd.cap) :
    iz w G7 (hd.b,hd.len,hd.cap) (some zs) v:=by
  refine⟨hv,hl,?_⟩;rcases h with h|⟨b,vs,h1,h2,h3,h4,h5,h6⟩
  · exact .inl h
  · refine .inr ⟨b,vs,h1,h2,h3,h4,by simpa using h5,fun k hk=>?_⟩
    have:=h6 k 0 hk va5;rw[Nat.mul_one,Nat.add_zero]at this;generalize vs.getD k undef=u at this;have e:(aR (zs.getD k 0)).getD 0 .any = .int .i64 (zs.getD k 0):=rfl;rw[e]at this;cases this;rfl
theorem qB{n m sz:Nat}{go gn:Nat->Nat->Value}{rest:List Value}{vs:Array Value}(Eh:vs.toList=u7 go n sz++u7 gn m sz++rest) :
  (∀ i j,i<n->j<sz->vs.getD (i*sz+j) undef=go i j)/\∀ i j,i<m->j<sz->vs.getD ((n+i)*sz+j) undef=gn i j:=by
 have Y8:∀ k v,(u7 go n sz++u7 gn m sz++rest)[k]? = some v->vs.getD k undef=v:=fun k v h=>by
  rw[<- Eh]at h;have:vs[k]? = some v:=by simpa using h
  simp[Array.getD_eq_getD_getElem?,this]
 refine⟨fun i j hi hj=>Y8 _ _ ?_,fun i j hi hj=>Y8 _ _ ?_⟩
 ·have:=z6 hi hj;rw[List.append_assoc,List.getElem?_append_left (by rw[u5];exact this)];exact X6 hi hj
 ·have e:(n+i)*sz+j-n*sz=i*sz+j:=by rw[Nat.add_mul];omega
  have h2:n*sz<=(n+i)*sz+j:=by rw[Nat.add_mul];omega
  have h3:=z6 hi hj;rw[List.append_assoc,List.getElem?_append_right (by rw[u5];omega),u5,e,List.getElem?_append_left (by rw[u5];exact h3)];exact X6 hi hj
theorem sP{α:Type}{ty:TypeId}{sz j0:Nat}{G7:TypeId}{d:α}{enc:α->List AV}{ys:α->List Int}{l:List α}{y:α}{m:Nat->Option Nat×Nat×Nat}{mm:Option Nat×Nat×Nat}{go:Nat->Nat->Value}{gn:Nat->Value}{w':World}{LD cap:Nat}{vs:Array Value}{β':Nat->Option Hd}{i:Nat}{cs:List AV}
  (hk:C5 F w w') (mZ:j0<sz) (hβ:β' i=some ⟨some LD,l.length+1,cap,fun p=>if p=l.length then mm else m p⟩) (hh:w'.heap[LD]? = some (.cells vs ty (0,0))) (hc:l.length+1<=cap) (Pv:cap<=maxLen) (G0:vs.size=cap*sz)
  (v1:∀ p q,p<l.length->q<sz->vs.getD (p*sz+q) undef=go p q) (v2:∀ q,q<sz->vs.getD (l.length*sz+q) undef=gn q)
  (e6:∀ p q,p<l.length->q<sz->q≠j0->y6 F w ((enc (l.getD p d)).getD q .any) (go p q)) (e7:∀ p,p<l.length->iz w G7 (m p) (some (ys (l.getD p d))) (go p j0)) (Wu:∀ p,l.length<=p->m p=(none,0,0))
  (e8:∀ i k c,(m i).1=some c->(m k).1=some c->i=k) (e9:∀ p c,(m p).1=some c->c≠LD/\w'.heap[c]? = w.heap[c]?)
  (l6:∀ q,q<sz->q≠j0->y6 F w (cs.getD q .any) (gn q)) (hy:∀ q,q≠j0->(enc y).getD q .any=cs.getD q .any) (l7:iz w G7 mm (some (ys y)) (gn j0)) (l8:∀ c,mm.1=some c->c≠LD/\w'.heap[c]? = w.heap[c]? /\ ∀ p,(m p).1≠some c) :
  y8 β' F w' i (.nest ty sz j0 G7 d enc ys none (l++[y])):=by
 have gl:∀ p,p<l.length->(l++[y]).getD p d=l.getD p d:=fun p hp=>gJ hp
 have gr:(l++[y]).getD l.length d=y:=by rw[fA (Nat.le_refl _)];simp
 refine⟨_,hβ,by simp,.inr ⟨LD,vs,rfl,hh,by simpa using hc,Pv,G0,fun p q hp hq mc=>?_,fun p=>?_,fun p q c hp hq=>?_,fun p c hp=>?_⟩⟩
 ·have hp2:p<l.length+1:=by simpa using hp
  by_cases e:p<l.length
  ·rw[gl p e,v1 p q e hq];exact(e6 p q e hq mc).mono (fun _ h=>h) hk
  ·have:p=l.length:=by omega
   subst this;rw[gr,v2 q hq,hy q mc];exact(l6 q hq mc).mono (fun _ h=>h) hk
 ·show iz w' G7 (if p=l.length then mm else m p) (if p<(l++[y]).length/\(none:Option Nat)≠some p then some (ys ((l++[y]).getD p d))else none) _
  have h0:(none:Option Nat)≠some p:=by simp
  by_cases e:p<l.length
  ·have e2:p<(l++[y]).length:=by simp;omega
   have e3:p≠l.length:=by omega
   rw[if_neg e3,if_pos ⟨e2,h0⟩,gl p e,v1 p j0 e mZ];exact(e7 p e).same fun c hc=>(e9 p c hc).2
  ·by_cases e4:p=l.length
   ·subst e4;rw[if_pos rfl,if_pos ⟨by simp,h0⟩,gr,v2 j0 mZ];exact l7.same fun c hc=>(l8 c hc).2.1
   ·rw[if_neg e4,if_neg (by simp;omega),Wu p va5];rfl
 ·by_cases e1:p=l.length
  ·by_cases e2:q=l.length
   ·rw[e1,e2]
   ·simp only[e1,if_true]at hp;simp only[e2,if_false]at hq;exact absurd hq ((l8 c hp).2.2 q)
  ·by_cases e2:q=l.length
   ·simp only[e2,if_true]at hq;simp only[e1,if_false]at hp;exact absurd hp ((l8 c hq).2.2 p)
   ·simp only[e1,if_false]at hp;simp only[e2,if_false]at hq;exact e8 p q c hp hq
 ·by_cases e1:p=l.length
  ·simp only[e1,if_true]at hp;exact(l8 c hp).1
  ·simp only[e1,if_false]at hp;exact(e9 p c hp).1
theorem qC(hR:Rel B w0 F0 S β F a w){o:Oper}{c:Call}(L0:o.op = .call c)(oV:c.callee = .builtin .append){s x:Operand}{t e:TypeId}(Ej:c.args.toList=[s,x])(PR:c.argTypes.toList=[t,t]){d:Nat}(hd:o.dst=some d)(B1:β d=none)(hu:P.underlying t=some (.slice e))
  {id q:Nat} (TP:S.get s = .own id) (rv:S.get x = .own q) {α:Type} {sz j0:Nat} {G7:TypeId} {d0:α} {enc:α->List AV} {ys:α->List Int} {l:List α} (hr:S.row id = .nest e sz j0 G7 d0 enc ys none l) {i:TypeInfo} {z:List AV} (hi:P.info? e=some i) (hz:dc P e=some z)
  {ZZ:TypeId} {cs:List AV} (hq:S.row q = .lit ZZ sz [cs]) (rq:z.length=i.size) (Ii:0<i.size) (G0:sz=i.size) (rO:cs.length=sz) (mZ:j0<sz) (h1:bJ cs=true) (S9:G8 (cs.set j0 .any)=true) {y:α} (hy:(enc y).set j0 .any=(cs.set j0 .any).map Q3)
  (yL:(l.length+1)*i.bytes<=1099511627776) (hlen:l.length+1<=1099511627776) {cons:List Nat} {mm:Option Nat×Nat×Nat} (Xf:id ∉ cons) (hmm:∀ v,C4 β F w (cs.getD j0 .any) v->iz w G7 mm (some (ys y)) v) (YY:∀ b,mm.1=some b->∃ r ∈ cons,S.row r ≠ .none/\x7 β r b)
  {K:Out->List Nat->Prop} {rd:List Nat} (hK:K ⟨.own d,(id :: cons).map (fun i=>(i,.none))++[(d,.nest e sz j0 G7 d0 enc ys none (l++[y]))]⟩ rd) {Q:Exit->Act->World->Prop}:o.wp P a w (z7 B w0 F0 S β o.dst K) Q:=by
 have e1:=jj Ej;have e2:=jj PR;obtain⟨i',zv,cI,DU,_,La⟩:=ak (β:=β) (F:=F) (w:=w) hz;rw[hi]at cI; cases cI
 have TN:zv.cells.size=i.size:=by rw[<- La.1];exact rq
 have hs:∀ Xg,builtin .append c.argTypes o.type Xg (c.args.map a.eval)=(do pure (.value (<- Builtin.append_ #[t,t] o.type #[a.eval s,a.eval x]))):=fun Xg=>by
  rw[e1,e2];simp[builtin]
 have A5:S.row id ≠ .none:=by rw[hr];simp
 have PU:=hR.get s;have qA:=hR.get x;rw[TP]at PU;rw[rv]at qA;obtain⟨W0,hβ,jD⟩:=PU.own_inv;obtain⟨Xh,hβq,hvq⟩:=qA.own_inv;obtain⟨bq,vq,p1,p2,p3,p4,p5⟩:=yF hR hq hβq;have hlq:Xh.len=1:=by simpa using p3
 have Bb:a.eval x = .slice (some ⟨bq,0,none⟩) 1 Xh.cap:=by rw[hvq,p1,hlq];rfl
 let gn:Nat->Nat->Value:=fun _ k=>vq.getD k undef
 have Xc:∀ i' j,i' < 1->j<sz->w.cell? ⟨bq,0+i' * sz+j,none⟩=some (gn i' j):=fun i' j cI hj=>by
  have:i'=0:=by omega
  subst this;rw[Nat.zero_mul,Nat.add_zero,Nat.zero_add];exact G3 p2 (by rw[p4];simpa using hj)
 have I8:∀ j,j<sz->C4 β F w (cs.getD j .any) (vq.getD j undef):=fun j hj=>by
  have:=p5 0 j va9 hj;simpa using this
 have Em:∀ u ∈ u7 gn 1 sz,u.oneCell'=true:=fun u hu'=>by
  obtain⟨k,hk,rfl⟩:=List.mem_map.1 hu';have hk:k<sz:=by simpa using hk
  have:k % sz=k:=Nat.mod_eq_of_lt hk;show(vq.getD (k % sz) undef).oneCell'=true
  rw[this];exact((I8 k hk).one_cell (fx h1 k va5)).1
 have l6:∀ q,q<sz->q≠j0->y6 F w ((cs.map Q3).getD q .any) (gn 0 q):=fun q Lc mc=>by
  have h:=I8 q Lc;have hc:(cs.getD q .any).closed=true:=by
   have:=H0 S9 q;rwa[T0,if_neg (fun h=>mc h.1.symm)]at this
  rw[gF];exact(h.shut hc).tts
 obtain⟨_,Wv⟩:=yP (hy.trans (by rw[List.map_set];rfl:(cs.set j0 .any).map Q3=(cs.map Q3).set j0 .any));have l7:iz w G7 mm (some (ys y)) (gn 0 j0):=hmm _ (I8 j0 mZ);have fin:∀ (hd':Hd) (w':World),(Builtin.append_ #[t,t] o.type #[a.eval s,a.eval x]).run P w = .ok (.slice (hd'.b.map fun b=>⟨b,0,none⟩) hd'.len hd'.cap) w'->w.heap.size<=w'.heap.size ->
   (w'.os=w.os/\w'.tape=w.tape/\w'.output=w.output)->(∀ k,k<w.heap.size->(∀ c ∈ id :: cons,S.row c ≠ .none->¬ x7 β c k)->w'.heap[k]? = w.heap[k]?) ->
   (∀ b,Z1 (some hd') b->b<w'.heap.size/\((∃ c ∈ id :: cons,S.row c ≠ .none/\x7 β c b)∨w.heap.size<=b)) ->
   (∀ β',β' d=some hd'->(∀ j,β j≠none->β' j=β j)->C5 F w w'->y8 β' F w' d (.nest e sz j0 G7 d0 enc ys none (l++[y])))->o.wp P a w (z7 B w0 F0 S β o.dst K) Q:=by
  intro hd' w' K4 g1 g2 g3 g4 g5;obtain⟨β',F',q1,q2⟩:=hR.retie B1 (cons:=id :: cons) (dst:=o.dst) (hd':=hd') g1 g2 g3 g4 g5 (fun _ _ _ _ h=>by cases h);exact J5 L0 oV hs K4 ⟨_,_,hK,β',F',fun j hj=>q1 j (fun e=>hj (by rw[e];exact hd)),q2⟩
 have mlt:∀ b,mm.1=some b->b<w.heap.size:=fun b hb=>by
  obtain⟨r,_,_,LF⟩:=YY b hb;exact(hR.bB r b LF).2
 have mne:∀ b,mm.1=some b->¬ x7 β id b:=fun b hb h=>by
  obtain⟨r,Xi,LF,hr3⟩:=YY b hb;exact Xf (hR.inj r id b LF A5 hr3 h ▸ Xi)
 obtain⟨lI,jL⟩:=Z2 hR hr hβ;have Lu:l.length+1<=maxLen:=by simp only[maxLen];omega
 -- a new block
 have fresh:∀ (go:Nat->Nat->Value) (m:Nat->Option Nat×Nat×Nat) (cap:Nat),l.length+1<=cap->cap<=maxLen ->
   (∀ p q,p<l.length->q<sz->q≠j0->y6 F w ((enc (l.getD p d0)).getD q .any) (go p q))->(∀ p,p<l.length->iz w G7 (m p) (some (ys (l.getD p d0))) (go p j0))->(∀ p,l.length<=p->m p=(none,0,0)) ->
   (∀ i k c,(m i).1=some c->(m k).1=some c->i=k)->(∀ p c,(m p).1=some c->x7 β id c) ->
   (Builtin.append_ #[t,t] o.type #[a.eval s,a.eval x]).run P w = .ok (.slice (some ⟨w.heap.size,0,none⟩) (l.length+1) cap)
    (w.drew.alloc (.cells ((u7 go l.length sz).toArray++(u7 gn 1 sz).toArray++Builtin.zeroCells zv.cells (cap-(l.length+1))) e)) ->
   o.wp P a w (z7 B w0 F0 S β o.dst K) Q:=by
  intro go m cap hc Pv e6 e7 Wu e8 e9 K4;have hp:∀ k,k<w.heap.size->(w.drew.alloc (.cells ((u7 go l.length sz).toArray++(u7 gn 1 sz).toArray++Builtin.zeroCells zv.cells (cap-(l.length+1))) e)).heap[k]? = w.heap[k]? := fun k hk=>RowKit.Below.heap_alloc w.drew _ k hk
  have olt:∀ p c,(m p).1=some c->c<w.heap.size:=fun p c hc=>(hR.bB id c (e9 p c hc)).2
  refine fin ⟨some w.heap.size,l.length+1,cap,fun p=>if p=l.length then mm else m p⟩ _ K4 va9 ⟨rfl,rfl,rfl⟩ (fun k hk _=>hp k hk) (fun b hb=>?_) (fun β' mb _ hk=>?_)
  ·rcases hb with hb|⟨p,hb⟩
   ·have:b=w.heap.size:=by simpa using hb.symm
    subst this;exact⟨by simp,.inr (Nat.le_refl _)⟩
   ·have e3:b<w.heap.size/\∃ c ∈ id :: cons,S.row c ≠ .none/\x7 β c b:=by
     by_cases ep:p=l.length
     ·simp only[ep,if_true]at hb;obtain⟨r,r1,r2,r3⟩:=YY b hb;exact⟨mlt b hb,r,List.mem_cons_of_mem _ r1,r2,r3⟩
     ·simp only[ep,if_false]at hb;exact⟨olt p b hb,id,by simp,A5,e9 p b hb⟩
    exact⟨by simp;omega,.inl e3.2⟩
  ·obtain⟨v1,v2⟩:=qB (n:=l.length) (m:=1) (sz:=sz) (go:=go) (gn:=gn) (rest:=(Builtin.zeroCells zv.cells (cap-(l.length+1))).toList) (vs:=(u7 go l.length sz).toArray++(u7 gn 1 sz).toArray++Builtin.zeroCells zv.cells (cap-(l.length+1))) va9;refine sP (m:=m) (go:=go) (gn:=gn 0) (cs:=cs.map Q3) hk mZ mb (heap_alloc_new w.drew _) hc Pv ?_ v1 (fun q Lc=>by have:=v2 0 q va5 Lc; simpa using this) e6 e7 Wu e8 (fun p c hc=>⟨Nat.ne_of_lt (olt p c hc),hp c (olt p c hc)⟩) l6 Wv l7
    (fun c hc=>⟨Nat.ne_of_lt (mlt c hc),hp c (mlt c hc),fun p h=>mne c hc (e9 p c h)⟩)
   simp only[Array.size_append,List.size_toArray,u5,di,TN,<- G0,<- Nat.add_mul]
   congr 1;omega
 have hnz:∀ (g:Nat->Nat->Value),u7 g 0 sz=[]:=fun g=>by simp[u7]
 rcases jL with ⟨ao,n1,n2,n3⟩|⟨b,vs,g1,g2,g3,g4,g5,g6,g7,g8,g9⟩
 ·have PV:a.eval s = .slice none 0 0:=by rw[jD,n1,n2,lI,ao];rfl
  have LF:=run_append_nil (P:=P) w t o.type e i zv hu hi DU ⟨bq,0,none⟩ 1 Xh.cap (u7 gn 1 sz) (by rw[u5,G0]) (J4 Xc) va5 va5
   (by rw[ao]at yL;simp only[List.length_nil,Nat.zero_add]at yL;omega)
  refine fresh (fun _ _=>undef) jr (grownCap w 1 0 e) ?_ ?_ (fun p q hp=>by simp[ao]at hp) (fun p hp=>by simp[ao]at hp) (fun _ _=>rfl) (fun i k c hc=>by cases hc) (fun p c hc=>by cases hc) ?_
  ·rw[ao];exact grownCap_ge w 1 0 e
  ·exact grownCap_le_maxLen w 1 0 e (by simp only[maxLen];omega)
  ·rw[PV,Bb,LF];simp[ao,u7]
 ·have PV:a.eval s = .slice (some ⟨b,0,none⟩) l.length W0.cap:=by rw[jD,g1,lI];rfl
  let go:Nat->Nat->Value:=fun p q=>vs.getD (p*sz+q) undef
  have iE:∀ p q,p<l.length->q<sz->w.cell? ⟨b,0+p*sz+q,none⟩=some (go p q):=fun p q hp Lc=>by
   rw[Nat.zero_add];exact G3 g2 (by rw[g5];exact z6 (zB5 hp g3) Lc)
  have e7:∀ p,p<l.length->iz w G7 (W0.m p) (some (ys (l.getD p d0))) (go p j0):=fun p hp=>by
   have:=g7 p;rwa[jh,if_pos ⟨hp,by simp⟩]at this
  have Wu:∀ p,l.length<=p->W0.m p=(none,0,0):=fun p hp=>by
   have:=g7 p;rw[jh,if_neg (fun h=>by omega)]at this;exact this
  have e9:∀ p c,(W0.m p).1=some c->x7 β id c:=fun p c hc=>by rw[x7,hβ];exact aX hc
  by_cases cK:l.length+1<=W0.cap
  ·have ma:l.length*i.size+(u7 gn 1 sz).length<=vs.size:=by
    rw[u5,g5,<- G0,<- Nat.add_mul];exact Nat.mul_le_mul_right _ cK
   have LF:=run_append_room (P:=P) w t o.type e i hu hi b l.length W0.cap vs g2 ⟨bq,0,none⟩ 1 Xh.cap (u7 gn 1 sz) (by rw[u5,G0]) (J4 Xc) Em cK ma;obtain⟨f1,f2,f3⟩:=N2 b vs (vs.toList.take (l.length*i.size)++u7 gn 1 sz++vs.toList.drop (l.length*i.size+(u7 gn 1 sz).length)).toArray e (0,0) g2;have YZ:x7 β id b:=by rw[x7,hβ];exact A8 g1
   have sF:u7 go l.length sz=vs.toList.take (l.length*sz):=by
    apply List.ext_getElem?;intro k;by_cases hk:k<l.length*sz
    ·have h1:k / sz<l.length:=(Nat.div_lt_iff_lt_mul va5).2 hk;have h2:k % sz<sz:=Nat.mod_lt _ va5;have he:k=k / sz*sz+k % sz:=by rw[Nat.mul_comm];exact(Nat.div_add_mod k sz).symm
     have h3:=X6 (g:=go) h1 h2;rw[<- he]at h3;have z8:k<vs.size:=by
      have:l.length*sz<=W0.cap*sz:=Nat.mul_le_mul_right _ g3;omega
     have h4:go (k / sz) (k % sz)=vs.getD k undef:=by show vs.getD (k / sz*sz+k % sz) undef=_;rw[<- he]
     rw[h3,h4,List.getElem?_take_of_lt hk];simp[z8]
    ·rw[zA7 (by rw[u5];omega),zA7 (by rw[zB1];omega)]
   refine fin ⟨some b,l.length+1,W0.cap,fun p=>if p=l.length then mm else W0.m p⟩ _ (by rw[PV,Bb];exact LF) (by rw[f1.2.2.2];exact Nat.le_refl _) ⟨f1.1,f1.2.1,f1.2.2.1⟩ (fun k hk hn=>f2 k fun ek=>?_) (fun b' cJ=>?_) (fun β' mb _ hk=>?_)
   ·subst ek;exact hn id va9 A5 YZ
   ·rw[f1.2.2.2];rcases cJ with cJ|⟨p,cJ⟩
    ·have:b=b':=by simpa using cJ
     subst this;exact⟨(hR.bB id b YZ).2,.inl ⟨id,by simp,A5,YZ⟩⟩
    ·by_cases ep:p=l.length
     ·simp only[ep,if_true]at cJ;obtain⟨r,r1,r2,r3⟩:=YY b' cJ;exact⟨mlt b' cJ,.inl ⟨r,List.mem_cons_of_mem _ r1,r2,r3⟩⟩
     ·simp only[ep,if_false]at cJ;exact⟨(hR.bB id b' (e9 p b' cJ)).2,.inl ⟨id,by simp,A5,e9 p b' cJ⟩⟩
   ·obtain⟨v1,v2⟩:=qB (n:=l.length) (m:=1) (sz:=sz) (go:=go) (gn:=gn) (rest:=vs.toList.drop (l.length*i.size+(u7 gn 1 sz).length)) (vs:=(vs.toList.take (l.length*i.size)++u7 gn 1 sz++vs.toList.drop (l.length*i.size+(u7 gn 1 sz).length)).toArray) (by rw[sF,G0]);refine sP (m:=W0.m) (go:=go) (gn:=gn 0) (cs:=cs.map Q3) hk mZ mb f3 cK g4 ?_ v1 (fun q Lc=>by have:=v2 0 q va5 Lc; simpa using this) g6 e7 Wu g8 (fun p c hc=>⟨g9 p c hc,f2 c (g9 p c hc)⟩) l6 Wv l7
     (fun c hc=>?_)
    ·simp only[List.size_toArray,List.length_append,zB1,List.length_drop,Array.length_toList];rw[<- g5];omega
    ·have:c≠b:=fun ec=>mne c hc (ec ▸ YZ)
     exact⟨this,f2 c this,fun p h=>mne c hc (e9 p c h)⟩
  ·have LF:=run_append_grow (P:=P) w t o.type e i zv hu hi DU ⟨b,0,none⟩ l.length W0.cap (u7 go l.length sz) (by rw[u5,G0]) (J4 iE) ⟨bq,0,none⟩ 1 Xh.cap (u7 gn 1 sz)
    (by rw[u5,G0]) (J4 Xc) va5 va5 (growslice_fits va5 va5)
   refine fresh go W0.m (grownCap w (l.length+1) W0.cap e) (grownCap_ge w _ _ e) (grownCap_le_maxLen w _ _ e Lu) g6 e7 Wu g8 e9 ?_;rw[PV,Bb,LF]
theorem sQ(hR:Rel B w0 F0 S β F a w){o:Oper}{t e:TypeId}{x ix:Operand}(ho:o.op = .indexAddr t x ix)(hu:P.underlying t=some (.slice e)){inf:TypeInfo}(hi:P.info? e=some inf){k:IntKind}{n:Int}(hn:S.get ix = .int k n){y:AV}{b len cap:Nat}
  (hv:a.eval x = .slice (some ⟨b,0,none⟩) len cap) (h0:0<=n) (h1:n<(len:Nat)) (hy:C4 β F w y (.pointer (some ⟨b,n.toNat*inf.size,none⟩))) {K:Out->List Nat->Prop} {rd:List Nat} (hK:K ⟨y,[]⟩ rd) {Q:Exit->Act->World->Prop}:o.wp P a w (z7 B w0 F0 S β o.dst K) Q:=by
 have PJ:=hR.get ix;rw[hn]at PJ;have L0:execOp a.eval o=(do pure (.value (<- Instr.indexAt t (a.eval x) (a.eval ix)))):=by simp[execOp,ho]
 rw[PJ.int_inv,hv]at L0;refine K3 L0 (v := .pointer (some ⟨b,n.toNat*inf.size,none⟩)) (w':=w) ?_ (z7.still hR hy hK);simp[Instr.indexAt,run_underlying hu,asIntOf,h0,h1,sizeOf,typeInfo,hi,U3]
theorem Bz(hR:Rel B w0 F0 S β F a w){o:Oper}{c:Call}(ho:o.op = .call c)(hb:c.callee = .builtin .len){x:Operand}{t e:TypeId}(hx:c.args.toList=[x])(ht:c.argTypes.toList=[t])(hu:P.underlying t=some (.slice e)){p:Option Addr}{len cap:Nat}
  (hv:a.eval x = .slice p len cap) {K:Out->List Nat->Prop} {rd:List Nat} (hK:K ⟨.int .i64 len,[]⟩ rd) {Q:Exit->Act->World->Prop}:o.wp P a w (z7 B w0 F0 S β o.dst K) Q:=by
 have e1:=jj hx;have e2:=jj ht;have hs:∀ cs,builtin .len c.argTypes o.type cs (c.args.map a.eval)=(do pure (.value (<- Builtin.len_ #[t] o.type #[a.eval x]))):=fun cs=>by
  rw[e1,e2];simp[builtin]
 rw[hv]at hs;refine J5 ho hb hs (v := .int .i64 len) (w':=w) ?_ (z7.still hR (.imm (.int _ _)) hK);simp[Builtin.len_,run_underlying hu,goInt]
theorem TQ{e:Nat}{ty:TypeId}{α:Type}{sz:Nat}{d:α}{enc:α->List AV}{l:List α}(hr:y8 β F w e (.vec ty sz d enc l)){v:Value}(hv:C4 β F w (.own e) v):y6 (fun b=>F b∨x7 β e b) w (.sl sz d enc l) v:=by
 obtain⟨hd,hb,rfl⟩:=hv.own_inv;obtain⟨hd',e1,em,e2,e3⟩:=hr;rw[hb]at e1;cases e1
 rcases e3 with ⟨rfl,e4,e5⟩|⟨b,vs,e4,e5,e6,e7,e8,e9⟩
 ·simp only[List.length_nil]at e2;rw[e2,e4,e5];exact .slnil
 ·rw[e2,e4];refine .sl (o:=0) (fun i j=>vs.getD (i*sz+j) undef) e6 (fun i j hi hj=>⟨.inr (by rw[x7,hb];exact A8 e4),?_⟩)
   (fun i j hi hj=>(e9 i j hi hj).mono (fun _ h => .inl h) (fun _ _ _ _ h=>h))
  have:=z6 (zB5 hi e6) hj;rw[Nat.zero_add];exact G3 e5 va5
theorem nk(S:St)(e j:Nat):(⟨S.t,S.h.set e .none,S.n⟩:St).row j=if e=j then .none else S.row j:=by
 show(S.h.set e .none).getD j .none=_
 simp only[r7];by_cases ej:e=j
 ·subst ej;by_cases hl:e<S.h.length
  ·simp[hl]
  ·simp[hl,St.row,List.getD,zA7 (Nat.le_of_not_lt hl)]
 ·simp[ej,St.row]
theorem Rel.coin(hR:Rel B w0 F0 S β F a w){e:Nat}(he:S.row e ≠ .none):Rel B w0 F0 ⟨S.t,S.h.set e .none,S.n⟩ β (fun b=>F b∨x7 β e b) a w:=by
  have live:∀ j,(⟨S.t,S.h.set e .none,S.n⟩:St).row j ≠ .none->e≠j/\S.row j ≠ .none:=fun j h=>by
    rw[nk]at h;split at h
    · exact absurd rfl h
    · rename_i V8;exact⟨V8,h⟩
  exact { len:=hR.len,slots:=fun i hi=>(hR.slots i hi).grow (fun _ _=>rfl) (fun _ h => .inl h) (C5.refl _ _),marks:=hR.marks,
          rows:=fun j=>by
            rw[nk];split
            · trivial
            · exact(hR.rows j).grow (fun _ _=>rfl) (fun _ h => .inl h) (C5.refl _ _) (fun _ _=>rfl)
          inj:=fun i j b hi hj=>hR.inj i j b (live i hi).2 (live j hj).2
          bF:=fun i b hi B3 h=>h.elim (hR.bF i b (live i hi).2 B3) fun h=>(live i hi).1 (hR.inj e i b he (live i hi).2 h B3)
          bB:=hR.bB
          FB:=fun b h=>h.elim (hR.FB b) fun h=>⟨(hR.bB e b h).2,.inr (hR.bB e b h).1⟩
          below:=hR.below,BW:=hR.BW,top:=hR.top,topn:=fun j hj=>hR.topn j hj,nn:=hR.nn,inc:=fun b hb => .inl (hR.inc b hb),keep:=hR.keep,sol:=hR.sol
          yl:=hR.ylOf (fun i=>i) (fun id l xs k e' h=>by rw[nk]at h;split at h;cases h;exact h) (fun _ _ _ _ h=>h) (fun i b hi hb=>⟨i,(live i hi).2,hb⟩) (fun b hb=>hb.elim .inl fun h => .inr ⟨e,he,h⟩) }
theorem Ik(hR:Rel B w0 F0 S β F a w){o:Oper}{t:TypeId}{x y:Operand}(ho:o.op = .store t x y){id sz j off e:Nat}(hg:S.get x = .ptr id sz j off)(LG:S.get y = .own e)
  {ty:TypeId} {α:Type} {d:α} {enc:α->List AV} {zs:List α} (hr:S.row id = .vec ty sz d enc zs) {ty1:TypeId} {α1:Type} {Gy:Nat} {d1:α1} {BA:α1->List AV} {l1:List α1} (yQ:S.row e = .vec ty1 Gy d1 BA l1)
  {i:TypeInfo} (hi:P.info? t=some i) (BB:i.size=1) (hlen:(enc (zs.getD j d)).length=sz) (yR:off<sz) (V8:id≠e) {yy:α} (hy:enc yy=(enc (zs.getD j d)).set off (.sl Gy d1 BA l1)) (hj:j<zs.length)
  {K:Out->List Nat->Prop} {rd:List Nat} (hK:K ⟨.any,[(e,.none),(id,.vec ty sz d enc (zs.set j yy))]⟩ rd) {Q:Exit->Act->World->Prop}:o.wp P a w (z7 B w0 F0 S β o.dst K) Q:=by
 have he:S.row e ≠ .none:=by rw[yQ];simp
 obtain⟨c1,c2,c3⟩:=cells?_rep (hR.get y) (l:=[.own e]) (by rw[LG];rfl);simp only[zB2,List.length_nil,Nat.zero_add]at c1 c2;have cv:=c2 0 va5;simp only[List.getD_cons_zero]at cv;obtain⟨v0,jD⟩:∃ v0,(a.eval y).cells.toList=[v0]:=by
  match hh:(a.eval y).cells.toList,(by simp[c1]:(a.eval y).cells.toList.length=1)with
  | [v0],_=>exact⟨v0,rfl⟩
 have Xj:(a.eval y).cells.getD 0 undef=v0:=by
  have:(a.eval y).cells=#[v0]:=by rw[<- Array.toArray_toList (xs:=(a.eval y).cells),jD]
  rw[this];rfl
 rw[Xj]at cv;have yK:=TQ (yQ ▸ hR.rows e) cv;have iF:=hR.coin he;have Xi:(⟨S.t,S.h.set e .none,S.n⟩:St).row id = .vec ty sz d enc zs:=by rw[nk,if_neg (fun h=>V8 h.symm)];exact hr
 have L0:execOp a.eval o=(do Instr.storeAt t (a.eval x) (a.eval y);pure .skip):=by simp[execOp,ho]
 have hx:=hR.get x;rw[hg]at hx;obtain⟨hd,b,hb,hh,hv⟩:=hx.ptr_inv;rw[hv]at L0;have nd:x7 β id b:=by rw[x7,hb];exact A8 hh
 obtain⟨lI,jL⟩:=ag iF Xi hb;rcases jL with ⟨h1,h2,_⟩|⟨b',vs,e1,e2,e3,e4,e5,e6⟩
 ·rw[h1]at hj;simp at hj
 rw[hh]at e1;cases e1
 have ma:j*sz+off+1<=vs.size:=by
  have:=z6 (zB5 hj e3) yR;rw[e5];omega
 have K4:=bK (P:=P) hi e2 (v:=a.eval y) (o:=j*sz+off) (by rw[c1,BB]) va5 c3;obtain⟨f1,f2,f3⟩:=N2 b vs (x8 vs (j*sz+off) (a.eval y).cells.toList) ty (0,0) e2;refine iB L0 K4 ⟨_,_,hK,β,_,fun _ _=>rfl,iF.write (id:=id) (r := .vec ty sz d enc (zs.set j yy)) (by rw[Xi];simp) nd f1 f2 (fun _ => .imm (.any _)) (fun hk=>?_) (fun _ _ _ _ h=>by cases h)⟩;rw[jD]at hk f3 ⊢;obtain⟨_,q1,q2,_⟩:=Xi ▸ iF.rows id;rw[hb]at q1;cases q1
 refine⟨hd,hb,q2,by rw[lI];simp,.inr ⟨b,_,hh,f3,by simpa using e3,e4,by rw[C0 (by simpa using ma)];exact e5,fun p q hp hq=>?_⟩⟩;have ph:p<zs.length:=by simpa using hp
 rw[B9 (by simpa using ma)];simp only[zB2,List.length_nil,Nat.zero_add];by_cases Ls:p=j
 ·subst Ls;have eg:(zs.set p yy).getD p d=yy:=by simp[List.getD,ph]
  rw[eg,hy];by_cases Ib:q=off
  ·subst Ib;have c:p*sz+q<=p*sz+q/\p*sz+q<p*sz+q+1:=by omega
   rw[if_pos c];have e0:((enc (zs.getD p d)).set q (.sl Gy d1 BA l1)).getD q .any = .sl Gy d1 BA l1:=by
    rw[List.getD,List.getElem?_set_self (by rw[hlen];exact yR)];rfl
   rw[e0,Nat.sub_self];exact yK.mono (fun _ h=>h) hk
  ·have c:¬ (p*sz+off<=p*sz+q/\p*sz+q<p*sz+off+1):=by omega
   rw[if_neg c];have e0:((enc (zs.getD p d)).set off (.sl Gy d1 BA l1)).getD q .any=(enc (zs.getD p d)).getD q .any:=by simp[List.getD,List.getElem?_set,Ne.symm Ib]
   rw[e0];exact(e6 p q ph hq).mono (fun _ h=>h) hk
 ·have eg:(zs.set j yy).getD p d=zs.getD p d:=by simp[List.getD,List.getElem?_set,Ne.symm Ls]
  have c:¬ (j*sz+off<=p*sz+q/\p*sz+q<j*sz+off+1):=by
   rcases Nat.lt_or_gt_of_ne Ls with z8|sJ
   ·have:=z6 z8 hq;omega
   ·have:(j+1)*sz<=p*sz:=Nat.mul_le_mul_right sz sJ;rw[Nat.add_mul]at this;omega
  rw[eg,if_neg c];exact(e6 p q ph hq).mono (fun _ h=>h) hk
end
def gM(P:Program)(dst:Option Nat)(op:Op)(g:Operand->AV)(r:Nat->Row)(K:Out->List Nat->Prop):Prop :=
 match op with
 | .load t x=>match g x with
  | .ptr id sz j off=>match r id with
   | .nest _ Ba j0 _ d enc _ ho l=>match P.info? t,P.underlying t with
    | some i,some dd=>match Nat.beq sz Ba && Nat.beq (enc (l.getD j d)).length sz with
     | true=>match lG (aZ dd) i.size (sN id j j0 ho (enc (l.getD j d))) off with
      | some v=>j<l.length/\K ⟨v,[]⟩ [id]
      | none=>False
     | false=>False
    | _,_=>False
   | _=>y0 P dst op g r K
  | _=>y0 P dst op g r K
 | .indexAddr t x i=>match g x with
  | .own id=>match r id with
   | .nest _ sz _ _ _ _ _ _ l=>match g i,P.underlying t with
    | .int _ n,some (.slice e)=>match P.info? e with
     | some inf=>match Nat.beq sz inf.size with
      | true=>(0<=n/\n<l.length)/\K ⟨.ptr id sz n.toNat 0,[]⟩ [id]
      | false=>False
     | none=>False
    | _,_=>False
   | _=>y0 P dst op g r K
  | .mem id m=>match r id with
   | .nest _ _ _ _ d _ ys none l=>match g i,P.underlying t with
    | .int _ n,some (.slice e)=>match P.info? e with
     | some inf=>match Nat.beq 1 inf.size with
      | true=>(0<=n/\n<(ys (l.getD m d)).length)/\K ⟨.mptr id m n.toNat,[]⟩ [id]
      | false=>False
     | none=>False
    | _,_=>False
   | _=>y0 P dst op g r K
  | _=>y0 P dst op g r K
 | .call c=>match c.callee with
  | .builtin .len=>match c.args.toList,c.argTypes.toList with
   | [x],[t]=>match g x with
    | .own id=>match r id with
     | .nest _ _ _ _ _ _ _ _ l=>match P.underlying t with
      | some (.slice _)=>K ⟨.int .i64 l.length,[]⟩ [id]
      | _=>y0 P dst op g r K
     | _=>y0 P dst op g r K
    | .mem id m=>match r id with
     | .nest _ _ _ _ d _ ys none l=>match P.underlying t with
      | some (.slice _)=>K ⟨.int .i64 (ys (l.getD m d)).length,[]⟩ [id]
      | _=>y0 P dst op g r K
     | _=>y0 P dst op g r K
    | _=>y0 P dst op g r K
   | _,_=>y0 P dst op g r K
  | .builtin .append=>match c.args.toList,c.argTypes.toList with
   | [s,x],[t,t']=>match g s with
    | .own id=>match r id with
     | .nest ty sz j0 G7 d0 enc ys none l=>match dst,P.underlying t,g x with
      | some d,some (.slice e),.own q=>match P.info? e,dc P e,r q with
       | some i,some z,.lit _ szq [cs]=>match Nat.beq t t' && (Nat.beq z.length i.size && (Nat.blt 0 i.size && (Nat.beq ty e && (Nat.beq sz i.size && (Nat.beq szq sz && (Nat.beq cs.length sz && (Nat.blt j0 sz && (bJ cs && G8 (cs.set j0 .any)))))))))with
        | true=>match cs.getD j0 .any with
         | .own m=>∃ (zs:List Int) (y:_),(r m = .vec G7 1 0 aR zs/\ys y=zs/\(enc y).set j0 .any=(cs.set j0 .any).map Q3/\(l.length+1)*i.bytes<=1099511627776/\l.length+1<=1099511627776) /\
           K ⟨.own d,[(id,.none),(m,.none),(d,.nest ty sz j0 G7 d0 enc ys none (l++[y]))]⟩ [id,q,m]
         | .nils=>∃ y,(ys y=[]/\(enc y).set j0 .any=(cs.set j0 .any).map Q3/\(l.length+1)*i.bytes<=1099511627776/\l.length+1<=1099511627776) /\
           K ⟨.own d,[(id,.none),(d,.nest ty sz j0 G7 d0 enc ys none (l++[y]))]⟩ [id,q]
         | _=>False
        | false=>False
       | _,_,_=>False
      | _,_,_=>False
     | _=>y0 P dst op g r K
    | _=>y0 P dst op g r K
   | _,_=>y0 P dst op g r K
  | _=>y0 P dst op g r K
 | .store t x y=>match g x with
  | .ptr id sz j off=>match g y with
   | .own e=>match r id with
    | .vec ty Ba d enc zs=>match r e with
     | .vec _ Gy d1 BA l1=>match P.info? t with
      | some i=>match Nat.beq i.size 1 && (Nat.beq sz Ba && (Nat.beq (enc (zs.getD j d)).length sz && (Nat.blt off sz && !Nat.beq id e)))with
       | true=>∃ yy,(enc yy=(enc (zs.getD j d)).set off (.sl Gy d1 BA l1)/\j<zs.length)/\K ⟨.any,[(e,.none),(id,.vec ty sz d enc (zs.set j yy))]⟩ [id,e]
       | false=>False
      | none=>False
     | _=>y0 P dst op g r K
    | _=>y0 P dst op g r K
   | _=>y0 P dst op g r K
  | _=>y0 P dst op g r K
 | _=>y0 P dst op g r K
theorem BC{P:Program}{dst:Option Nat}{op:Op}{g:Operand->AV}{r:Nat->Row}{K:Out->List Nat->Prop}(h:y0 P dst op g r K):gM P dst op g r K:=by
 unfold gM;split
 ·split
  ·rename_i hg;split
   ·rename_i hr;exfalso;simp only[y0,hg,hr]at h;split at h<;>exact h
   ·exact h
  ·exact h
 ·split
  ·rename_i hg;split
   ·rename_i hr;exfalso;simp only[y0,hg,hr]at h
    repeat' split at h
    all_goals first|exact h|(obtain⟨_,h⟩:=(D4 _ _ _).1 h;exact h)
   ·exact h
  ·rename_i hg;split
   ·rename_i hr;exfalso;simp only[y0,hg]at h
    repeat' split at h
    all_goals first|exact h|(obtain⟨_,h⟩:=(D4 _ _ _).1 h;exact h)
   ·exact h
  ·exact h
 ·split
  ·rename_i hb;split
   ·rename_i hx ht;split
    ·rename_i hg;split
     ·rename_i hr;split
      ·rename_i hu;exfalso;simp only[y0,hb,hx,ht,hg,hr,hu]at h
      ·exact h
     ·exact h
    ·rename_i hg;split
     ·rename_i hr;split
      ·rename_i hu;exfalso;simp only[y0,hb,hx,ht,hg,hu]at h
      ·exact h
     ·exact h
    ·exact h
   ·exact h
  ·rename_i hb;split
   ·rename_i hx ht;split
    ·rename_i hg;split
     ·rename_i hr;exfalso;simp only[y0,hb,hx,ht,hg,hr]at h
      repeat' split at h
      all_goals first|exact h|(obtain⟨D,l',_,hD,_⟩:=h;simp only[sE,hr]at hD)
     ·exact h
    ·exact h
   ·exact h
  ·exact h
 ·split
  ·rename_i hg;split
   ·rename_i LG;split
    ·rename_i hr;split
     ·rename_i yQ;exfalso;simp only[y0,hg,LG,hr,AV.cells?,G8,AV.closed,Bool.false_and]at h
      repeat' split at h
      all_goals exact h
     ·exact h
    ·exact h
   ·exact h
  ·exact h
 ·exact h
section
variable {P:Program}{B:Nat->Prop}{w0:World}{F0:Env P}{S:St}{β:Nat->Option Hd}{F:Nat->Prop}{a:Act}{w:World}
theorem Gz(hR:Rel B w0 F0 S β F a w){o:Oper}(B1:Y9 o.op=true->∀ d,o.dst=some d->β d=none){K:Out->List Nat->Prop}(h:gM P o.dst o.op S.get S.row K){Q:Exit->Act->World->Prop} :
  o.wp P a w (z7 B w0 F0 S β o.dst K) Q:=by
 have hE:=fun h=>LC (P:=P) hR B1 (K:=K) (Q:=Q) h
 unfold gM at h;split at h
 ·rename_i t x ho;split at h
  ·rename_i id sz j off hg;split at h
   ·rename_i hr;split at h
    ·rename_i i dd hi hu;split at h
     ·rename_i hc;simp only[zA2]at hc;split at h
      ·rename_i v hl;exact Ij hR ho hg hr hi hu (zA8 hc.1) (zA8 hc.2) hl h.1 h.2
      ·exact h.elim
     ·exact h.elim
    ·exact h.elim
   ·exact hE h
  ·exact hE h
 ·rename_i t x ix ho;have hx:=hR.get x;split at h
  ·rename_i id hg;rw[hg]at hx;split at h
   ·rename_i hr;split at h
    ·rename_i k n e hn hu;split at h
     ·rename_i inf hi;split at h
      ·rename_i G0;have G0:=zA8 G0;obtain⟨⟨h0,h1⟩,hK⟩:=h;obtain⟨hd,hb,hv⟩:=hx.own_inv;obtain⟨lI,jL⟩:=Z2 hR hr hb;rcases jL with ⟨h2,_⟩|⟨b,vs,e1,_⟩
       ·rw[h2]at h1;simp at h1;omega
       ·rw[e1]at hv;refine sQ hR ho hu hi hn hv h0 va5 ?_ hK;rw[<- G0];exact C4.ptr hb e1
      ·exact h.elim
     ·exact h.elim
    ·exact h.elim
   ·exact hE h
  ·rename_i id m hg;rw[hg]at hx;split at h
   ·rename_i hr;split at h
    ·rename_i k n e hn hu;split at h
     ·rename_i inf hi;split at h
      ·rename_i G0;have G0:=zA8 G0;obtain⟨⟨h0,h1⟩,hK⟩:=h;obtain⟨hd,hb,mT,hv⟩:∃ hd,β id=some hd/\m<hd.len/\a.eval x = .slice ((hd.m m).1.map fun b=>⟨b,0,none⟩) (hd.m m).2.1 (hd.m m).2.2:=by
        generalize a.eval x=v at hx;cases hx with
        | imm h=>cases h
        | mem hb hi=>exact⟨_,hb,hi,rfl⟩
       obtain⟨lI,jL⟩:=Z2 hR hr hb;rcases jL with ⟨h2,_⟩|⟨b,vs,e1,e2,e3,e4,e5,e6,e7,e8,e9⟩
       ·rw[lI,h2]at mT;simp at mT
       ·have hm:=e7 m;rw[jh,if_pos ⟨va5,by simp⟩]at hm;obtain⟨m1,m2,m3⟩:=hm;rcases m3 with ⟨m4,_⟩|⟨c',us,m4,m5,m6,m7,m8,m9⟩
        ·rw[m4]at h1;simp at h1;omega
        ·rw[m4]at hv;refine sQ hR ho hu hi hn hv h0 va5 ?_ hK;rw[<- G0,Nat.mul_one];exact C4.mptr hb m4 mT va5
      ·exact h.elim
     ·exact h.elim
    ·exact h.elim
   ·exact hE h
  ·exact hE h
 ·rename_i c ho;split at h
  ·rename_i hb;split at h
   ·rename_i x t hx ht;have qA:=hR.get x;split at h
    ·rename_i id hg;rw[hg]at qA;split at h
     ·rename_i hr;split at h
      ·rename_i e hu;obtain⟨hd,cJ,hv⟩:=qA.own_inv;obtain⟨lI,_⟩:=Z2 hR hr cJ;rw[lI]at hv;exact Bz hR ho hb hx ht hu hv h
      ·exact hE h
     ·exact hE h
    ·rename_i id m hg;rw[hg]at qA;split at h
     ·rename_i hr;split at h
      ·rename_i e hu;obtain⟨hd,cJ,mT,hv⟩:∃ hd,β id=some hd/\m<hd.len/\a.eval x = .slice ((hd.m m).1.map fun b=>⟨b,0,none⟩) (hd.m m).2.1 (hd.m m).2.2:=by
        generalize a.eval x=v at qA;cases qA with
        | imm h=>cases h
        | mem hb hi=>exact⟨_,hb,hi,rfl⟩
       obtain⟨lI,jL⟩:=Z2 hR hr cJ;rcases jL with ⟨h2,_⟩|⟨b,vs,e1,e2,e3,e4,e5,e6,e7,e8,e9⟩
       ·rw[lI,h2]at mT;simp at mT
       ·have hm:=e7 m;rw[jh,if_pos ⟨va5,by simp⟩]at hm;rw[hm.2.1]at hv;exact Bz hR ho hb hx ht hu hv h
      ·exact hE h
     ·exact hE h
    ·exact hE h
   ·exact hE h
  ·rename_i hb;split at h
   ·rename_i s x t t' Ej PR;split at h
    ·rename_i id TP;split at h
     ·rename_i hr;split at h
      ·rename_i d e q hd hu rv;split at h
       ·rename_i i z ZZ szq cs hi hz hq;split at h
        ·rename_i hc;simp only[zA2]at hc;obtain⟨c1,c2,c3,c4,c5,c6,c7,c8,c9,c10⟩:=hc;have c1:=zA8 c1;have c2:=zA8 c2;have c3:=zB5 (Nat.lt_succ_self _) (Nat.le_of_ble_eq_true c3);have c4:=zA8 c4;have c5:=zA8 c5;have c6:=zA8 c6;have c7:=zA8 c7;have c8:=zB5 (Nat.lt_succ_self _) (Nat.le_of_ble_eq_true c8);subst c1;subst c4;subst c6;have fd:=B1 (by simp[ho,Y9,hb]) d hd;split at h
         ·rename_i m hm;obtain⟨zs,y,⟨q1,q2,q3,q4,q5⟩,hK⟩:=h;have Xk:S.row m ≠ .none:=by rw[q1];simp
          obtain⟨hdm,hbm⟩:=(hR.rows m).some Xk;obtain⟨l1,l2⟩:=ag hR q1 hbm;refine qC hR ho hb Ej PR hd fd hu TP rv hr hi hz hq c2 c3 c5 c7 c8 c9 c10 q3 q4 q5 (cons:=[m]) (mm:=(hdm.b,hdm.len,hdm.cap)) (fun h=>?_) (fun v hv=>?_) (fun b hb=>⟨m,by simp,Xk,by rw[x7,hbm];exact A8 hb⟩) hK
          ·have:_=m:=List.mem_singleton.1 h;subst this;rw[hr]at q1;cases q1
          ·rw[hm]at hv;obtain⟨mU,cJ,jL⟩:=hv.own_inv;rw[hbm]at cJ;cases cJ
           rw[q2];exact jN l1 l2 jL
         ·rename_i hm;obtain⟨y,⟨q2,q3,q4,q5⟩,hK⟩:=h;refine qC hR ho hb Ej PR hd fd hu TP rv hr hi hz hq c2 c3 c5 c7 c8 c9 c10 q3 q4 q5 (cons:=[]) (mm:=(none,0,0)) va9 (fun v hv=>?_) (fun b hb=>by cases hb) hK;rw[hm]at hv;rw[hv.nils_inv,q2];exact⟨rfl,rfl,.inl ⟨rfl,rfl,rfl⟩⟩
         ·exact h.elim
        ·exact h.elim
       ·exact h.elim
      ·exact h.elim
     ·exact hE h
    ·exact hE h
   ·exact hE h
  ·exact hE h
 ·rename_i t x y ho;split at h
  ·rename_i id sz j off hg;split at h
   ·rename_i e LG;split at h
    ·rename_i α ty Ba d enc zs hr;split at h
     ·rename_i α1 ty1 Gy d1 BA l1 yQ;split at h
      ·rename_i i hi;split at h
       ·rename_i hc;simp only[zA2,Bool.not_eq_true']at hc;obtain⟨k1,k2,k3,k4,k5⟩:=hc;obtain⟨yy,⟨hy,hj⟩,hK⟩:=h;have e0:=zA8 k2;subst e0;exact Ik hR ho hg LG hr yQ hi (zA8 k1) (zA8 k3) (Nat.lt_of_succ_le (Nat.le_of_ble_eq_true k4)) (fun h=>by subst h;simp at k5) hy hj hK
       ·exact h.elim
      ·exact h.elim
     ·exact hE h
    ·exact hE h
   ·exact hE h
  ·exact hE h
 ·exact hE h
theorem pj{dst:Option Nat}{op:Op}{g:Operand->AV}{r:Nat->Row}{K:Out->List Nat->Prop}(h:gM P dst op g r K) :
  ∃ out rd,K out rd/\∀ g' r',(∀ x ∈ E1 op,g' x=g x)->(∀ i ∈ rd,r' i=r i)->gM P dst op g' r' (fun o d=>o=out/\d=rd):=by
 have hE:y0 P dst op g r K->∃ out rd,K out rd/\∀ g' r',(∀ x ∈ E1 op,g' x=g x)->(∀ i ∈ rd,r' i=r i)->gM P dst op g' r' (fun o d=>o=out/\d=rd):=fun h=>by
  obtain⟨out,rd,h1,h2⟩:=El h;exact⟨out,rd,h1,fun g' r' hg hr=>BC (h2 g' r' hg hr)⟩
 have h0:=h;unfold gM at h;split at h
 ·rename_i t x;have e:∀ g':Operand->AV,(∀ z ∈ E1 (.load t x),g' z=g z)->g' x=g x:=fun g' hg=>hg _ (by simp[E1,Op.operands])
  split at h
  ·rename_i id sz j off pk;split at h
   ·rename_i By;split at h
    ·rename_i i dd hi hu;split at h
     ·rename_i hc;split at h
      ·rename_i v hl;exact⟨_,_,h.2,fun g' r' hg hr=>by simp only[gM,e g' hg,pk,hr _ (List.mem_singleton.2 rfl),By,hi,hu,hc,hl];exact⟨h.1,trivial,trivial⟩⟩
      ·exact h.elim
     ·exact h.elim
    ·exact h.elim
   ·exact hE h
  ·exact hE h
 ·rename_i t x ix;have e:∀ g':Operand->AV,(∀ z ∈ E1 (.indexAddr t x ix),g' z=g z)->g' x=g x/\g' ix=g ix:=fun g' hg=>⟨hg _ (by simp[E1,Op.operands]),hg _ (by simp[E1,Op.operands])⟩
  split at h
  ·rename_i id pk;split at h
   ·rename_i By;split at h
    ·rename_i k n e' hn hu;split at h
     ·rename_i inf hi;split at h
      ·rename_i G0;exact⟨_,_,h.2,fun g' r' hg hr=>by simp only[gM,(e g' hg).1,(e g' hg).2,pk,hr _ (List.mem_singleton.2 rfl),By,hn,hi,hu,G0];exact⟨h.1,trivial,trivial⟩⟩
      ·exact h.elim
     ·exact h.elim
    ·exact h.elim
   ·exact hE h
  ·rename_i id m pk;split at h
   ·rename_i By;split at h
    ·rename_i k n e' hn hu;split at h
     ·rename_i inf hi;split at h
      ·rename_i G0;exact⟨_,_,h.2,fun g' r' hg hr=>by simp only[gM,(e g' hg).1,(e g' hg).2,pk,hr _ (List.mem_singleton.2 rfl),By,hn,hi,hu,G0];exact⟨h.1,trivial,trivial⟩⟩
      ·exact h.elim
     ·exact h.elim
    ·exact h.elim
   ·exact hE h
  ·exact hE h
 ·rename_i c;have jk:∀ g':Operand->AV,(∀ z ∈ E1 (.call c),g' z=g z)->∀ x ∈ c.args.toList,g' x=g x:=fun g' hg x hx=>hg x (by simp only[E1,Op.operands,Call.operands,Array.toList_append];exact List.mem_append_right _ hx)
  split at h
  ·rename_i hb;split at h
   ·rename_i x t hx ht;have ex:∀ g':Operand->AV,(∀ z ∈ E1 (.call c),g' z=g z)->g' x=g x:=fun g' hg=>jk g' hg x (by rw[hx];simp)
    split at h
    ·rename_i id pk;split at h
     ·rename_i By;split at h
      ·rename_i e' hu;exact⟨_,_,h,fun g' r' hg hr=>by simp only[gM,hb,hx,ht,ex g' hg,pk,hr _ (List.mem_singleton.2 rfl),By,hu];exact⟨trivial,trivial⟩⟩
      ·exact hE h
     ·exact hE h
    ·rename_i id m pk;split at h
     ·rename_i By;split at h
      ·rename_i e' hu;exact⟨_,_,h,fun g' r' hg hr=>by simp only[gM,hb,hx,ht,ex g' hg,pk,hr _ (List.mem_singleton.2 rfl),By,hu];exact⟨trivial,trivial⟩⟩
      ·exact hE h
     ·exact hE h
    ·exact hE h
   ·exact hE h
  ·rename_i hb;split at h
   ·rename_i s x t t' Ej PR;have es:∀ g':Operand->AV,(∀ z ∈ E1 (.call c),g' z=g z)->g' s=g s:=fun g' hg=>jk g' hg s (by rw[Ej];simp)
    have ex:∀ g':Operand->AV,(∀ z ∈ E1 (.call c),g' z=g z)->g' x=g x:=fun g' hg=>jk g' hg x (by rw[Ej];simp)
    split at h
    ·rename_i id TP;split at h
     ·rename_i By;split at h
      ·rename_i d e' q hu rv;split at h
       ·rename_i i z ZZ szq cs hi hz hq;split at h
        ·rename_i hc;split at h
         ·rename_i m hm;obtain⟨zs,y,⟨q1,q2,q3,q4,q5⟩,hK⟩:=h;refine⟨_,_,hK,fun g' r' hg hr=>?_⟩;simp only[gM,hb,Ej,PR,es g' hg,ex g' hg,TP,rv,hr id va9,hr q va9,hr m va9,By,hu,hi,hz,hq,hc,hm];exact⟨zs,y,⟨q1,q2,q3,q4,q5⟩,rfl,trivial⟩
         ·rename_i hm;obtain⟨y,⟨q2,q3,q4,q5⟩,hK⟩:=h;refine⟨_,_,hK,fun g' r' hg hr=>?_⟩;simp only[gM,hb,Ej,PR,es g' hg,ex g' hg,TP,rv,hr id va9,hr q va9,By,hu,hi,hz,hq,hc,hm];exact⟨y,⟨q2,q3,q4,q5⟩,rfl,trivial⟩
         ·exact h.elim
        ·exact h.elim
       ·exact h.elim
      ·exact h.elim
     ·exact hE h
    ·exact hE h
   ·exact hE h
  ·exact hE h
 ·rename_i t x y;have e:∀ g':Operand->AV,(∀ z ∈ E1 (.store t x y),g' z=g z)->g' x=g x/\g' y=g y:=fun g' hg=>⟨hg _ (by simp[E1,Op.operands]),hg _ (by simp[E1,Op.operands])⟩
  split at h
  ·rename_i id sz j off pk;split at h
   ·rename_i en LG;split at h
    ·rename_i By;split at h
     ·rename_i yQ;split at h
      ·rename_i i hi;split at h
       ·rename_i hc;obtain⟨yy,q,hK⟩:=h;refine⟨_,_,hK,fun g' r' hg hr=>?_⟩;simp only[gM,(e g' hg).1,(e g' hg).2,pk,LG,hr id va9,hr en va9,By,yQ,hi,hc];exact⟨yy,q,rfl,trivial⟩
       ·exact h.elim
      ·exact h.elim
     ·exact hE h
    ·exact hE h
   ·exact hE h
  ·exact hE h
 ·exact hE h
end
/- Regions: in the order of the text, and in any order. A helper text: it speaks of no program. -/
section
variable {P:Program}{B:Nat->Prop}{w0:World}{F0:Env P}{S:St}{β:Nat->Option Hd}{F:Nat->Prop}{a:Act}{w:World}{ops:Array Oper}
def G1(d:Nat)(x:AV):AV :=
 match x.names d with
 | true => .any
 | false=>x
def C1(d:Nat):Row->Row
 | .none => .none
 | .cells ty cs => .cells ty (cs.map (G1 d))
 | .lit ty sz E5 => .lit ty sz (E5.map fun cs=>cs.map (G1 d))
 | .vec ty sz e enc l => .vec ty sz e enc l
 | .ctr l xs k e => .ctr l xs k e
 | .nest ty sz j0 G7 e enc ys ho l => .nest ty sz j0 G7 e enc ys ho l
 | .opq o => .opq o
def St.kill(S:St)(d:Nat):St:=⟨S.t.map (G1 d),(S.h.map (C1 d)).set d .none,S.n⟩
def St.kills(S:St):List Nat->St
 | []=>S
 | d :: l=>(S.kill d).kills l
theorem aq{d:Nat}{β':Nat->Option Hd}(hβ:∀ j,j≠d->β' j=β j){x:AV}{v:Value}(h:C4 β F w x v):C4 β' F w (G1 d x) v:=by
 unfold G1;cases hn:x.names d with
 | true=>exact .imm (.any _)
 | false=>exact h.turn hβ hn
theorem M6(d:Nat):G1 d .any = .any:=rfl
theorem gN(S:St)(d j:Nat):(S.kill d).row j=if j=d then .none else C1 d (S.row j):=by
 simp only[St.kill,St.row,r7,List.length_map];have hm:(S.h.map (C1 d)).getD j .none=C1 d (S.h.getD j .none):=by
  simp only[List.getD,List.getElem?_map];cases S.h[j]? <;> rfl
 rw[hm];by_cases h:j=d
 ·subst h;by_cases hl:j<S.h.length
  ·simp[hl]
  ·have e:S.h.getD j .none = .none:=by simp[List.getD,zA7 (Nat.le_of_not_lt hl)]
   rw[e];simp[C1]
 ·simp[h,Ne.symm h]
theorem iG{d:Nat}{r:Row}(h:C1 d r ≠ .none):r ≠ .none:=by rintro rfl;exact h rfl
theorem Rel.kill(hR:Rel B w0 F0 S β F a w)(d:Nat)(W0:F0.β d=none):∃ β',β' d=none/\(∀ j,j≠d->β' j=β j)/\Rel B w0 F0 (S.kill d) β' F a w:=by
 let β':Nat->Option Hd:=fun j=>if j=d then none else β j
 have h2:∀ j,j≠d->β' j=β j:=fun j hj=>by simp[β',hj]
 have b2:∀ j b,x7 β' j b->j≠d/\x7 β j b:=fun j b h=>by
  by_cases e:j=d
  ·subst e;simp[x7,β']at h
  ·exact⟨e,by simpa[x7,β',e]using h⟩
 have live:∀ j,(S.kill d).row j ≠ .none->j≠d/\S.row j ≠ .none:=fun j h=>by
  rw[gN]at h;by_cases e:j=d
  ·simp[e]at h
  ·rw[if_neg e]at h;exact⟨e,iG h⟩
 refine⟨β',by simp[β'],h2,?_⟩;refine { len:=by simp[St.kill,hR.len],slots:=fun i hi=>?_,marks:=hR.marks,rows:=fun j=>?_,inj:=fun i j b hi hj B3 P6=>?_,bF:=fun i b hi B3=>?_,bB:=fun i b B3=>hR.bB i b (b2 i b B3).2,FB:=hR.FB,below:=hR.below,BW:=hR.BW,top:=fun j hd h=>(h2 j fun e=>by rw[e,W0]at h;cases h).trans (hR.top j hd h),topn:=fun j hj=>hR.topn j (by simpa[St.kill,A3]using hj),nn:=hR.nn,inc:=hR.inc,keep:=hR.keep,sol:=hR.sol,yl:=hR.ylOf (fun i=>i) (fun id l xs k e h=>?_) (fun _ _ _ _ h=>h) (fun i b hi hb=>⟨i,(live i hi).2,(b2 i b hb).2⟩) (fun b hb => .inl hb) }
 ·simp only[St.kill,List.length_map]at hi ⊢;rw[u0 _ (M6 d)];exact aq h2 (hR.slots i hi)
 ·rw[gN];split
  ·trivial
  ·rename_i hj;have:=hR.rows j;cases hr:S.row j with
   | none=>trivial
   | ctr l xs k e =>
    rw[hr]at this;obtain⟨hd,e1,e2⟩:=this;exact⟨hd,(h2 j hj).trans e1,e2⟩
   | cells ty cs =>
    rw[hr]at this;obtain⟨hd,b,vs,e1,em,e2,e3,e4,e5⟩:=this;exact⟨hd,b,vs,(h2 j hj).trans e1,em,e2,e3,by simpa using e4,fun i hi=>by rw[u0 _ (M6 d)];exact aq h2 (e5 i (by simpa using hi))⟩
   | lit ty sz E5 =>
    rw[hr]at this;obtain⟨hd,b,vs,e1,em,e2,e3,e4,e5,e6,e7,e8⟩:=this;have hg:∀ i,(E5.map fun cs=>cs.map (G1 d)).getD i []=(E5.getD i []).map (G1 d):=by
     intro i;simp only[List.getD,List.getElem?_map];cases E5[i]? <;> simp
    exact⟨hd,b,vs,(h2 j hj).trans e1,em,e2,e3,by simpa using e4,by simpa using e5,by simpa using e6,by simpa using e7,fun i k hi hk=>by
     rw[hg,u0 _ (M6 d)];exact aq h2 (e8 i k (by simpa using hi) hk)⟩
   | vec ty sz e enc l =>
    rw[hr]at this;obtain⟨hd,e1,e2⟩:=this;exact⟨hd,(h2 j hj).trans e1,e2⟩
   | nest ty sz j0 G7 e enc ys ho l =>
    rw[hr]at this;obtain⟨hd,e1,e2⟩:=this;exact⟨hd,(h2 j hj).trans e1,e2⟩
   | opq o =>
    rw[hr]at this;obtain⟨hd,e1,e2⟩:=this;exact⟨hd,(h2 j hj).trans e1,e2⟩
 ·exact hR.inj i j b (live i hi).2 (live j hj).2 (b2 i b B3).2 (b2 j b P6).2
 ·exact hR.bF i b (live i hi).2 (b2 i b B3).2
 ·rw[gN]at h;split at h
  ·cases h
  ·cases hr:S.row id<;>rw[hr]at h<;>simp[C1]at h
   simp[h]
theorem Rel.kills:∀ (l:List Nat) {S:St} {β:Nat->Option Hd},(∀ d ∈ l,F0.β d=none)->Rel B w0 F0 S β F a w->∃ β',(∀ d ∈ l,β' d=none)/\(∀ j,β j=none->β' j=none)/\Rel B w0 F0 (S.kills l) β' F a w
 | [],_,β,_,hR=>⟨β,by simp,fun _ h=>h,hR⟩
 | d :: l,S,β,W0,hR=>by
  obtain⟨β1,h1,h2,iF⟩:=hR.kill d (W0 d va9);obtain⟨β2,h3,h4,jO⟩:=Rel.kills l (fun x hx=>W0 x (by simp[hx])) iF;refine⟨β2,fun x hx=>?_,fun j hj=>?_,jO⟩
  ·rcases List.mem_cons.1 hx with rfl|hx
   ·exact h4 _ h1
   ·exact h3 x hx
  ·by_cases e:j=d
   ·subst e;exact h4 _ h1
   ·exact h4 _ ((h2 j e).trans hj)
theorem y6.undef{F:Nat->Prop}{w:World}:y6 F w (.tup []) undef := .tup rfl fun i hi=>absurd hi (zB3 i)
theorem C4.tup0_inv{v:Value}{l:List AV}(h:C4 β F w (.tup l) v):∃ vs,v = .tuple vs:=by
 cases h with
 | imm h=>cases h;exact⟨_,rfl⟩
 | tup _ _=>exact⟨_,rfl⟩
def gw(ops:Array Oper)(S:St)(o:Oper):Option Bool :=
 match o.guard with
 | none=>some true
 | some (j,want)=>match (ops[j]?).bind (·.dst)with
  | none=>none
  | some t=>match S.t.getD t .any with
   | .tt=>some (want == true)
   | .ff=>some (want == false)
   | .bool b=>some (b == want)
   | .tup []=>some false
   | _=>none
theorem dQ(hR:Rel B w0 F0 S β F a w){o:Oper}{b:Bool}(h:gw ops S o=some b):Region.wanted o (yielded ops a.tmps)=b:=by
 unfold gw at h;unfold Region.wanted;cases hg:o.guard with
 | none=>simp[hg]at h;simp[h]
 | some p =>
  obtain⟨j,want⟩:=p;simp only[hg]at h ⊢;cases hd:(ops[j]?).bind (·.dst)with
  | none=>simp[hd]at h
  | some t =>
   simp only[hd]at h;have hs:=hR.get (.tmp t);have hv:∀ c,a.eval (.tmp t) = .bool c->yielded ops a.tmps j=some c:=fun c hc=>by
    have z8:t<a.tmps.size:=by
     rcases Nat.lt_or_ge t a.tmps.size with h' | h'
     ·exact h'
     ·simp[Act.eval,Array.getElem?_eq_none h',undef]at hc
    have:a.tmps[t] = .bool c:=by simpa[Act.eval,z8]using hc
    simp[yielded,hd,z8,this]
   have Y8:S.get (.tmp t)=S.t.getD t .any:=rfl;rw[Y8]at hs;split at h
   ·rename_i e;rw[e]at hs;rw[hv _ hs.tt_inv];simp only[Option.some.injEq]at h;subst h;cases want<;>rfl
   ·rename_i e;rw[e]at hs;rw[hv _ hs.ff_inv];simp only[Option.some.injEq]at h;subst h;cases want<;>rfl
   ·rename_i c e;rw[e]at hs;rw[hv _ hs.bool_inv];simp only[Option.some.injEq]at h;subst h;cases want<;>cases c<;>rfl
   ·rename_i e;rw[e]at hs;simp only[Option.some.injEq]at h;subst h;obtain⟨vs,Eh⟩:=hs.tup0_inv;have:yielded ops a.tmps j=none:=by
     simp only[yielded,hd,Option.bind_some];by_cases z8:t<a.tmps.size
     ·have:a.tmps[t] = .tuple vs:=by simpa[Act.eval,z8]using Eh
      simp[z8,this]
     ·simp[z8]
    rw[this];rfl
   ·cases h
inductive BD:AV->AV->Prop
 | same (x):BD x x
 | tt:BD (.bool true) .tt
 | ff:BD (.bool false) .ff
theorem BD.rep{x y:AV}{v:Value}(h:BD x y)(hx:C4 β F w x v):C4 β F w y v:=by
 cases h with
 | same=>exact hx
 | tt=>rw[hx.bool_inv];exact .imm .tt
 | ff=>rw[hx.bool_inv];exact .imm .ff
theorem Rel.fine{dst:Option Nat}{x y:AV}{rows:List (Nat×Row)}(h:Rel B w0 F0 (S.put dst ⟨x,rows⟩) β F a w)(hf:BD x y):Rel B w0 F0 (S.put dst ⟨y,rows⟩) β F a w where
 len:=by have:=h.len;simpa[St.put,V2]using this
 slots:=by
  intro i hi;have:=h.slots i (by simpa[St.put,V2]using hi);simp only[St.put,aC]at this ⊢;split
  ·rename_i hc;rw[if_pos hc]at this;exact hf.rep this
  ·rename_i hc;rw[if_neg hc]at this;exact this
 marks:=h.marks
 rows:=h.rows
 inj:=h.inj
 bF:=h.bF
 bB:=h.bB
 FB:=h.FB
 below:=h.below
 BW:=h.BW
 top:=h.top
 topn:=fun j hj=>h.topn j (by simpa[St.put,A3,V2]using hj)
 nn:=h.nn
 inc:=h.inc
 keep:=h.keep
 sol:=h.sol
 yl:=h.yl
theorem yS(S:St)(dst:Option Nat)(out:Out)(x:Operand)(h:∀ d,dst=some d->x ≠ .tmp d):(S.put dst out).get x=S.get x:=by
 cases x with
 | tmp t =>
  simp only[St.get,St.put,aC];rw[if_neg];rintro⟨h1,_⟩;exact h t h1 rfl
 | _=>rfl
theorem yT(h:List Row)(l:List (Nat×Row))(i:Nat)(hi:i ∉ l.map (·.1)):(r8 h l).getD i .none=h.getD i .none:=by
 induction l generalizing h with
 | nil=>rfl
 | cons x l ih =>
  obtain⟨j,r⟩:=x;simp only[List.map_cons,List.mem_cons,not_or]at hi;simp only[r8];rw[ih _ hi.2,r7,if_neg fun h=>hi.1 h.1.symm]
theorem GA(S:St)(dst:Option Nat)(out:Out)(i:Nat)(hi:i ∉ out.rows.map (·.1)):(S.put dst out).row i=S.row i:=yT _ _ _ hi
theorem BE(h:List Row)(i:Nat)(r:Row)(l:List (Nat×Row))(hi:i ∉ l.map (·.1)):(r8 h l).set i r=r8 (h.set i r) l:=by
 induction l generalizing h with
 | nil=>rfl
 | cons x l ih =>
  obtain⟨j,r'⟩:=x;simp only[List.map_cons,List.mem_cons,not_or]at hi;simp only[r8];rw[ih _ hi.2,List.set_comm _ _ (fun e=>hi.1 e.symm)]
theorem yU(h:List Row)(l m:List (Nat×Row))(hd:∀ x ∈ l.map (·.1),x ∉ m.map (·.1)):r8 (r8 h l) m=r8 (r8 h m) l:=by
 induction l generalizing h with
 | nil=>rfl
 | cons x l ih =>
  obtain⟨i,r⟩:=x;simp only[r8];rw[ih _ fun x hx=>hd x (by simp only[List.map_cons];exact List.mem_cons_of_mem _ hx)];rw[<- BE h i r m (hd i va9)]
theorem LH(S:St){x y:Option Nat}(o p:Out)(h:∀ d,x=some d->y≠some d)(hr:∀ i ∈ o.rows.map (·.1),i ∉ p.rows.map (·.1)):(S.put x o).put y p=(S.put y p).put x o:=by
 simp only[St.put]
 congr 1
 ·cases x with
  | none=>rfl
  | some d =>
   cases y with
   | none=>rfl
   | some e=>exact List.set_comm _ _ (fun he=>h d rfl (by rw[he]))
 ·exact yU _ _ _ hr
end
/- The executor, and why it is right. A helper text: it speaks of no program. -/
section
variable {P:Program}{B:Nat->Prop}{w0:World}{F0:Env P}{S:St}{β:Nat->Option Hd}{F:Nat->Prop}{a:Act}{w:World}{ops:Array Oper}
def lJ(s:Nat->Bool)(r:Nat->Row)(i:Nat):Row :=
 match s i with
 | true=>r i
 | false => .none
def lx:Nat->(Nat->Bool)->(Nat->Row)->AV->AV
 | 0,_,_,x=>x
 | n+1,s,r,x=>match x with
  | .ptr id sz i off=>match s id with
   | true=>E3 4 (lJ s r) (.ptr id sz i off)
   | false => .ptr id sz i off
  | .own id=>match s id with
   | true=>E3 4 (lJ s r) (.own id)
   | false => .own id
  | .mem id i=>match s id with
   | true=>E3 4 (lJ s r) (.mem id i)
   | false => .mem id i
  | .mptr id i k=>match s id with
   | true => .any
   | false => .mptr id i k
  | .agg l => .agg (l.map (lx n s r))
  | .tup l => .tup (l.map (lx n s r))
  | .fn f a b => .fn f (a.map (lx n s r)) (b.map (lx n s r))
  | x=>x
theorem ez(n:Nat)(s r):lx n s r .any = .any:=by cases n<;>rfl
def sR(s:Nat->Bool)(r:Nat->Row):Row->Row
 | .none => .none
 | .cells ty cs => .cells ty (cs.map (lx 4 s r))
 | .lit ty sz E5 => .lit ty sz (E5.map fun cs=>cs.map (lx 4 s r))
 | .vec ty sz e enc l => .vec ty sz e enc l
 | .ctr l xs k e => .ctr l xs k e
 | .nest ty sz j0 G7 e enc ys ho l => .nest ty sz j0 G7 e enc ys ho l
 | .opq o => .opq o
def fB(s:Nat->Bool)(r:Nat->Row):Nat->List Row->List Row
 | _,[]=>[]
 | i,x :: l=>(match s i with
  | true => .none
  | false=>sR s r x) :: fB s r (i+1) l
def St.freeze(S:St)(s:Nat->Bool):St:=⟨S.t.map (lx 4 s S.row),fB s S.row 0 S.h,S.n⟩
theorem nq(s:Nat->Bool)(r:Nat->Row):∀ (h:List Row) (k j:Nat),(fB s r k h).getD j .none=if s (k+j)=true then .none else sR s r (h.getD j .none)
 | [],k,j=>by simp[fB,sR]
 | x :: l,k,0=>by
  simp only[fB,List.getD_cons_zero,Nat.add_zero];cases s k<;>simp
 | x :: l,k,j+1=>by
  simp only[fB,List.getD_cons_succ];rw[nq s r l (k+1) j,show k+1+j=k+(j+1)by omega]
theorem Rel.forget(hR:Rel B w0 F0 S β F a w){S':St}(ht:S'.t=S.t)(hn:S'.n=S.n)(hr:∀ i,S'.row i=S.row i∨S'.row i = .none):Rel B w0 F0 S' β F a w:=by
  have live:∀ i,S'.row i ≠ .none->S.row i ≠ .none:=fun i h=>by
    rcases hr i with e|e
    · rw[<- e];exact h
    · exact absurd e h
  exact { len:=by rw[ht];exact hR.len,slots:=fun i hi=>by rw[ht]at hi ⊢; exact hR.slots i hi,marks:=hR.marks,
          rows:=fun i=>by
            rcases hr i with e|e
            · rw[e];exact hR.rows i
            · rw[e];trivial
          inj:=fun i j b hi hj=>hR.inj i j b (live i hi) (live j hj),bF:=fun i b hi=>hR.bF i b (live i hi),bB:=hR.bB,FB:=hR.FB,below:=hR.below,BW:=hR.BW,top:=hR.top,topn:=fun j hj=>hR.topn j (by simpa[A3,ht,hn]using hj),nn:=hn.trans hR.nn,inc:=hR.inc,keep:=hR.keep,sol:=hR.sol,yl:=hR.ylOf (fun i=>i) (fun id l xs k e h=>by rcases hr id with e' | e'<;>rw[e']at h;exact h;cases h) (fun _ _ _ _ h=>h) (fun i b hi hb=>⟨i,live i hi,hb⟩) (fun b hb => .inl hb) }
def sS(s:Nat->Bool):Nat->List Row->List Row
 | _,[]=>[]
 | i,x :: l=>(match s i with
  | true=>x
  | false => .none) :: sS s (i+1) l
theorem sT(s:Nat->Bool):∀ (h:List Row) (k j:Nat),(sS s k h).getD j .none=if s (k+j)=true then h.getD j .none else .none
 | [],k,j=>by simp[sS]
 | x :: l,k,0=>by
  simp only[sS,List.getD_cons_zero,Nat.add_zero];cases s k<;>simp
 | x :: l,k,j+1=>by
  simp only[sS,List.getD_cons_succ];rw[sT s l (k+1) j,show k+1+j=k+(j+1)by omega]
theorem vL(hR:Rel B w0 F0 S β F a w)(s:Nat->Bool)(n:Nat){x:AV}{v:Value}(h:C4 β F w x v) :
  y6 (fun b=>F b∨∃ i,s i=true/\S.row i ≠ .none/\x7 β i b) w (E3 n (lJ s S.row) x) v:=by
 let S':St:=⟨S.t,sS s 0 S.h,S.n⟩
 have A1:∀ i,S'.row i=lJ s S.row i:=fun i=>by
  show(sS s 0 S.h).getD i .none=_
  rw[sT,Nat.zero_add];unfold lJ St.row;cases s i<;>simp
 have M8:Rel B w0 F0 S' β F a w:=hR.forget rfl rfl fun i=>by
  rw[A1];unfold lJ;cases s i
  ·exact .inr rfl
  ·exact .inl rfl
 have:=F9 M8 n h;rw[show S'.row=lJ s S.row from funext A1]at this;refine this.mono (fun b hb=>?_) (fun _ _ _ _ h=>h);rcases hb with hb|⟨i,h1,h2⟩
 ·exact .inl hb
 ·refine .inr ⟨i,?_,?_,h2⟩
  ·rw[A1]at h1;unfold lJ at h1;cases hs:s i with
   | true=>rfl
   | false=>simp[hs]at h1
  ·rw[A1]at h1;unfold lJ at h1;cases hs:s i with
   | true=>simpa[hs]using h1
   | false=>simp[hs]at h1
theorem Rel.freeze(hR:Rel B w0 F0 S β F a w)(s:Nat->Bool):∃ F',Rel B w0 F0 (S.freeze s) β F' a w:=by
 let F':Nat->Prop:=fun b=>F b∨∃ i,s i=true/\S.row i ≠ .none/\x7 β i b
 have hF:∀ b,F b->F' b:=fun b h => .inl h
 have up:∀ {x v},C4 β F w x v->C4 β F' w x v:=fun h=>h.grow (fun _ _=>rfl) hF (C5.refl _ _)
 have frz:∀ (n:Nat) {x:AV} {v:Value},C4 β F w x v->C4 β F' w (lx n s S.row x) v:=by
  intro n
  induction n with
  | zero=>intro x v h;exact up h
  | succ n ih =>
   intro x v h;have cl:=vL hR s 4 h;cases x with
   | ptr id sz i off =>
    simp only[lx];cases s id
    ·exact up h
    ·exact .imm cl
   | own id =>
    simp only[lx];cases s id
    ·exact up h
    ·exact .imm cl
   | mem id i =>
    simp only[lx];cases s id
    ·exact up h
    ·exact .imm cl
   | mptr id i k =>
    simp only[lx];cases s id
    ·exact up h
    ·exact .imm (.any _)
   | agg l =>
    obtain⟨vs,rfl,hl,hr⟩:=h.agg_inv;exact .agg (by simpa using hl) fun i hi=>by rw[u0 _ (ez _ _ _)];exact ih (hr i (by simpa using hi))
   | tup l =>
    obtain⟨vs,rfl,hl,hr⟩:=h.tup_inv;exact .tup (by simpa using hl) fun i hi=>by rw[u0 _ (ez _ _ _)];exact ih (hr i (by simpa using hi))
   | fn f xs ys =>
    obtain⟨vs,us,rfl,hl,hm,hr,hk⟩:=h.fn_inv;exact .fn (by simpa using hl) (fun i hi=>by rw[u0 _ (ez _ _ _)];exact ih (hr i (by simpa using hi))) (by simpa using hm) (fun i hi=>by rw[u0 _ (ez _ _ _)];exact ih (hk i (by simpa using hi)))
   | _=>exact up h
 have A1:∀ i,(S.freeze s).row i=if s i=true then .none else sR s S.row (S.row i):=fun i=>by
  show(fB s S.row 0 S.h).getD i .none=_
  rw[nq,Nat.zero_add];rfl
 have live:∀ i,(S.freeze s).row i ≠ .none->s i=false/\S.row i ≠ .none:=fun i h=>by
  rw[A1]at h;cases hs:s i with
  | true=>simp[hs]at h
  | false=>simp only[hs,zB0,if_false]at h;exact⟨rfl,fun e=>h (by rw[e];rfl)⟩
 refine⟨F',{ len:=by simp[St.freeze,hR.len],slots:=fun i hi=>?_,marks:=hR.marks,rows:=fun j=>?_,inj:=fun i j b hi hj=>hR.inj i j b (live i hi).2 (live j hj).2,bF:=fun i b hi B3 h=>?_,bB:=hR.bB,FB:=fun b h=>?_,below:=hR.below,BW:=hR.BW,top:=hR.top,topn:=fun j hj=>hR.topn j (by simpa[St.freeze,A3]using hj),nn:=hR.nn,inc:=fun b hb=>hF b (hR.inc b hb),keep:=hR.keep,sol:=hR.sol,yl:=hR.ylOf (fun i=>i) (fun id l xs k e h=>?_) (fun _ _ _ _ h=>h) (fun i b hi hb=>⟨i,(live i hi).2,hb⟩) (fun b hb=>hb.elim .inl fun⟨i,_,h1,h2⟩ => .inr ⟨i,h1,h2⟩) }⟩
 ·simp only[St.freeze,List.length_map]at hi ⊢;rw[u0 _ (ez _ _ _)];exact frz 4 (hR.slots i hi)
 ·rw[A1];split
  ·trivial
  ·have:=hR.rows j;cases hr:S.row j with
   | none=>trivial
   | ctr l xs k e=>rw[hr]at this;exact this
   | cells ty cs =>
    rw[hr]at this;obtain⟨hd,b,vs,e1,em,e2,e3,e4,e5⟩:=this;exact⟨hd,b,vs,e1,em,e2,e3,by simpa using e4,fun i hi=>by rw[u0 _ (ez _ _ _)];exact frz 4 (e5 i (by simpa using hi))⟩
   | lit ty sz E5 =>
    rw[hr]at this;obtain⟨hd,b,vs,e1,em,e2,e3,e4,e5,e6,e7,e8⟩:=this;have hg:∀ i,(E5.map fun cs=>cs.map (lx 4 s S.row)).getD i []=(E5.getD i []).map (lx 4 s S.row):=by
     intro i;simp only[List.getD,List.getElem?_map];cases E5[i]? <;> simp
    exact⟨hd,b,vs,e1,em,e2,e3,by simpa using e4,by simpa using e5,by simpa using e6,by simpa using e7,fun i k hi hk=>by
     rw[hg,u0 _ (ez _ _ _)];exact frz 4 (e8 i k (by simpa using hi) hk)⟩
   | vec ty sz e enc l =>
    rw[hr]at this;obtain⟨hd,e1,em,e2,e3⟩:=this;refine⟨hd,e1,em,e2,?_⟩;rcases e3 with e3|⟨b,vs,q1,q2,q3,q4,q5,q6⟩
    ·exact .inl e3
    ·exact .inr ⟨b,vs,q1,q2,q3,q4,q5,fun i k hi hk=>(q6 i k hi hk).mono hF (fun _ _ _ _ h=>h)⟩
   | nest ty sz j0 G7 e enc ys ho l =>
    rw[hr]at this;exact this.grow (fun _ _=>rfl) hF (C5.refl _ _) (fun _ _=>rfl)
   | opq o =>
    rw[hr]at this;exact this.grow (fun _ _=>rfl) hF (C5.refl _ _) (fun _ _=>rfl)
 ·obtain⟨h1,h2⟩:=live i hi;rcases h with h|⟨k,h3,h4,h5⟩
  ·exact hR.bF i b h2 B3 h
  ·have:=hR.inj i k b h2 h4 B3 h5;subst this;rw[h1]at h3;cases h3
 ·rcases h with h|⟨i,h1,h2,h3⟩
  ·exact hR.FB b h
  ·have:=hR.bB i b h3;exact⟨this.2,.inr this.1⟩
 ·rw[A1]at h;split at h
  ·cases h
  ·cases hr:S.row id<;>rw[hr]at h<;>simp[sR]at h
   simp[h]
def lK:List AV->List AV->Option (List AV)
 | [],[]=>some []
 | a :: l,b :: m=>match lK l m with
  | some n=>match a with
   | .any=>some (.any :: n)
   | _=>some (b :: n)
  | none=>none
 | _,_=>none
def jl:List Row->List Row->Option (List Row)
 | [],[]=>some []
 | a :: l,b :: m=>match jl l m with
  | some n=>match a with
   | .none=>some (.none :: n)
   | _=>some (b :: n)
  | none=>none
 | _,_=>none
theorem sU:∀ {t s n:List AV},lK t s=some n->t.length=s.length/\n.length=s.length/\∀ i,n.getD i .any = .any∨n.getD i .any=s.getD i .any
 | [],[],n,h=>by simp[lK]at h;subst h;exact⟨rfl,rfl,fun i => .inl rfl⟩
 | a :: l,b :: m,n,h=>by
  simp only[lK]at h;cases hm:lK l m with
  | none=>simp[hm]at h
  | some k =>
   obtain⟨h0,h1,h2⟩:=sU hm;simp only[hm]at h;have:∃ c,n=c :: k/\(c = .any∨c=b):=by
    split at h
    ·cases h;exact⟨_,rfl,.inl rfl⟩
    ·cases h;exact⟨_,rfl,.inr rfl⟩
   obtain⟨c,rfl,hc⟩:=this;refine⟨by simp[h0],by simp[h1],fun i=>?_⟩;cases i with
   | zero=>simpa using hc
   | succ i=>simpa using h2 i
 | [],_ :: _,_,h=>by simp[lK]at h
 | _ :: _,[],_,h=>by simp[lK]at h
theorem mf:∀ {t s n:List Row},jl t s=some n->∀ i,n.getD i .none = .none∨n.getD i .none=s.getD i .none
 | [],[],n,h=>by simp[jl]at h;subst h;exact fun i => .inl rfl
 | a :: l,b :: m,n,h=>by
  simp only[jl]at h;cases hm:jl l m with
  | none=>simp[hm]at h
  | some k =>
   have h2:=mf hm;simp only[hm]at h;have:∃ c,n=c :: k/\(c = .none∨c=b):=by
    split at h
    ·cases h;exact⟨_,rfl,.inl rfl⟩
    ·cases h;exact⟨_,rfl,.inr rfl⟩
   obtain⟨c,rfl,hc⟩:=this;intro i;cases i with
   | zero=>simpa using hc
   | succ i=>simpa using h2 i
 | [],_ :: _,_,h=>by simp[jl]at h
 | _ :: _,[],_,h=>by simp[jl]at h
theorem Rel.mask(hR:Rel B w0 F0 S β F a w){T:St}(hn:T.n=S.n)(h1:lK T.t S.t=some T.t)(h2:jl T.h S.h=some T.h):Rel B w0 F0 T β F a w:=by
 obtain⟨_,l1,m1⟩:=sU h1;have m2:=mf h2;have M8:Rel B w0 F0 ⟨S.t,T.h,S.n⟩ β F a w:=hR.forget rfl rfl fun i=>(m2 i).symm
 exact { M8 with
  len:=by rw[l1];exact hR.len
  slots:=fun i hi=>by
   rcases m1 i with e|e
   ·rw[e];exact .imm (.any _)
   ·rw[e];exact hR.slots i (by rw[<- l1];exact hi)
  topn:=fun j hj=>hR.topn j (by simpa[A3,l1,hn]using hj)
  nn:=hn.trans hR.nn }
end
/- The executor, and why it is right (second part). A helper text: it speaks of no program. -/
section
variable {P:Program}{B:Nat->Prop}{w0:World}{F0:Env P}{S:St}{β:Nat->Option Hd}{F:Nat->Prop}{a:Act}{w:World}{ops:Array Oper}
structure VT:Type 1 where
 α:Type
 ty:TypeId
 sz:Nat
 d:α
 enc:α->List AV
mutual
def jP(id t:Nat):AV->AV
 | .ptr k sz i off => .ptr (match Nat.beq k id with
  | true=>t
  | false=>k) sz i off
 | .own k => .own (match Nat.beq k id with
  | true=>t
  | false=>k)
 | .mem k i => .mem (match Nat.beq k id with
  | true=>t
  | false=>k) i
 | .mptr k i j => .mptr (match Nat.beq k id with
  | true=>t
  | false=>k) i j
 | .agg l => .agg (BF id t l)
 | .tup l => .tup (BF id t l)
 | .fn f a b => .fn f (BF id t a) (BF id t b)
 | x=>x
def BF(id t:Nat):List AV->List AV
 | []=>[]
 | a :: l=>jP id t a :: BF id t l
end
def fC(id t:Nat):Row->Row
 | .cells ty cs => .cells ty (BF id t cs)
 | .lit ty sz E5 => .lit ty sz (E5.map (BF id t))
 | r=>r
def yV(id t:Nat)(S:St):St:=⟨BF id t S.t,((S.h.map (fC id t)).set t (fC id t (S.row id))).set id .none,S.n⟩
def canonB(t b c:Nat)(V:VT)(S:St):St :=
 match A3 S t && !(Nat.beq b t)with
 | false=>S
 | true=>match S.row b with
  | .cells _ cs=>match cs.getD c .any with
   | .own id=>match Nat.beq id t with
    | true=>S
    | false=>match A3 S id && !(Nat.beq id b)with
     | false=>S
     | true=>yV id t (S.kill t)
   | .nils=>match (S.kill t).row b with
    | .cells G7 Xg=>⟨(S.kill t).t,((S.kill t).h.set t (.vec V.ty V.sz V.d V.enc [])).set b (.cells G7 (Xg.set c (.own t))),S.n⟩
    | _=>S
   | _=>S
  | _=>S
def canonS(t:Nat)(V:VT)(S:St):St :=
 match S.t.getD t .any with
 | .own id=>match Nat.beq id t with
  | true=>S
  | false=>match A3 S id && A3 S t with
   | false=>S
   | true=>⟨(((S.kill t).kill id).t).set t (.own t),(((S.kill t).kill id).h).set t (C1 id ((S.kill t).row id)),S.n⟩
 | .nils=>match A3 S t with
  | false=>S
  | true=>⟨(S.kill t).t.set t (.own t),(S.kill t).h.set t (.vec V.ty V.sz V.d V.enc []),S.n⟩
 | _=>S
def canon1(t:Nat)(V:VT)(S:St):St :=
 match Nat.blt t 65536 with
 | true=>canonS t V S
 | false=>canonB (t % 65536) ((t / 65536-1) % 4096) ((t / 65536-1) / 4096) V S
def canonV:List (Nat×VT)->St->St
 | [],S=>S
 | (t,V) :: l,S=>canonV l (canon1 t V S)
theorem y8.kill{β β':Nat->Option Hd}{id t:Nat}(hβ:∀ j,j≠id->β j≠none->β' j=β j)(DS:β' t=β id){r:Row}(h:y8 β F w id r):y8 β' F w t (C1 id r):=by
 have up:∀ {x v},C4 β F w x v->C4 β' F w (G1 id x) v:=fun {x v} h=>by
  have h1:C4 (fun j=>if j=id then none else β j) F w (G1 id x) v:=aq (fun j hj=>by simp[hj]) h;exact h1.grow (fun j hj=>by
   by_cases e:j=id
   ·simp[e]at hj
   ·simp only[e,if_false]at hj ⊢; exact hβ j e hj) (fun _ h=>h) (C5.refl _ _)
 cases r with
 | none=>trivial
 | ctr l xs k e=>obtain⟨hd,e1,e2⟩:=h;exact⟨hd,DS.trans e1,e2⟩
 | cells ty cs =>
  obtain⟨hd,b,vs,e1,em,e2,e3,e4,e5⟩:=h;exact⟨hd,b,vs,DS.trans e1,em,e2,e3,by simpa using e4,fun i hi=>by rw[u0 _ (M6 id)];exact up (e5 i (by simpa using hi))⟩
 | lit ty sz E5 =>
  obtain⟨hd,b,vs,e1,em,e2,e3,e4,e5,e6,e7,e8⟩:=h;have hg:∀ i,(E5.map fun cs=>cs.map (G1 id)).getD i []=(E5.getD i []).map (G1 id):=by
   intro i;simp only[List.getD,List.getElem?_map];cases E5[i]? <;> simp
  exact⟨hd,b,vs,DS.trans e1,em,e2,e3,by simpa using e4,by simpa using e5,by simpa using e6,by simpa using e7,fun i k hi hk=>by
   rw[hg,u0 _ (M6 id)];exact up (e8 i k (by simpa using hi) hk)⟩
 | vec ty sz e enc l =>
  obtain⟨hd,e1,e2⟩:=h;exact⟨hd,DS.trans e1,e2⟩
 | nest ty sz j0 G7 d enc ys ho l =>
  obtain⟨hd,e1,e2⟩:=h;exact⟨hd,DS.trans e1,e2⟩
 | opq o =>
  obtain⟨hd,e1,e2⟩:=h;exact⟨hd,DS.trans e1,e2⟩
theorem Rel.rename(hR:Rel B w0 F0 S β F a w){t id:Nat}(ht:β t=none)(DS:id≠t)(hs:S.t.getD t .any = .own id)(W0:F0.β id=none) :
  ∃ β',Rel B w0 F0 ⟨((S.kill id).t).set t (.own t),((S.kill id).h).set t (C1 id (S.row id)),S.n⟩ β' F a w:=by
 obtain⟨hd,hβ,hv⟩:∃ hd,β id=some hd/\a.tmps.getD t undef = .slice (hd.b.map fun b=>⟨b,0,none⟩) hd.len hd.cap:=by
  have:=hR.get (.tmp t);have e:S.get (.tmp t) = .own id:=hs;rw[e]at this;have he:a.eval (.tmp t)=a.tmps.getD t undef:=rfl;rw[he]at this;exact this.own_inv
 let β':Nat->Option Hd:=fun j=>if j=t then some hd else if j=id then none else β j
 have b1:β' t=some hd:=by simp[β']
 have b2:∀ j,j≠t->j≠id->β' j=β j:=fun j h1 h2=>by simp[β',h1,h2]
 have b3:β' id=none:=by simp[β',DS]
 have sV:∀ j,j≠id->β j≠none->β' j=β j:=fun j h1 h2=>b2 j (fun e=>h2 (e ▸ ht)) h1
 have up:∀ {x v},C4 β F w x v->C4 β' F w (G1 id x) v:=fun {x v} h=>by
  have h1:C4 (fun j=>if j=id then none else β j) F w (G1 id x) v:=aq (fun j hj=>by simp[hj]) h;exact h1.grow (fun j hj=>by
   by_cases e:j=id
   ·simp[e]at hj
   ·simp only[e,if_false]at hj ⊢; exact sV j e hj) (fun _ h=>h) (C5.refl _ _)
 let S':St:=⟨((S.kill id).t).set t (.own t),((S.kill id).h).set t (C1 id (S.row id)),S.n⟩
 have A1:∀ j,S'.row j=if t=j/\j<(S.kill id).h.length then C1 id (S.row id)else if j=id then .none else C1 id (S.row j):=fun j=>by
  show(((S.kill id).h).set t (C1 id (S.row id))).getD j .none=_
  rw[r7];by_cases h:t=j
  ·subst h;by_cases h2:t<(S.kill id).h.length
   ·simp[h2]
   ·simp only[h2,and_false,if_false];have:=gN S id t;exact this
  ·simp only[h,false_and,if_false];exact gN S id j
 have bl:∀ j b,x7 β' j b->(j=t/\Z1 (some hd) b)∨(j≠t/\j≠id/\x7 β j b):=fun j b h=>by
  by_cases e:j=t
  ·subst e;exact .inl ⟨rfl,by simpa[x7,b1]using h⟩
  ·by_cases e2:j=id
   ·subst e2;simp[x7,b3]at h
   ·exact .inr ⟨e,e2,by simpa[x7,b2 j e e2]using h⟩
 have lv:∀ j,S'.row j ≠ .none->(j=t/\S.row id ≠ .none)∨(j≠id/\S.row j ≠ .none):=fun j h=>by
  rw[A1]at h;split at h
  ·rename_i hc;exact .inl ⟨hc.1.symm,iG h⟩
  ·split at h
   ·exact absurd rfl h
   ·rename_i hn;exact .inr ⟨hn,iG h⟩
 have LI:∀ {r},y8 β F w t r->r = .none:=fun {r} h=>by
  cases r with
  | none=>rfl
  | ctr l xs k e'=>obtain⟨_,e,_⟩:=h;rw[ht]at e;cases e
  | cells ty cs=>obtain⟨_,_,_,e,_⟩:=h;rw[ht]at e;cases e
  | lit ty sz E5=>obtain⟨_,_,_,e,_⟩:=h;rw[ht]at e;cases e
  | vec ty sz d enc l=>obtain⟨_,e,_⟩:=h;rw[ht]at e;cases e
  | nest ty sz j0 G7 d enc ys ho l=>obtain⟨_,e,_⟩:=h;rw[ht]at e;cases e
  | opq o=>obtain⟨_,e,_⟩:=h;rw[ht]at e;cases e
 have TR:S.row t = .none:=LI (hR.rows t);have PX:∀ j b,S'.row j ≠ .none->x7 β' j b->(j=t/\S.row id ≠ .none/\x7 β id b)∨(j≠t/\j≠id/\S.row j ≠ .none/\x7 β j b):=fun j b h1 h2=>by
  rcases bl j b h2 with ⟨e,h3⟩|⟨e1,e2,h3⟩
  ·refine .inl ⟨e,?_,by rw[x7,hβ];exact h3⟩;rcases lv j h1 with ⟨_,h⟩|⟨_,h⟩
   ·exact h
   ·rw[e]at h;exact absurd TR h
  ·rcases lv j h1 with ⟨e,_⟩|⟨_,h⟩
   ·exact absurd e e1
   ·exact .inr ⟨e1,e2,h,h3⟩
 refine⟨β',{ len:=by simp[St.kill,hR.len],slots:=fun i hi=>?_,marks:=hR.marks,rows:=fun j=>?_,inj:=fun i j b hi hj B3 P6=>?_,bF:=fun i b hi B3=>?_,bB:=fun i b B3=>?_,FB:=hR.FB,below:=hR.below,BW:=hR.BW,top:=fun j hd h=>(sV j (fun e=>by rw[e,W0]at h;cases h) (by rw[hR.top j hd h];simp)).trans (hR.top j hd h),topn:=fun j hj=>hR.topn j (by simpa[St.kill,A3]using hj),nn:=hR.nn,inc:=hR.inc,keep:=hR.keep,sol:=hR.sol,yl:=hR.ylOf (fun j=>if j=t then id else j) (fun j l xs k e h=>?_) (fun i j hi hj e=>?_) (fun i b hi hb=>by rcases PX i b hi hb with ⟨_,l1,k1⟩|⟨_,_,l1,k1⟩;exact⟨id,l1,k1⟩;exact⟨i,l1,k1⟩) (fun b hb => .inl hb) }⟩
 ·simp only[List.length_set]at hi;rw[T0];split
  ·rename_i hc;rw[<- hc.1,hv];exact .own b1
  ·simp only[St.kill,List.length_map]at hi ⊢;rw[u0 _ (M6 id)];exact up (hR.slots i hi)
 ·show y8 β' F w j (S'.row j)
  rw[A1];split
  ·rename_i hc;rw[<- hc.1];exact y8.kill sV (b1.trans hβ.symm) (hR.rows id)
  ·split
   ·trivial
   ·rename_i h1 h2;by_cases e:j=t
    ·subst e;rw[TR];trivial
    ·have hj:=hR.rows j;have key:y8 (fun i=>if i=id then none else β i) F w j (C1 id (S.row j)):=by
      cases hr:S.row j with
      | none=>trivial
      | ctr l xs k e =>
       rw[hr]at hj;obtain⟨hd',e1,e2⟩:=hj;exact⟨hd',by simp[h2,e1],e2⟩
      | cells ty cs =>
       rw[hr]at hj;obtain⟨hd',b,vs,e1,em,e2,e3,e4,e5⟩:=hj;exact⟨hd',b,vs,by simp[h2,e1],em,e2,e3,by simpa using e4,fun i hi=>by rw[u0 _ (M6 id)];exact aq (fun k hk=>by simp[hk]) (e5 i (by simpa using hi))⟩
      | lit ty sz E5 =>
       rw[hr]at hj;obtain⟨hd',b,vs,e1,em,e2,e3,e4,e5,e6,e7,e8⟩:=hj;have hg:∀ i,(E5.map fun cs=>cs.map (G1 id)).getD i []=(E5.getD i []).map (G1 id):=by
        intro i;simp only[List.getD,List.getElem?_map];cases E5[i]? <;> simp
       exact⟨hd',b,vs,by simp[h2,e1],em,e2,e3,by simpa using e4,by simpa using e5,by simpa using e6,by simpa using e7,fun i k hi hk=>by
        rw[hg,u0 _ (M6 id)];exact aq (fun k hk=>by simp[hk]) (e8 i k (by simpa using hi) hk)⟩
      | vec ty sz e enc l =>
       rw[hr]at hj;obtain⟨hd',e1,e2⟩:=hj;exact⟨hd',by simp[h2,e1],e2⟩
      | nest ty sz j0 G7 d enc ys ho l =>
       rw[hr]at hj;obtain⟨hd',e1,e2⟩:=hj;exact⟨hd',by simp[h2,e1],e2⟩
      | opq o =>
       rw[hr]at hj;obtain⟨hd',e1,e2⟩:=hj;exact⟨hd',by simp[h2,e1],e2⟩
     exact key.grow (fun i hi=>by
      by_cases ei:i=id
      ·simp[ei]at hi
      ·simp only[ei,if_false]at hi ⊢; exact sV i ei hi) (fun _ h=>h) (C5.refl _ _) (fun _ _=>rfl)
 ·rcases PX i b hi B3 with ⟨e1,l1,k1⟩|⟨e1,e1',l1,k1⟩<;>rcases PX j b hj P6 with ⟨e2,l2,k2⟩|⟨e2,e2',l2,k2⟩
  ·rw[e1,e2]
  ·exact absurd (hR.inj id j b l1 l2 k1 k2).symm e2'
  ·exact absurd (hR.inj i id b l1 l2 k1 k2) e1'
  ·exact hR.inj i j b l1 l2 k1 k2
 ·rcases PX i b hi B3 with ⟨_,l1,k1⟩|⟨_,_,l1,k1⟩
  ·exact hR.bF id b l1 k1
  ·exact hR.bF i b l1 k1
 ·rcases bl i b B3 with ⟨_,h⟩|⟨_,_,h⟩
  ·exact hR.bB id b (by rw[x7,hβ];exact h)
  ·exact hR.bB i b h
 ·replace h:S'.row j = .ctr l xs k e:=h
  rw[A1]at h;have inv:∀ {r},C1 id r = .ctr l xs k e->r = .ctr l xs k e:=fun {r} h=>by cases r<;>simp[C1]at h;simp[h]
  split at h
  ·rename_i hc;rw[if_pos hc.1.symm];exact inv h
  ·split at h
   ·cases h
   ·rename_i h1 h2;by_cases e:j=t
    ·subst e;rw[TR]at h;simp[C1]at h
    ·rw[if_neg e];exact inv h
 ·have cI:S'.row i ≠ .none:=hi;have oW:S'.row j ≠ .none:=hj;have key:∀ j,S'.row j ≠ .none->j=t∨j≠id:=fun j h=>by
   rcases lv j h with ⟨e,_⟩|⟨e,_⟩
   ·exact .inl e
   ·exact .inr e
  by_cases e1:i=t
  ·by_cases e2:j=t
   ·rw[e1,e2]
   ·rw[if_pos e1,if_neg e2]at e;rcases key j oW with h|h
    ·exact absurd h e2
    ·exact absurd e.symm h
  ·by_cases e2:j=t
   ·rw[if_neg e1,if_pos e2]at e;rcases key i cI with h|h
    ·exact absurd h e1
    ·exact absurd e h
   ·rw[if_neg e1,if_neg e2]at e;exact e
theorem Rel.nilVec(hR:Rel B w0 F0 S β F a w){t:Nat}(ht:β t=none)(hs:S.t.getD t .any = .nils)(V:VT):∃ β',Rel B w0 F0 ⟨S.t.set t (.own t),S.h.set t (.vec V.ty V.sz V.d V.enc []),S.n⟩ β' F a w:=by
 have hv:a.tmps.getD t undef = .slice none 0 0:=by
  have:=hR.get (.tmp t);have e:S.get (.tmp t) = .nils:=hs;rw[e]at this;exact this.nils_inv
 let β':Nat->Option Hd:=fun j=>if j=t then some ⟨none,0,0,jr⟩else β j
 have b1:β' t=some ⟨none,0,0,jr⟩:=by simp[β']
 have b2:∀ j,j≠t->β' j=β j:=fun j h1=>by simp[β',h1]
 have b3:∀ j,β j≠none->β' j=β j:=fun j hj=>b2 j fun e=>hj (e ▸ ht)
 have bl:∀ j b,x7 β' j b->j≠t/\x7 β j b:=fun j b h=>by
  by_cases e:j=t
  ·subst e;simp[x7,b1]at h
  ·exact⟨e,by simpa[x7,b2 j e]using h⟩
 have lv:∀ j,j≠t->(S.h.set t (.vec V.ty V.sz V.d V.enc [])).getD j .none=S.row j:=fun j hj=>by
  rw[r7,if_neg fun h=>hj h.1.symm];rfl
 refine⟨β',{ len:=by simp[hR.len],slots:=fun i hi=>?_,marks:=hR.marks,rows:=fun j=>?_,inj:=fun i j b hi hj B3 P6=>?_,bF:=fun i b hi B3=>?_,bB:=fun i b B3=>hR.bB i b (bl i b B3).2,FB:=hR.FB,below:=hR.below,BW:=hR.BW,top:=fun j hd h=>(b3 j (by rw[hR.top j hd h];simp)).trans (hR.top j hd h),topn:=fun j hj=>hR.topn j (by simpa[A3]using hj),nn:=hR.nn,inc:=hR.inc,keep:=hR.keep,sol:=hR.sol,yl:=hR.ylOf (fun i=>i) (fun j l xs k e h=>?_) (fun _ _ _ _ h=>h) (fun i b hi hb=>by obtain⟨e1,k1⟩:=bl i b hb;exact⟨i,by rw[<- lv i e1];exact hi,k1⟩) (fun b hb => .inl hb) }⟩
 ·simp only[List.length_set]at hi;rw[T0];split
  ·rename_i hc;rw[<- hc.1,hv];have:=C4.own (F:=F) (w:=w) b1;simpa using this
  ·exact(hR.slots i hi).grow b3 (fun _ h=>h) (C5.refl _ _)
 ·show y8 β' F w j ((S.h.set t (.vec V.ty V.sz V.d V.enc [])).getD j .none)
  rw[r7];split
  ·rename_i hc;rw[<- hc.1];exact⟨_,b1,rfl,rfl,.inl ⟨rfl,rfl,rfl⟩⟩
  ·exact(hR.rows j).grow b3 (fun _ h=>h) (C5.refl _ _) (fun _ _=>rfl)
 ·obtain⟨e1,k1⟩:=bl i b B3;obtain⟨e2,k2⟩:=bl j b P6;have cI:S.row i ≠ .none:=by rw[<- lv i e1];exact hi
  have oW:S.row j ≠ .none:=by rw[<- lv j e2];exact hj
  exact hR.inj i j b cI oW k1 k2
 ·obtain⟨e1,k1⟩:=bl i b B3;have cI:S.row i ≠ .none:=by rw[<- lv i e1];exact hi
  exact hR.bF i b cI k1
 ·have h:(S.h.set t (.vec V.ty V.sz V.d V.enc [])).getD j .none = .ctr l xs k e:=h;rw[r7]at h;split at h
  ·cases h
  ·exact h
theorem D7(id t:Nat):∀ l,(BF id t l).length=l.length
 | []=>rfl
 | a :: l=>by simp[BF,D7 id t l]
theorem U4(id t:Nat):∀ l i,(BF id t l).getD i .any=jP id t (l.getD i .any)
 | [],i=>by simp[BF,jP]
 | a :: l,0=>rfl
 | a :: l,i+1=>by
  have:=U4 id t l i;simpa[BF]using this
theorem yW{xs ys:List AV}(hl:xs.length=ys.length)(h:∀ i,i<xs.length->xs.getD i .any=ys.getD i .any):xs=ys:=by
 refine List.ext_getElem hl fun i h1 h2=>?_
 have:=h i h1;simpa[List.getD,h1,h2]using this
theorem y6.mv_eq{x:AV}{v:Value}(h:y6 F w x v)(id t:Nat):jP id t x=x:=by
 induction h with
 | agg hl _ ih=>simp only[jP];rw[yW (D7 _ _ _) fun i hi=>by rw[U4];exact ih i (by rwa[D7]at hi)]
 | tup hl _ ih=>simp only[jP];rw[yW (D7 _ _ _) fun i hi=>by rw[U4];exact ih i (by rwa[D7]at hi)]
 | fn hl _ hm _ ih ik =>
  simp only[jP];rw[yW (D7 id t _) fun i hi=>by rw[U4];exact ih i (by rwa[D7]at hi),yW (D7 id t _) fun i hi=>by rw[U4];exact ik i (by rwa[D7]at hi)]
 | _=>simp only[jP]
theorem C4.move{β':Nat->Option Hd}{id t:Nat}(ht:β t=none)(h1:β' t=β id)(h2:∀ j,j≠t->j≠id->β' j=β j){x:AV}{v:Value}(h:C4 β F w x v):C4 β' F w (jP id t x) v:=by
 have key:∀ {k:Nat} {hd:Hd},β k=some hd->β' (match Nat.beq k id with|true=>t|false=>k)=some hd:=fun {k hd} hk=>by
  cases hb:Nat.beq k id with
  | true=>have:=zA8 hb;subst this;exact h1.trans hk
  | false=>exact(h2 k (fun e=>by subst e;rw[ht]at hk;cases hk) (fun e=>by subst e;simp at hb)).trans hk
 induction h with
 | imm h=>rw[h.mv_eq];exact .imm h
 | ptr hb hh=>simp only[jP];exact .ptr (key hb) hh
 | own hb=>simp only[jP];exact .own (key hb)
 | mem hb hi=>simp only[jP];exact .mem (key hb) hi
 | mptr hb hh hi hk=>simp only[jP];exact .mptr (key hb) hh hi hk
 | agg hl _ ih=>simp only[jP];exact .agg (by rw[D7];exact hl) fun i hi=>by rw[U4];exact ih i (by rwa[D7]at hi)
 | tup hl _ ih=>simp only[jP];exact .tup (by rw[D7];exact hl) fun i hi=>by rw[U4];exact ih i (by rwa[D7]at hi)
 | fn hl _ hm _ ih ik =>
  simp only[jP];exact .fn (by rw[D7];exact hl) (fun i hi=>by rw[U4];exact ih i (by rwa[D7]at hi)) (by rw[D7];exact hm) fun i hi=>by rw[U4];exact ik i (by rwa[D7]at hi)
theorem y8.move{β':Nat->Option Hd}{id t:Nat}(ht:β t=none)(h1:β' t=β id)(h2:∀ j,j≠t->j≠id->β' j=β j){i i':Nat}(hi:β' i'=β i){r:Row}(h:y8 β F w i r):y8 β' F w i' (fC id t r):=by
 cases r with
 | none=>trivial
 | ctr l xs k e=>obtain⟨hd,e1,e2⟩:=h;exact⟨hd,hi.trans e1,e2⟩
 | cells ty cs =>
  obtain⟨hd,b,vs,e1,em,e2,e3,e4,e5⟩:=h;exact⟨hd,b,vs,hi.trans e1,em,e2,e3,by rw[D7];exact e4,fun i hi=>by rw[U4];exact(e5 i (by rwa[D7]at hi)).move ht h1 h2⟩
 | lit ty sz E5 =>
  obtain⟨hd,b,vs,e1,em,e2,e3,e4,e5,e6,e7,e8⟩:=h;have hg:∀ i,(E5.map (BF id t)).getD i []=BF id t (E5.getD i []):=by
   intro i;simp only[List.getD,List.getElem?_map];cases E5[i]? <;> simp[BF]
  exact⟨hd,b,vs,hi.trans e1,em,e2,e3,by simpa using e4,by simpa using e5,by simpa using e6,by simpa using e7,fun i k hi hk=>by
   rw[hg,U4];exact(e8 i k (by simpa using hi) hk).move ht h1 h2⟩
 | vec ty sz e enc l =>
  obtain⟨hd,e1,e2⟩:=h;exact⟨hd,hi.trans e1,e2⟩
 | nest ty sz j0 G7 d enc ys ho l =>
  obtain⟨hd,e1,e2⟩:=h;exact⟨hd,hi.trans e1,e2⟩
 | opq o =>
  obtain⟨hd,e1,e2⟩:=h;exact⟨hd,hi.trans e1,e2⟩
theorem sW{id t:Nat}{r:Row}(h:fC id t r ≠ .none):r ≠ .none:=by rintro rfl;exact h rfl
theorem sX(S:St)(id t j:Nat):(yV id t S).row j=if j=id then .none else if t=j/\j<S.h.length then fC id t (S.row id)else fC id t (S.row j):=by
 show(((S.h.map (fC id t)).set t (fC id t (S.row id))).set id .none).getD j .none=_
 have hm:(S.h.map (fC id t)).getD j .none=fC id t (S.row j):=by
  simp only[St.row,List.getD,List.getElem?_map];cases S.h[j]? <;> rfl
 rw[r7,r7,hm];simp only[List.length_set,List.length_map];by_cases e:j=id
 ·subst e;by_cases hl:j<S.h.length
  ·simp[hl]
  ·have e0:S.row j = .none:=by simp[St.row,List.getD,zA7 (Nat.le_of_not_lt hl)]
   simp[hl,e0,fC]
 ·rw[if_neg e,if_neg fun h=>e h.1.symm];by_cases e2:t=j
  ·subst e2;rfl
  ·rw[if_neg fun h=>e2 h.1,if_neg fun h=>e2 h.1]
theorem Rel.moved(hR:Rel B w0 F0 S β F a w){t id:Nat}{hd:Hd}(ht:β t=none)(DS:id≠t)(hβ:β id=some hd)(W0:F0.β id=none):∃ β',Rel B w0 F0 (yV id t S) β' F a w:=by
 let β':Nat->Option Hd:=fun j=>if j=t then some hd else if j=id then none else β j
 have b1:β' t=β id:=by simp[β',hβ]
 have b2:∀ j,j≠t->j≠id->β' j=β j:=fun j h1 h2=>by simp[β',h1,h2]
 have b3:β' id=none:=by simp[β',DS]
 have bl:∀ j b,x7 β' j b->(j=t/\Z1 (some hd) b)∨(j≠t/\j≠id/\x7 β j b):=fun j b h=>by
  by_cases e:j=t
  ·subst e;exact .inl ⟨rfl,by simpa[x7,b1,hβ]using h⟩
  ·by_cases e2:j=id
   ·subst e2;simp[x7,b3]at h
   ·exact .inr ⟨e,e2,by simpa[x7,b2 j e e2]using h⟩
 have LI:∀ {r},y8 β F w t r->r = .none:=fun {r} h=>by
  cases r with
  | none=>rfl
  | ctr l xs k e'=>obtain⟨_,e,_⟩:=h;rw[ht]at e;cases e
  | cells ty cs=>obtain⟨_,_,_,e,_⟩:=h;rw[ht]at e;cases e
  | lit ty sz E5=>obtain⟨_,_,_,e,_⟩:=h;rw[ht]at e;cases e
  | vec ty sz d enc l=>obtain⟨_,e,_⟩:=h;rw[ht]at e;cases e
  | nest ty sz j0 G7 d enc ys ho l=>obtain⟨_,e,_⟩:=h;rw[ht]at e;cases e
  | opq o=>obtain⟨_,e,_⟩:=h;rw[ht]at e;cases e
 have TR:S.row t = .none:=LI (hR.rows t);have lv:∀ j,(yV id t S).row j ≠ .none->(j=t/\S.row id ≠ .none)∨(j≠t/\j≠id/\S.row j ≠ .none):=fun j h=>by
  rw[sX]at h;split at h
  ·exact absurd rfl h
  ·rename_i hn;split at h
   ·rename_i hc;exact .inl ⟨hc.1.symm,sW h⟩
   ·by_cases e:j=t
    ·subst e;rw[TR]at h;exact absurd rfl h
    ·exact .inr ⟨e,hn,sW h⟩
 have PX:∀ j b,(yV id t S).row j ≠ .none->x7 β' j b->(j=t/\S.row id ≠ .none/\x7 β id b)∨(j≠t/\j≠id/\S.row j ≠ .none/\x7 β j b):=fun j b h1 h2=>by
  rcases bl j b h2 with ⟨e,h3⟩|⟨e1,e2,h3⟩
  ·refine .inl ⟨e,?_,by rw[x7,hβ];exact h3⟩;rcases lv j h1 with ⟨_,h⟩|⟨h,_⟩
   ·exact h
   ·exact absurd e h
  ·rcases lv j h1 with ⟨e,_⟩|⟨_,_,h⟩
   ·exact absurd e e1
   ·exact .inr ⟨e1,e2,h,h3⟩
 refine⟨β',{ len:=by simp only[yV,D7];exact hR.len,slots:=fun i hi=>?_,marks:=hR.marks,rows:=fun j=>?_,inj:=fun i j b hi hj B3 P6=>?_,bF:=fun i b hi B3=>?_,bB:=fun i b B3=>?_,FB:=hR.FB,below:=hR.below,BW:=hR.BW,top:=fun j hd' h=>?_,topn:=fun j hj=>hR.topn j (by simpa[yV,A3,D7]using hj),nn:=hR.nn,inc:=hR.inc,keep:=hR.keep,sol:=hR.sol,yl:=hR.ylOf (fun j=>if j=t then id else j) (fun j l xs k e h=>?_) (fun i j hi hj e=>?_) (fun i b hi hb=>by rcases PX i b hi hb with ⟨_,l1,k1⟩|⟨_,_,l1,k1⟩;exact⟨id,l1,k1⟩;exact⟨i,l1,k1⟩) (fun b hb => .inl hb) }⟩
 ·simp only[yV,D7]at hi;show C4 β' F w ((BF id t S.t).getD i .any) _
  rw[U4];exact(hR.slots i hi).move ht b1 b2
 ·rw[sX];split
  ·trivial
  ·rename_i hn;split
   ·rename_i hc;exact(hR.rows id).move ht b1 b2 (by rw[<- hc.1];exact b1)
   ·by_cases e:j=t
    ·subst e;rw[TR];trivial
    ·exact(hR.rows j).move ht b1 b2 (b2 j e hn)
 ·rcases PX i b hi B3 with ⟨e1,l1,k1⟩|⟨e1,e1',l1,k1⟩<;>rcases PX j b hj P6 with ⟨e2,l2,k2⟩|⟨e2,e2',l2,k2⟩
  ·rw[e1,e2]
  ·exact absurd (hR.inj id j b l1 l2 k1 k2).symm e2'
  ·exact absurd (hR.inj i id b l1 l2 k1 k2) e1'
  ·exact hR.inj i j b l1 l2 k1 k2
 ·rcases PX i b hi B3 with ⟨_,l1,k1⟩|⟨_,_,l1,k1⟩
  ·exact hR.bF id b l1 k1
  ·exact hR.bF i b l1 k1
 ·rcases bl i b B3 with ⟨_,h⟩|⟨_,_,h⟩
  ·exact hR.bB id b (by rw[x7,hβ];exact h)
  ·exact hR.bB i b h
 ·have:=hR.top j hd' h;exact(b2 j (fun e=>by subst e;rw[ht]at this;cases this) (fun e=>by subst e;rw[W0]at h;cases h)).trans this
 ·have inv:∀ {r},fC id t r = .ctr l xs k e->r = .ctr l xs k e:=fun {r} h=>by cases r<;>simp[fC]at h;simp[h]
  rw[sX]at h;split at h
  ·cases h
  ·split at h
   ·rename_i hc;rw[if_pos hc.1.symm];exact inv h
   ·by_cases e':j=t
    ·subst e'; rw[TR]at h;simp[fC]at h
    ·rw[if_neg e'];exact inv h
 ·by_cases e1:i=t
  ·by_cases e2:j=t
   ·rw[e1,e2]
   ·rw[if_pos e1,if_neg e2]at e;rcases lv j hj with ⟨h,_⟩|⟨_,h,_⟩
    ·exact absurd h e2
    ·exact absurd e.symm h
  ·by_cases e2:j=t
   ·rw[if_neg e1,if_pos e2]at e;rcases lv i hi with ⟨h,_⟩|⟨_,h,_⟩
    ·exact absurd h e1
    ·exact absurd e h
   ·rw[if_neg e1,if_neg e2]at e;exact e
theorem Rel.nilBox(hR:Rel B w0 F0 S β F a w){t b c:Nat}{ty:TypeId}{cs:List AV}(ht:β t=none)(LJ:b≠t)(hb:S.row b = .cells ty cs)(hs:cs.getD c .any = .nils)(V:VT):∃ β',Rel B w0 F0 ⟨S.t,(S.h.set t (.vec V.ty V.sz V.d V.enc [])).set b (.cells ty (cs.set c (.own t))),S.n⟩ β' F a w:=by
 let β':Nat->Option Hd:=fun j=>if j=t then some ⟨none,0,0,jr⟩else β j
 have b1:β' t=some ⟨none,0,0,jr⟩:=by simp[β']
 have b2:∀ j,j≠t->β' j=β j:=fun j h1=>by simp[β',h1]
 have b3:∀ j,β j≠none->β' j=β j:=fun j hj=>b2 j fun e=>hj (e ▸ ht)
 have bl:∀ j b,x7 β' j b->j≠t/\x7 β j b:=fun j b h=>by
  by_cases e:j=t
  ·subst e;simp[x7,b1]at h
  ·exact⟨e,by simpa[x7,b2 j e]using h⟩
 have lb:b<S.h.length:=fQ (by rw[hb];simp);have row:∀ j,((S.h.set t (.vec V.ty V.sz V.d V.enc [])).set b (.cells ty (cs.set c (.own t)))).getD j .none=if b=j then .cells ty (cs.set c (.own t))else if t=j/\j<S.h.length then .vec V.ty V.sz V.d V.enc []else S.row j:=fun j=>by
  rw[r7,r7];simp only[List.length_set];by_cases e:b=j
  ·subst e;simp[lb]
  ·simp only[e,false_and,if_false];by_cases e2:t=j
   ·subst e2;rfl
   ·simp only[e2,false_and,if_false];rfl
 have lv:∀ j,j≠t->((S.h.set t (.vec V.ty V.sz V.d V.enc [])).set b (.cells ty (cs.set c (.own t)))).getD j .none ≠ .none->S.row j ≠ .none:=fun j hj h=>by
  rw[row]at h;split at h
  ·rename_i e;subst e;rw[hb];simp
  ·rw[if_neg fun h=>hj h.1.symm]at h;exact h
 refine⟨β',{ len:=hR.len,slots:=fun i hi=>(hR.slots i hi).grow b3 (fun _ h=>h) (C5.refl _ _),marks:=hR.marks,rows:=fun j=>?_,inj:=fun i j b' hi hj B3 P6=>?_,bF:=fun i b' hi B3=>?_,bB:=fun i b' B3=>hR.bB i b' (bl i b' B3).2,FB:=hR.FB,below:=hR.below,BW:=hR.BW,top:=fun j hd h=>(b3 j (by rw[hR.top j hd h];simp)).trans (hR.top j hd h),topn:=fun j hj=>hR.topn j (by simpa[A3]using hj),nn:=hR.nn,inc:=hR.inc,keep:=hR.keep,sol:=hR.sol,yl:=hR.ylOf (fun i=>i) (fun j l xs k e h=>?_) (fun _ _ _ _ h=>h) (fun i b' hi oV=>by obtain⟨e1,k1⟩:=bl i b' oV; exact⟨i,lv i e1 hi,k1⟩) (fun b hb => .inl hb) }⟩
 ·show y8 β' F w j (List.getD _ j .none)
  rw[row];split
  ·rename_i e;subst e;have:=hR.rows b;rw[hb]at this;obtain⟨hd,bb,vs,e1,em,e2,e3,e4,e5⟩:=this;refine⟨hd,bb,vs,(b3 b (by rw[e1];simp)).trans e1,em,e2,e3,by simpa using e4,fun i hi=>?_⟩;simp only[List.length_set]at hi;rw[T0];split
   ·rename_i hc;have h5:=e5 i hi;rw[<- hc.1,hs]at h5;rw[<- hc.1,h5.nils_inv];have:=C4.own (F:=F) (w:=w) b1;simpa using this
   ·exact(e5 i hi).grow b3 (fun _ h=>h) (C5.refl _ _)
  ·split
   ·rename_i hc;rw[<- hc.1];exact⟨_,b1,rfl,rfl,.inl ⟨rfl,rfl,rfl⟩⟩
   ·exact(hR.rows j).grow b3 (fun _ h=>h) (C5.refl _ _) (fun _ _=>rfl)
 ·obtain⟨e1,k1⟩:=bl i b' B3;obtain⟨e2,k2⟩:=bl j b' P6;exact hR.inj i j b' (lv i e1 hi) (lv j e2 hj) k1 k2
 ·obtain⟨e1,k1⟩:=bl i b' B3;exact hR.bF i b' (lv i e1 hi) k1
 ·have h:((S.h.set t (.vec V.ty V.sz V.d V.enc [])).set b (.cells ty (cs.set c (.own t)))).getD j .none = .ctr l xs k e:=h;rw[row]at h;split at h
  ·cases h
  ·split at h
   ·cases h
   ·exact h
theorem Rel.canonB(hR:Rel B w0 F0 S β F a w)(t b c:Nat)(V:VT):∃ β',Rel B w0 F0 (Ev.canonB t b c V S) β' F a w:=by
 unfold Ev.canonB;split
 ·exact⟨β,hR⟩
 rename_i hk;simp only[zA2,Bool.not_eq_true']at hk;have LJ:b≠t:=fun e=>by have:=hk.2;rw[e]at this;simp at this
 split
 case h_2=>exact⟨β,hR⟩
 rename_i ty cs A1;have hkr:(S.kill t).row b=C1 t (S.row b):=by rw[gN,if_neg LJ]
 obtain⟨β1,h1,h2,iF⟩:=hR.kill t (hR.topn t hk.1);split
 ·rename_i id hs;split
  ·exact⟨β,hR⟩
  rename_i hb;have V8:id≠t:=fun e=>by rw[e]at hb;simp at hb
  split
  ·exact⟨β,hR⟩
  rename_i z8;simp only[zA2]at z8;have hrb:=iF.rows b;rw[hkr,A1]at hrb;obtain⟨hd,bb,vs,e1,em,e2,e3,e4,e5⟩:=hrb;have hc:c<cs.length:=by
   rcases Nat.lt_or_ge c cs.length with h|h
   ·exact h
   ·simp[List.getD,zA7 h]at hs
  have h5:=e5 c (by simpa using hc);rw[u0 _ (M6 t),hs]at h5;have hkv:G1 t (.own id) = .own id:=by
   show(match Nat.beq id t with|true=>AV.any|false=>AV.own id)=AV.own id
   rw[hb]
  rw[hkv]at h5;obtain⟨hd',g1,_⟩:=h5.own_inv;exact iF.moved h1 V8 g1 (hR.topn id z8.1)
 ·rename_i hs;split
  ·rename_i G7 Xg lL;refine iF.nilBox h1 LJ lL ?_ V;rw[hkr,A1]at lL;simp only[C1,Row.cells.injEq]at lL;rw[<- lL.2,u0 _ (M6 t),hs];rfl
  ·exact⟨β,hR⟩
 ·exact⟨β,hR⟩
theorem Rel.canonS(hR:Rel B w0 F0 S β F a w)(t:Nat)(V:VT):∃ β',Rel B w0 F0 (Ev.canonS t V S) β' F a w:=by
 unfold Ev.canonS;split
 ·rename_i id hs;split
  ·exact⟨β,hR⟩
  ·rename_i hb;have V8:id≠t:=fun e=>by rw[e]at hb;simp at hb
   split
   ·exact⟨β,hR⟩
   ·rename_i z8;simp only[zA2]at z8;obtain⟨β1,h1,h2,iF⟩:=hR.kill t (hR.topn t z8.2);have Le:(S.kill t).t.getD t .any = .own id:=by
     simp only[St.kill];rw[u0 _ (M6 t),hs];show(match Nat.beq id t with|true=>AV.any|false=>AV.own id)=AV.own id
     rw[hb]
    exact iF.rename h1 V8 Le (hR.topn id z8.1)
 ·rename_i hs;split
  ·exact⟨β,hR⟩
  ·rename_i z8;obtain⟨β1,h1,h2,iF⟩:=hR.kill t (hR.topn t z8);have Le:(S.kill t).t.getD t .any = .nils:=by
    simp only[St.kill];rw[u0 _ (M6 t),hs];rfl
   exact iF.nilVec h1 Le V
 ·exact⟨β,hR⟩
theorem Rel.canon1(hR:Rel B w0 F0 S β F a w)(t:Nat)(V:VT):∃ β',Rel B w0 F0 (Ev.canon1 t V S) β' F a w:=by
 unfold Ev.canon1;split
 ·exact hR.canonS t V
 ·exact hR.canonB _ _ _ V
theorem Rel.canonV:∀ (l:List (Nat×VT)) {S:St} {β:Nat->Option Hd},Rel B w0 F0 S β F a w->∃ β',Rel B w0 F0 (Ev.canonV l S) β' F a w
 | [],S,β,hR=>⟨β,hR⟩
 | (t,V) :: l,S,β,hR=>by
  obtain⟨β1,iF⟩:=hR.canon1 t V;exact Rel.canonV l iF
end
/- Calls that write: rows that are handed over and handed back. A helper text: it speaks of no program. -/
mutual
def AV.ren(ids:List Nat):AV->AV
 | .ptr k sz i off => .ptr (ids.getD k 0) sz i off
 | .own k => .own (ids.getD k 0)
 | .agg l => .agg (au ids l)
 | .tup l => .tup (au ids l)
 | .fn f a b => .fn f (au ids a) (au ids b)
 | x=>x
def au(ids:List Nat):List AV->List AV
 | []=>[]
 | a :: l=>a.ren ids :: au ids l
end
def A0(ids:List Nat):Row->Row
 | .cells ty cs => .cells ty (au ids cs)
 | .lit ty sz E5 => .lit ty sz (E5.map (au ids))
 | r=>r
mutual
def AV.under(n:Nat):AV->Bool
 | .ptr k _ _ _=>Nat.blt k n
 | .own k=>Nat.blt k n
 | .mem _ _=>false
 | .mptr _ _ _=>false
 | .agg l=>av n l
 | .tup l=>av n l
 | .fn _ a b=>av n a && av n b
 | _=>true
def av(n:Nat):List AV->Bool
 | []=>true
 | a :: l=>a.under n && av n l
end
def D9(n:Nat):Row->Bool
 | .cells _ cs=>av n cs
 | .lit _ _ E5=>E5.all (av n)
 | .ctr _ _ _ _=>false
 | _=>true
theorem u9(ids:List Nat):∀ l,(au ids l).length=l.length
 | []=>rfl
 | a :: l=>by simp[au,u9 ids l]
theorem E4(ids:List Nat):∀ l i,(au ids l).getD i .any=(l.getD i .any).ren ids
 | [],i=>by simp[au,AV.ren]
 | a :: l,0=>rfl
 | a :: l,i+1=>by
  have:=E4 ids l i;simpa[au]using this
theorem F6{n:Nat}:∀ {l:List AV},av n l=true->∀ i,(l.getD i .any).under n=true
 | [],_,i=>by simp[AV.under]
 | a :: l,h,0=>by simp[av]at h;exact h.1
 | a :: l,h,i+1=>by
  simp[av]at h;have:=F6 h.2 i;simpa using this
section
variable {F:Nat->Prop}{w:World}
theorem nv{xs ys:List AV}(hl:xs.length=ys.length)(h:∀ i,i<xs.length->xs.getD i .any=ys.getD i .any):xs=ys:=by
 refine List.ext_getElem hl fun i h1 h2=>?_
 have:=h i h1;simpa[List.getD,h1,h2]using this
theorem y6.ren_eq{x:AV}{v:Value}(h:y6 F w x v)(ids:List Nat):x.ren ids=x:=by
 induction h with
 | agg hl _ ih=>simp only[AV.ren];rw[nv (u9 _ _) fun i hi=>by rw[E4];exact ih i (by rwa[u9]at hi)]
 | tup hl _ ih=>simp only[AV.ren];rw[nv (u9 _ _) fun i hi=>by rw[E4];exact ih i (by rwa[u9]at hi)]
 | fn hl _ hm _ ih ik =>
  simp only[AV.ren];rw[nv (u9 ids _) fun i hi=>by rw[E4];exact ih i (by rwa[u9]at hi),nv (u9 ids _) fun i hi=>by rw[E4];exact ik i (by rwa[u9]at hi)]
 | _=>rfl
theorem C4.unren{β β':Nat->Option Hd}{ids:List Nat}{n:Nat}(hβ:∀ k,k<n->β' k=β (ids.getD k 0)){y:AV}{v:Value}(h:C4 β F w y v):∀ {x:AV},x.under n=true->x.ren ids=y->C4 β' F w x v:=by
 have imm:∀ {y v},y6 F w y v->∀ {x:AV},x.ren ids=y->y6 F w x v:=by
  intro y v h
  induction h with
  | agg hl _ ih =>
   intro x hx;cases x<;>simp only[AV.ren,reduceCtorEq,AV.agg.injEq]at hx
   subst hx;rw[u9]at hl ih;exact .agg hl fun i hi=>ih i hi (by rw[E4])
  | tup hl _ ih =>
   intro x hx;cases x<;>simp only[AV.ren,reduceCtorEq,AV.tup.injEq]at hx
   subst hx;rw[u9]at hl ih;exact .tup hl fun i hi=>ih i hi (by rw[E4])
  | fn hl _ hm _ ih ik =>
   intro x hx;cases x<;>simp only[AV.ren,reduceCtorEq,AV.fn.injEq]at hx
   obtain⟨e0,e1,e2⟩:=hx;subst e0;subst e1;subst e2;rw[u9]at hl hm ih ik;exact .fn hl (fun i hi=>ih i hi (by rw[E4])) hm (fun i hi=>ik i hi (by rw[E4]))
  | any v=>intro x hx;cases x<;>simp only[AV.ren,reduceCtorEq]at hx;exact .any _
  | tt=>intro x hx;cases x<;>simp only[AV.ren,reduceCtorEq]at hx;exact .tt
  | ff=>intro x hx;cases x<;>simp only[AV.ren,reduceCtorEq]at hx;exact .ff
  | bool b=>intro x hx;cases x<;>simp only[AV.ren,reduceCtorEq]at hx;rw[hx];exact .bool b
  | int k m=>intro x hx;cases x<;>simp only[AV.ren,reduceCtorEq]at hx;rw[hx];exact .int k m
  | str s=>intro x hx;cases x<;>simp only[AV.ren,reduceCtorEq]at hx;rw[hx];exact .str s
  | mapv c=>intro x hx;cases x<;>simp only[AV.ren,reduceCtorEq]at hx;rw[hx];exact .mapv c
  | nilp=>intro x hx;cases x<;>simp only[AV.ren,reduceCtorEq]at hx;exact .nilp
  | nils=>intro x hx;cases x<;>simp only[AV.ren,reduceCtorEq]at hx;exact .nils
  | nilf=>intro x hx;cases x<;>simp only[AV.ren,reduceCtorEq]at hx;exact .nilf
  | slnil=>intro x hx;cases x<;>simp only[AV.ren,reduceCtorEq]at hx;rw[hx];exact .slnil
  | sl g hc hb h _=>intro x hx;cases x<;>simp only[AV.ren,reduceCtorEq]at hx;rw[hx];exact .sl g hc hb h
  | sfnil=>intro x hx;cases x<;>simp only[AV.ren,reduceCtorEq]at hx;rw[hx];exact .sfnil
  | sf g hb h _=>intro x hx;cases x<;>simp only[AV.ren,reduceCtorEq]at hx;rw[hx];exact .sf g hb h
  | slcnil=>intro x hx;cases x<;>simp only[AV.ren,reduceCtorEq]at hx;rw[hx];exact .slcnil
  | slc g hc hb h _=>intro x hx;cases x<;>simp only[AV.ren,reduceCtorEq]at hx;rw[hx];exact .slc g hc hb h
  | pt g hb h _=>intro x hx;cases x<;>simp only[AV.ren,reduceCtorEq]at hx;rw[hx];exact .pt g hb h
 induction h with
 | imm h=>intro x _ hx;exact .imm (imm h hx)
 | @ptr id sz i off b hd hb hh =>
  intro x hu hx;cases x<;>simp only[AV.ren,reduceCtorEq,AV.ptr.injEq]at hx
  obtain⟨rfl,rfl,rfl,rfl⟩:=hx;simp only[AV.under,Nat.blt_eq]at hu;exact .ptr ((hβ _ hu).trans hb) hh
 | @own id hd hb =>
  intro x hu hx;cases x<;>simp only[AV.ren,reduceCtorEq,AV.own.injEq]at hx
  subst hx;simp only[AV.under,Nat.blt_eq]at hu;exact .own ((hβ _ hu).trans hb)
 | mem hb hi =>
  intro x hu hx;cases x<;>simp only[AV.ren,reduceCtorEq]at hx
  cases hu
 | mptr hb hh hi hk =>
  intro x hu hx;cases x<;>simp only[AV.ren,reduceCtorEq]at hx
  cases hu
 | agg hl _ ih =>
  intro x hu hx;cases x<;>simp only[AV.ren,reduceCtorEq,AV.agg.injEq]at hx
  subst hx;rw[u9]at hl ih;simp only[AV.under]at hu;exact .agg hl fun i hi=>ih i hi (F6 hu i) (by rw[E4])
 | tup hl _ ih =>
  intro x hu hx;cases x<;>simp only[AV.ren,reduceCtorEq,AV.tup.injEq]at hx
  subst hx;rw[u9]at hl ih;simp only[AV.under]at hu;exact .tup hl fun i hi=>ih i hi (F6 hu i) (by rw[E4])
 | fn hl _ hm _ ih ik =>
  intro x hu hx;cases x<;>simp only[AV.ren,reduceCtorEq,AV.fn.injEq]at hx
  obtain⟨e0,e1,e2⟩:=hx;subst e0;subst e1;subst e2;rw[u9]at hl hm ih ik;simp only[AV.under,zA2]at hu;exact .fn hl (fun i hi=>ih i hi (F6 hu.1 i) (by rw[E4])) hm (fun i hi=>ik i hi (F6 hu.2 i) (by rw[E4]))
theorem C4.ren{β β':Nat->Option Hd}{ids:List Nat}{n:Nat}(hβ:∀ k,k<n->∀ hd,β k=some hd->β' (ids.getD k 0)=some hd){x:AV}{v:Value}(h:C4 β F w x v):x.under n=true->C4 β' F w (x.ren ids) v:=by
 induction h with
 | imm h=>intro _;rw[h.ren_eq];exact .imm h
 | ptr hb hh=>intro hu;simp only[AV.under,Nat.blt_eq]at hu;exact .ptr (hβ _ hu _ hb) hh
 | own hb=>intro hu;simp only[AV.under,Nat.blt_eq]at hu;exact .own (hβ _ hu _ hb)
 | mem=>intro hu;cases hu
 | mptr=>intro hu;cases hu
 | agg hl _ ih=>intro hu;simp only[AV.under]at hu;exact .agg (by rw[u9];exact hl) fun i hi=>by rw[E4];exact ih i (by rwa[u9]at hi) (F6 hu i)
 | tup hl _ ih=>intro hu;simp only[AV.under]at hu;exact .tup (by rw[u9];exact hl) fun i hi=>by rw[E4];exact ih i (by rwa[u9]at hi) (F6 hu i)
 | fn hl _ hm _ ih ik =>
  intro hu;simp only[AV.under,zA2]at hu;exact .fn (by rw[u9];exact hl) (fun i hi=>by rw[E4];exact ih i (by rwa[u9]at hi) (F6 hu.1 i)) (by rw[u9];exact hm) (fun i hi=>by rw[E4];exact ik i (by rwa[u9]at hi) (F6 hu.2 i))
theorem ny(ids:List Nat)(E5:List (List AV))(i:Nat):(E5.map (au ids)).getD i []=au ids (E5.getD i []):=by
 simp only[List.getD,List.getElem?_map];cases E5[i]? <;> rfl
theorem iH{β β':Nat->Option Hd}{ids:List Nat}{n k:Nat}(hβ:∀ k,k<n->β' k=β (ids.getD k 0))(hk:k<n){r:Row}(hu:D9 n r=true)(h:y8 β F w (ids.getD k 0) (A0 ids r)):y8 β' F w k r:=by
 cases r with
 | none=>trivial
 | ctr l xs k e=>simp[D9]at hu
 | cells ty cs =>
  obtain⟨hd,b,vs,e1,em,e2,e3,e4,e5⟩:=h;rw[u9]at e4 e5;refine⟨hd,b,vs,(hβ k hk).trans e1,em,e2,e3,e4,fun i hi=>(e5 i hi).unren hβ (F6 hu i) (by rw[E4])⟩
 | lit ty sz E5 =>
  obtain⟨hd,b,vs,e1,em,e2,e3,e4,e5,e6,e7,e8⟩:=h;rw[List.length_map]at e4 e5 e6 e7 e8;refine⟨hd,b,vs,(hβ k hk).trans e1,em,e2,e3,e4,e5,e6,e7,fun i j hi hj=>(e8 i j hi hj).unren hβ (F6 ?_ j) (by rw[ny,E4])⟩;have hm:E5.getD i [] ∈ E5:=by simp[List.getD,hi]
  exact List.all_eq_true.1 hu _ hm
 | vec ty sz d enc l =>
  obtain⟨hd,e1,e2⟩:=h;exact⟨hd,(hβ k hk).trans e1,e2⟩
 | nest ty sz j0 G7 d enc ys ho l =>
  obtain⟨hd,e1,e2⟩:=h;exact⟨hd,(hβ k hk).trans e1,e2⟩
 | opq o =>
  obtain⟨hd,e1,e2⟩:=h;exact⟨hd,(hβ k hk).trans e1,e2⟩
theorem mg{β β':Nat->Option Hd}{ids:List Nat}{n k:Nat}(hβ:∀ k,k<n->∀ hd,β k=some hd->β' (ids.getD k 0)=some hd)(hk:k<n){r:Row}(h:y8 β F w k r)(hu:D9 n r=true):y8 β' F w (ids.getD k 0) (A0 ids r):=by
 cases r with
 | none=>trivial
 | ctr l xs k e=>simp[D9]at hu
 | cells ty cs =>
  obtain⟨hd,b,vs,e1,em,e2,e3,e4,e5⟩:=h;exact⟨hd,b,vs,hβ _ hk _ e1,em,e2,e3,by rw[u9];exact e4,fun i hi=>by rw[E4];exact(e5 i (by rwa[u9]at hi)).ren hβ (F6 hu i)⟩
 | lit ty sz E5 =>
  obtain⟨hd,b,vs,e1,em,e2,e3,e4,e5,e6,e7,e8⟩:=h;refine⟨hd,b,vs,hβ _ hk _ e1,em,e2,e3,by rw[List.length_map];exact e4,by rw[List.length_map];exact e5,by rw[List.length_map];exact e6,by rw[List.length_map];exact e7,fun i j hi hj=>?_⟩;rw[ny,E4];rw[List.length_map]at hi;have hm:E5.getD i [] ∈ E5:=by simp[List.getD,hi]
  exact(e8 i j hi hj).ren hβ (F6 (List.all_eq_true.1 hu _ hm) j)
 | vec ty sz d enc l =>
  obtain⟨hd,e1,e2⟩:=h;exact⟨hd,hβ _ hk _ e1,e2⟩
 | nest ty sz j0 G7 d enc ys ho l =>
  obtain⟨hd,e1,e2⟩:=h;exact⟨hd,hβ _ hk _ e1,e2⟩
 | opq o =>
  obtain⟨hd,e1,e2⟩:=h;exact⟨hd,hβ _ hk _ e1,e2⟩
end
theorem O9{ids:List Nat}{r:Row}:A0 ids r = .none↔r = .none:=by cases r<;>simp[A0]
structure BG (β:Nat->Option Hd) (F:Nat->Prop) (w:World) (rs:List Row):Prop where
 rows:∀ k,y8 β F w k (rs.getD k .none)
 inj:∀ i j b,rs.getD i .none ≠ .none->rs.getD j .none ≠ .none->x7 β i b->x7 β j b->i=j
 bF:∀ i b,rs.getD i .none ≠ .none->x7 β i b->¬ F b
 bB:∀ i b,x7 β i b->b<w.heap.size
 dead:∀ i,rs.getD i .none = .none->β i=none
def jE(β:Nat->Option Hd)(b:Nat):Prop:=∃ k,x7 β k b
def PW(P:Program)(f:FuncId)(args:List AV)(ins:List Row)(res:AV)(o9:List Row):Prop :=
 ∀ (F:Nat->Prop) (w:World) (vs:Array Value) (β:Nat->Option Hd),(∀ b,F b->b<w.heap.size)->vs.size=args.length->(∀ i,i<args.length->C4 β F w (args.getD i .any) (vs.getD i undef))->BG β F w ins ->
  (callFunc f vs).run P w = .ok (.enter f vs) w/\Calls P f vs w fun e w'=>∃ v β' F',e = .returned v/\H3 (fun b=>w.heap.size<=b∨jE β b) w w'/\(∀ k hd,β k=some hd->β' k=some hd)/\(∀ b,F b->F' b) /\
   (∀ b,F' b->b<w'.heap.size/\(F b∨w.heap.size<=b∨jE β b))/\C4 β' F' w' res v/\(∀ k,y8 β' F' w' k (o9.getD k .none)) /\
   (∀ i j b,o9.getD i .none ≠ .none->o9.getD j .none ≠ .none->x7 β' i b->x7 β' j b->i=j)/\(∀ i b,o9.getD i .none ≠ .none->x7 β' i b->¬ F' b) /\
   (∀ i b,x7 β' i b->b<w'.heap.size/\(w.heap.size<=b∨jE β b))
section
variable {P:Program}{B:Nat->Prop}{w0:World}{F0:Env P}{S:St}{β:Nat->Option Hd}{F:Nat->Prop}{a:Act}{w:World}
theorem gO(h:List Row):∀ (ids:List Nat) (rs:List Row),ids.Nodup->ids.length=rs.length->∀ j,
  (∃ k,k<ids.length/\ids.getD k 0=j/\(r8 h (ids.zip rs)).getD j .none=if j<h.length then rs.getD k .none else .none)∨(j ∉ ids/\(r8 h (ids.zip rs)).getD j .none=h.getD j .none)
 | [],[],_,_,j => .inr ⟨by simp,rfl⟩
 | i :: ids,r :: rs,hn,hl,j=>by
  obtain⟨hn1,vM⟩:=List.nodup_cons.1 hn;simp only[List.zip_cons_cons,r8];rcases gO (h.set i r) ids rs vM (by simpa using hl) j with ⟨k,h1,h2,h3⟩|⟨h1,h2⟩
  ·exact .inl ⟨k+1,by simpa using h1,by simpa using h2,by rw[h3,List.length_set];simp⟩
  ·by_cases e:j=i
   ·subst e;refine .inl ⟨0,by simp,by simp,?_⟩;rw[h2,r7];by_cases z8:j<h.length
    ·simp[z8]
    ·simp[z8,zA7 (Nat.le_of_not_lt z8)]
   ·refine .inr ⟨by simp[e,h1],?_⟩;rw[h2,r7,if_neg fun hc=>e hc.1.symm]
theorem Rel.calledW(hR:Rel B w0 F0 S β F a w){ids news:List Nat}(hn:(ids++news).Nodup)(B1:∀ d ∈ news,β d=none){w':World}{βi β':Nat->Option Hd}{F':Nat->Prop}{o9:List Row}{res:AV}{v:Value}{dst:Option Nat}
  (Il:∀ k,k<ids.length->βi k=β (ids.getD k 0)/\S.row (ids.getD k 0) ≠ .none) (Xl:∀ k,ids.length<=k->βi k=none)
  (V9:H3 (fun b=>w.heap.size<=b∨jE βi b) w w') (mb:∀ k hd,βi k=some hd->β' k=some hd) (hF:∀ b,F b->F' b) (En:∀ b,F' b->b<w'.heap.size/\(F b∨w.heap.size<=b∨jE βi b))
  (TS:C4 β' F' w' res v) (a0i:res.under (ids++news).length=true) (jH:∀ k,y8 β' F' w' k (o9.getD k .none)) (Ta:∀ k,D9 (ids++news).length (o9.getD k .none)=true) (hol:o9.length=(ids++news).length)
  (js:∀ i j b,o9.getD i .none ≠ .none->o9.getD j .none ≠ .none->x7 β' i b->x7 β' j b->i=j) (WO:∀ i b,o9.getD i .none ≠ .none->x7 β' i b->¬ F' b)
  (AZ:∀ i b,x7 β' i b->b<w'.heap.size/\(w.heap.size<=b∨jE βi b)) :
  ∃ β'' Im,Rel B w0 F0 (S.put dst ⟨res.ren (ids++news),(ids++news).zip (o9.map (A0 (ids++news)))⟩) β'' Im (a.put dst v) w'/\∀ j,(j ∉ ids++news∨β j≠none)->β'' j=β j:=by
 classical
 generalize sH:ids++news=all at *
 let β'':Nat->Option Hd:=fun j=>if β j=none then(if h:∃ k,k<all.length/\all.getD k 0=j then β' (Classical.choose h)else none)else β j
 have uniq:∀ k k',k<all.length->k' < all.length->all.getD k 0=all.getD k' 0->k=k':=fun k k' h h' e=>by
  have e':all[k]=all[k']:=by simpa[List.getD,h,h']using e
  have hp:=List.pairwise_iff_getElem.1 hn;rcases Nat.lt_trichotomy k k' with z8|rfl|sJ
  ·exact absurd e' (hp k k' h h' z8)
  ·rfl
  ·exact absurd e'.symm (hp k' k h' h sJ)
 have f1:∀ j,β j≠none->β'' j=β j:=fun j hj=>by simp[β'',hj]
 have f0:∀ k,k<all.length->β (all.getD k 0)=none->β'' (all.getD k 0)=β' k:=fun k hk h0=>by
  have hex:∃ k',k' < all.length/\all.getD k' 0=all.getD k 0:=⟨k,hk,rfl⟩
  simp only[β'',h0,if_true,dif_pos hex];exact congrArg β' (uniq _ _ (Classical.choose_spec hex).1 hk (Classical.choose_spec hex).2)
 have idk:∀ k,k<ids.length->all.getD k 0=ids.getD k 0:=fun k hk=>by rw[<- sH];simp[List.getD,List.getElem?_append,hk]
 have live:∀ k,k<ids.length->∃ hd,β (ids.getD k 0)=some hd/\β' k=some hd:=fun k hk=>by
  obtain⟨hd,h⟩:=(hR.rows (ids.getD k 0)).some (Il k hk).2;exact⟨hd,h,mb k hd ((Il k hk).1.trans h)⟩
 have f2:∀ k,k<all.length->∀ hd,β' k=some hd->β'' (all.getD k 0)=some hd:=fun k hk hd h=>by
  by_cases Lf:k<ids.length
  ·obtain⟨hd',h1,h2⟩:=live k Lf;rw[idk k Lf,f1 _ (by rw[h1];simp),h1,<- h2,h]
  ·rw[f0 k hk,h];refine B1 _ ?_;rw[<- sH];have:k-ids.length<news.length:=by rw[<- sH]at hk;simp at hk;omega
   simp[List.getD,List.getElem?_append,Lf,this]
 have TT:∀ b,jE βi b->∃ k,k<ids.length/\x7 β (ids.getD k 0) b:=fun b ⟨k,h⟩=>by
  by_cases Lf:k<ids.length
  ·exact⟨k,Lf,by have:=(Il k Lf).1;simpa[x7,this]using h⟩
  ·have:=Xl k (Nat.le_of_not_lt Lf);simp[x7,this]at h
 have TU:∀ k,k<ids.length->ids.getD k 0 ∈ all:=fun k hk=>by rw[<- sH];simp[List.getD,hk]
 have PY:∀ j b,j ∉ all->S.row j ≠ .none->x7 β j b->¬ jE βi b:=fun j b hj hl hb hx=>by
  obtain⟨k,hk,Eo⟩:=TT b hx;exact hj (hR.inj j _ b hl (Il k hk).2 hb Eo ▸ TU k hk)
 have hk:C5 F w w':=fun b o u Xm hc=>by
  have hb:=V9.block b (by
   rintro(h|h)
   ·have:=(hR.FB b Xm).1;omega
   ·obtain⟨k,hk,Eo⟩:=TT b h
    exact hR.bF _ b (Il k hk).2 Eo Xm)
  rw[World.cell?_of_block (w:=w) hb];exact hc
 have hg:∀ k,(o9.map (A0 all)).getD k .none=A0 all (o9.getD k .none):=fun k=>by
  simp only[List.getD,List.getElem?_map];cases o9[k]? <;> rfl
 have hz:=gO S.h all (o9.map (A0 all)) hn (by rw[List.length_map,hol]);have same:∀ j b,j ∉ all->S.row j ≠ .none->x7 β j b->w'.heap[b]? = w.heap[b]? := fun j b hj hl hb=>V9.block b (by
  rintro(h|h)
  ·have:=(hR.bB j b hb).2;omega
  ·exact PY j b hj hl hb h)
 -- the rows that live behind the call
 have lv:∀ i b,(r8 S.h (all.zip (o9.map (A0 all)))).getD i .none ≠ .none->x7 β'' i b ->
   (∃ k,k<all.length/\all.getD k 0=i/\o9.getD k .none ≠ .none/\x7 β' k b)∨(i ∉ all/\S.row i ≠ .none/\x7 β i b):=fun i b hi hb=>by
  rcases hz i with ⟨k,h1,h2,h3⟩|⟨h1,h2⟩
  ·rw[h3]at hi;split at hi
   ·rw[hg]at hi;have ho:o9.getD k .none ≠ .none:=fun e=>hi (by rw[e];rfl)
    obtain⟨hd,wZ⟩:=(jH k).some ho;refine .inl ⟨k,h1,h2,ho,?_⟩;have:=f2 k h1 hd wZ;rw[h2]at this;simp only[x7,this]at hb;simpa[x7,wZ]using hb
   ·exact absurd rfl hi
  ·rw[h2]at hi;obtain⟨hd,wZ⟩:=(hR.rows i).some hi;refine .inr ⟨h1,hi,?_⟩;have:=f1 i (by rw[wZ];simp);simpa[x7,this]using hb
 have ju:∀ j,(j ∉ all∨β j≠none)->β'' j=β j:=fun j hj=>by
  by_cases h0:β j=none
  ·have hj:j ∉ all:=hj.resolve_right fun h=>h h0
   have:¬ ∃ k,k<all.length/\all.getD k 0=j:=fun⟨k,hk,e⟩=>hj (by rw[<- e];simp[List.getD,hk])
   simp only[β'',h0,if_true,dif_neg this]
  ·exact f1 j h0
 refine⟨β'',F',hR.step f1 hF (fun b hb=>?_) hk ⟨V9.os,V9.tape,V9.output⟩ V9.size (TS.ren f2 a0i) (fun j=>?_) (fun i j b hi hj B3 P6=>?_) (fun i b hi B3=>?_) (fun i b B3=>?_) (fun b hb hn=>V9.block b ?_) (fun i b hi B3=>?_) (fun b hb=>?_) (fun id l xs k e h=>?_),ju⟩
 ·obtain⟨h1,h2⟩:=En b hb;refine⟨h1,?_⟩;rcases h2 with h|h|h
  ·exact(hR.FB b h).2
  ·exact .inr (hR.BW b h)
  ·obtain⟨k,_,Eo⟩:=TT b h;exact .inr (hR.bB _ b Eo).1
 ·rcases hz j with ⟨k,h1,h2,h3⟩|⟨h1,h2⟩
  ·rw[h3];split
   ·rw[hg,<- h2];exact mg f2 h1 (jH k) (Ta k)
   ·trivial
  ·rw[h2];by_cases hn:S.row j = .none
   ·have:S.h.getD j .none = .none:=hn;rw[this];trivial
   ·exact(hR.rows j).grow f1 hF hk fun b hb=>same j b h1 hn hb
 ·rcases lv i b hi B3 with ⟨k,l1,l2,l3,l4⟩|⟨l1,l2,l3⟩<;>rcases lv j b hj P6 with ⟨k',m1,m2,m3,m4⟩|⟨m1,m2,m3⟩
  ·rw[<- l2,<- m2,js k k' b l3 m3 l4 m4]
  ·rcases(AZ k b l4).2 with h|h
   ·have:=(hR.bB j b m3).2;omega
   ·exact absurd h (PY j b m1 m2 m3)
  ·rcases(AZ k' b m4).2 with h|h
   ·have:=(hR.bB i b l3).2;omega
   ·exact absurd h (PY i b l1 l2 l3)
  ·exact hR.inj i j b l2 m2 l3 m3
 ·intro Xm;rcases lv i b hi B3 with ⟨k,l1,l2,l3,l4⟩|⟨l1,l2,l3⟩
  ·exact WO k b l3 l4 Xm
  ·rcases(En b Xm).2 with h|h|h
   ·exact hR.bF i b l2 l3 h
   ·have:=(hR.bB i b l3).2;omega
   ·exact PY i b l1 l2 l3 h
 ·by_cases h0:β i=none
  ·simp only[x7,β'',h0,if_true]at B3;split at B3
   ·rename_i hex;obtain⟨h1,h2⟩:=AZ _ b B3;refine⟨?_,h1⟩;rcases h2 with h|h
    ·exact hR.BW b h
    ·obtain⟨k,_,Eo⟩:=TT b h;exact(hR.bB _ b Eo).1
   ·simp at B3
  ·have:=f1 i h0;simp only[x7,this]at B3;have:=hR.bB i b B3;exact⟨this.1,zB5 this.2 V9.size⟩
 ·rintro(h|h)
  ·omega
  ·obtain⟨k,hk,Eo⟩:=TT b h;exact hn _ (Il k hk).2 Eo
 ·rcases lv i b hi B3 with ⟨k,l1,l2,l3,l4⟩|⟨l1,l2,l3⟩
  ·rcases(AZ k b l4).2 with h|h
   ·exact .inr h
   ·obtain⟨k',sI,Eo⟩:=TT b h;exact .inl ⟨_,(Il k' sI).2,Eo⟩
  ·exact .inl ⟨i,l2,l3⟩
 ·rcases(En b hb).2 with h|h|h
  ·exact .inl h
  ·exact .inr (.inr h)
  ·obtain⟨k',sI,Eo⟩:=TT b h;exact .inr (.inl ⟨_,(Il k' sI).2,Eo⟩)
 ·rcases hz id with ⟨k',h1,h2,h3⟩|⟨h1,h2⟩
  ·rw[h3]at h;split at h
   ·rw[hg]at h;have hu:=Ta k';cases ho:o9.getD k' .none<;>rw[ho]at h hu<;>simp[A0,D9]at h hu
   ·cases h
  ·rw[h2]at h;exact h
end

end Go.Ev
