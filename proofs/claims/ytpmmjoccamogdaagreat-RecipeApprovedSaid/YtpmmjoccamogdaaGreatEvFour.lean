/- Helper lemmas. -/
import Derived.Test.YtpmmjoccamogdaaGreatEvThree
import Derived.KernelRfl
import Derived.Deep.LoopGhost
set_option linter.unusedVariables false
set_option linter.unusedSimpArgs false
/- All operations together; what they read; regions. A helper text: it speaks of no program. -/
namespace Go.Ev
section
variable {P:Program} {B:Nat->Prop} {w0:World} {F0:Env P} {S:St} {β:Nat->Option Hd} {F:Nat->Prop} {a:Act} {w:World}
def N2:Op->Bool
 | .alloc _=>true
 | .box .. => true
 | .buildSlice .. => true
 | .makeSlice .. => true
 | .call c=>match c.callee with
  | .builtin .append=>true
  | _=>false
 | _=>false
theorem pg (hR:Rel B w0 F0 S β F a w) {o:Oper} {x:Operand} (ho:o.op = .move x∨o.op = .assign x) {K:Out->List Nat->Prop} (h:K ⟨S.get x,[]⟩ []) {Q:Exit->Act->World->Prop} :
  o.wp P a w (s7 B w0 F0 S β o.dst K) Q:=by
 refine V3 (v:=a.eval x) (w':=w) ?_ (s7.still hR (hR.get x) h)
 rcases ho with ho|ho<;>simp [execOp,ho]
theorem wL (hR:Rel B w0 F0 S β F a w) {o:Oper} {c x y:Operand} (ho:o.op = .pick c x y) {K:Out->List Nat->Prop} (h:o5 P o.dst (.pick c x y) S.get S.row K) {Q:Exit->Act->World->Prop} :
  o.wp P a w (s7 B w0 F0 S β o.dst K) Q:=by
 simp only [o5] at h
 have hc:=hR.get c
 split at h
 ·rename_i hg
  rw [hg] at hc
  exact V3 (v:=a.eval x) (w':=w) (by simp [execOp,ho,hc.tt_inv,asBool]) (s7.still hR (hR.get x) h)
 ·rename_i hg
  rw [hg] at hc
  exact V3 (v:=a.eval y) (w':=w) (by simp [execOp,ho,hc.ff_inv,asBool]) (s7.still hR (hR.get y) h)
 ·rename_i b hg
  rw [hg] at hc
  cases b
  ·exact V3 (v:=a.eval y) (w':=w) (by simp [execOp,ho,hc.bool_inv,asBool]) (s7.still hR (hR.get y) (h.2 rfl))
  ·exact V3 (v:=a.eval x) (w':=w) (by simp [execOp,ho,hc.bool_inv,asBool]) (s7.still hR (hR.get x) (h.1 rfl))
 ·exact h.elim
theorem wM (hR:Rel B w0 F0 S β F a w) {o:Oper} (u5:N2 o.op=true->∀ d,o.dst=some d->β d=none) {K:Out->List Nat->Prop} (h:o5 P o.dst o.op S.get S.row K) {Q:Exit->Act->World->Prop} :
  o.wp P a w (s7 B w0 F0 S β o.dst K) Q:=by
 cases ho:o.op<;>rw [ho] at h u5
 case move x=>exact pg hR (.inl ho) h
 case assign x=>exact pg hR (.inr ho) h
 case pick c x y=>exact wL hR ho h
 case alloc t=>exact um hR ho (u5 rfl) h
 case box t x=>exact zW hR ho (u5 rfl) h
 case build t ps=>exact uo hR ho h
 case buildSlice t n ps=>exact iZ hR ho (u5 rfl) h
 case load t x=>exact wA hR ho h
 case store t x y=>exact uq hR ho h
 case nilCheck x=>exact mV hR ho h
 case index t x i=>exact ur hR ho h
 case binOp op t x y yt =>
  obtain ⟨r,v,h1,h2,h3⟩:=uk (P:=P) x y (hR.get x) (hR.get y) h
  exact C4 (s:=do eqGuard op t x y (a.eval x) (a.eval y);binOp op t (a.eval x) (a.eval y)) (by simp [execOp,ho]) h1 (s7.still hR h2 h3)
 case unOp op t x =>
  simp only [o5] at h
  obtain ⟨r,v,h1,h2,h3⟩:=wy (P:=P) (hR.get x) h
  exact C4 (s:=Op.unary op (a.eval x)) (by simp [execOp,ho]) h1 (s7.still hR h2 h3)
 case convert src t x=>exact pb hR ho h
 case makeFunc f xs ys=>exact mU hR ho h
 case makeSlice t x y=>exact la hR ho (u5 rfl) h
 case slice t x lo hi mx=>exact ux hR ho h
 case fieldAddr s x f=>exact kY hR ho h
 case indexAddr t x i=>exact kZ hR ho h
 case extract x i=>exact pa hR ho h
 case call c =>
  cases hc:c.callee with
  | value f=>exact wI hR ho hc h
  | invoke r m=>simp [o5,hc] at h
  | builtin b =>
   cases b
   case len=>exact zY hR ho hc h
   case max=>exact zZ hR ho hc h
   case min=>exact Aa hR ho hc h
   case append=>exact rC hR ho hc (u5 (by simp [N2,hc])) h
   all_goals simp [o5,hc] at h
 all_goals simp [o5] at h
theorem ph {op:BinOp} {lit:Bool} {k k':IntKind} {x y:Int} {K:AV->Prop} (h:lP op lit k x k' y K):∃ v,K v/\lP op lit k x k' y (fun u=>u=v):=by
 cases op
 case shl=>obtain ⟨h1,h2⟩:=(y7 _ _ _).1 h;exact ⟨_,h2,(y7 _ _ _).2 ⟨h1,rfl⟩⟩
 case shr=>obtain ⟨h1,h2⟩:=(y7 _ _ _).1 h;exact ⟨_,h2,(y7 _ _ _).2 ⟨h1,rfl⟩⟩
 all_goals
  simp only [lP] at h ⊢
  by_cases hk:k=k'
  ·simp only [hk,decide_true] at h ⊢
   first
    | (obtain ⟨h1,h2⟩:=(y7 _ _ _).1 h;exact ⟨_,h2,(y7 _ _ _).2 ⟨h1,rfl⟩⟩)
    | exact ⟨_,h,rfl⟩
  ·simp [hk] at h
theorem eE {op:BinOp} {x y:AV} {K:AV->Prop} (h:K0 op (K x) (K y)):∃ v,K v/\K0 op (x=v) (y=v):=by
 cases op<;>first|exact h.elim|exact ⟨_,h,rfl⟩
theorem pj {op:BinOp} {t:TypeId} {lit:Bool} {x y:AV} {K:AV->Prop} (h:lQ P op t lit x y K):∃ v,K v/\lQ P op t lit x y (fun u=>u=v):=by
  unfold lQ at h ⊢
  repeat' split at h
  all_goals first
    | exact h.elim
    | exact ph h
    | exact eE h
    | (obtain ⟨lT,h⟩:=h
       repeat' split at h
       all_goals first
         | exact h.elim
         | (obtain ⟨v,h1,h2⟩:=eE h
            exact ⟨v,h1,lT,by simp only [*]⟩))
theorem rE {op:UnOp} {x:AV} {K:AV->Prop} (h:ug op x K):∃ v,K v/\ug op x (fun u=>u=v):=by
 unfold ug at h ⊢
 split at h
 all_goals first
  | exact h.elim
  | exact ⟨_,h,rfl⟩
def x8 (op:Op):List Operand:=op.operands.toList
theorem jd {r r':Nat->Row} {x:AV} {D:Ct} (h:iW r x D) (hr:∀ i ∈ X5 x,r' i=r i):iW r' x D:=by
 cases x<;>simp only [iW] at h ⊢<;>first|exact h|(rw [hr _ (by simp [X5])];exact h)
theorem mZ {r r':Nat->Row} {e:TypeId} {x:AV} (h:fN r e x=true) (hr:∀ i ∈ X5 x,r' i=r i):fN r' e x=true:=by
 cases x<;>simp only [fN] at h ⊢<;>first|exact h|(rw [hr _ (by simp [X5])];exact h)
theorem na {r r':Nat->Row} {x y:AV} (h:ah r x y=true) (hr:∀ i ∈ X5 y,r' i=r i):ah r' x y=true:=by
 cases x with
 | sf sz d enc l =>
  cases y with
  | own q =>
   simp only [ah] at h ⊢
   rw [hr q (by simp [X5])]
   exact h
  | _=>exact h
 | _=>exact h
theorem rF {dst:Option Nat} {op:Op} {g:Operand->AV} {r:Nat->Row} {K:Out->List Nat->Prop} (h:o5 P dst op g r K) :
    ∃ out rd,K out rd/\∀ g' r',(∀ x ∈ x8 op,g' x=g x)->(∀ i ∈ rd,r' i=r i)->o5 P dst op g' r' (fun o d=>o=out/\d=rd):=by
  cases op
  case move x=>exact ⟨_,_,h,fun g' r' hg hr=>by simp only [o5];rw [hg x (by simp [x8,Op.operands])];exact ⟨rfl,trivial⟩⟩
  case assign x=>exact ⟨_,_,h,fun g' r' hg hr=>by simp only [o5];rw [hg x (by simp [x8,Op.operands])];exact ⟨rfl,trivial⟩⟩
  case pick c x y =>
    simp only [o5] at h
    have e:∀ g':Operand->AV,(∀ z ∈ x8 (.pick c x y),g' z=g z)->g' c=g c/\g' x=g x/\g' y=g y:=fun g' hg=>⟨hg _ (by simp [x8,Op.operands]),hg _ (by simp [x8,Op.operands]),hg _ (by simp [x8,Op.operands])⟩
    split at h
    · rename_i hc
      exact ⟨_,_,h,fun g' r' hg hr=>by obtain ⟨e1,e2,e3⟩:=e g' hg;simp [o5,e1,e2,hc]⟩
    · rename_i hc
      exact ⟨_,_,h,fun g' r' hg hr=>by obtain ⟨e1,e2,e3⟩:=e g' hg;simp [o5,e1,e3,hc]⟩
    · rename_i b hc
      cases b
      · exact ⟨_,_,h.2 rfl,fun g' r' hg hr=>by obtain ⟨e1,e2,e3⟩:=e g' hg;simp [o5,e1,e3,hc]⟩
      · exact ⟨_,_,h.1 rfl,fun g' r' hg hr=>by obtain ⟨e1,e2,e3⟩:=e g' hg;simp [o5,e1,e2,hc]⟩
    · exact h.elim
  case alloc t =>
    simp only [o5] at h
    split at h
    · rename_i d cs hz
      exact ⟨_,_,h,fun g' r' hg hr=>by simp only [o5,hz];exact ⟨trivial,trivial⟩⟩
    · exact h.elim
  case box t x =>
    simp only [o5] at h
    split at h
    · rename_i d cs hz
      exact ⟨_,_,h,fun g' r' hg hr=>by simp only [o5];rw [hg x (by simp [x8,Op.operands]),hz];exact ⟨rfl,trivial⟩⟩
    · exact h.elim
  case build t ps =>
    have e:∀ g':Operand->AV,(∀ z ∈ x8 (.build t ps),g' z=g z)->(ps.toList.map fun p=>(p.1,g' p.2))=ps.toList.map fun p=>(p.1,g p.2):=fun g' hg =>
      List.map_congr_left fun p hp=>by rw [hg p.2 (by simp only [x8,Op.operands];exact List.mem_map.2 ⟨p,hp,rfl⟩)]
    simp only [o5] at h
    repeat' split at h
    all_goals first
      | exact h.elim
      | exact ⟨_,_,h,fun g' r' hg hr=>by simp only [o5,e g' hg, *];exact ⟨trivial,trivial⟩⟩
  case buildSlice t n ps =>
    have e:∀ g':Operand->AV,(∀ z ∈ x8 (.buildSlice t n ps),g' z=g z)->(ps.toList.map fun p=>(p.1,g' p.2))=ps.toList.map fun p=>(p.1,g p.2):=fun g' hg =>
      List.map_congr_left fun p hp=>by rw [hg p.2 (by simp only [x8,Op.operands];exact List.mem_map.2 ⟨p,hp,rfl⟩)]
    simp only [o5] at h
    repeat' split at h
    all_goals first
      | exact h.elim
      | exact ⟨_,_,h,fun g' r' hg hr=>by simp only [o5,e g' hg, *];exact ⟨trivial,trivial⟩⟩
  case load t x =>
    have e:∀ g':Operand->AV,(∀ z ∈ x8 (.load t x),g' z=g z)->g' x=g x:=fun g' hg=>hg _ (by simp [x8,Op.operands])
    simp only [o5] at h
    repeat' split at h
    all_goals first
      | exact h.elim
      | exact ⟨_,_,h,fun g' r' hg hr=>by simp only [o5,e g' hg, *];exact ⟨trivial,trivial⟩⟩
      | exact ⟨_,_,h,fun g' r' hg hr=>by simp only [o5,e g' hg,hr _ (List.mem_singleton.2 rfl), *];exact ⟨trivial,trivial⟩⟩
      | exact ⟨_,_,h.2,fun g' r' hg hr=>by simp only [o5,e g' hg,hr _ (List.mem_singleton.2 rfl), *];exact ⟨trivial,trivial,trivial⟩⟩
  case store t x y =>
    have e:∀ g':Operand->AV,(∀ z ∈ x8 (.store t x y),g' z=g z)->g' x=g x/\g' y=g y:=fun g' hg=>⟨hg _ (by simp [x8,Op.operands]),hg _ (by simp [x8,Op.operands])⟩
    simp only [o5] at h
    repeat' split at h
    all_goals first
      | exact h.elim
      | exact ⟨_,_,h,fun g' r' hg hr=>by simp only [o5,(e g' hg).1,(e g' hg).2,hr _ (List.mem_singleton.2 rfl), *];exact ⟨trivial,trivial⟩⟩
      | (obtain ⟨z,h1,h2,h3⟩:=h
         exact ⟨_,_,h3,fun g' r' hg hr=>by simp only [o5,(e g' hg).1,(e g' hg).2,hr _ (List.mem_singleton.2 rfl), *];exact ⟨z,h1,trivial,rfl,trivial⟩⟩)
  case nilCheck x =>
    have e:∀ g':Operand->AV,(∀ z ∈ x8 (.nilCheck x),g' z=g z)->g' x=g x:=fun g' hg=>hg _ (by simp [x8,Op.operands])
    simp only [o5] at h
    repeat' split at h
    all_goals first
      | exact h.elim
      | exact ⟨_,_,h,fun g' r' hg hr=>by simp only [o5,e g' hg, *];exact ⟨trivial,trivial⟩⟩
  case binOp op t x y yt =>
    have e:∀ g':Operand->AV,(∀ z ∈ x8 (.binOp op t x y yt),g' z=g z)->g' x=g x/\g' y=g y:=fun g' hg=>⟨hg _ (by simp [x8,Op.operands]),hg _ (by simp [x8,Op.operands])⟩
    obtain ⟨v,h1,h2⟩:=pj h
    refine ⟨_,_,h1,fun g' r' hg hr=>?_⟩
    simp only [o5,(e g' hg).1,(e g' hg).2]
    simpa using h2
  case unOp op t x =>
    have e:∀ g':Operand->AV,(∀ z ∈ x8 (.unOp op t x),g' z=g z)->g' x=g x:=fun g' hg=>hg _ (by simp [x8,Op.operands])
    simp only [o5] at h
    obtain ⟨v,h1,h2⟩:=rE h
    refine ⟨_,_,h1,fun g' r' hg hr=>?_⟩
    simp only [o5,e g' hg]
    simpa using h2
  case convert src t x =>
    have e:∀ g':Operand->AV,(∀ z ∈ x8 (.convert src t x),g' z=g z)->g' x=g x:=fun g' hg=>hg _ (by simp [x8,Op.operands])
    simp only [o5] at h
    repeat' split at h
    all_goals first
      | exact h.elim
      | exact ⟨_,_,h,fun g' r' hg hr=>by simp only [o5,e g' hg, *];exact ⟨trivial,trivial⟩⟩
  case makeFunc f xs ys =>
    have e1:∀ g':Operand->AV,(∀ z ∈ x8 (.makeFunc f xs ys),g' z=g z)->xs.toList.map g'=xs.toList.map g:=fun g' hg=>List.map_congr_left fun p hp=>hg p (by simp only [x8,Op.operands,Array.toList_append];exact List.mem_append_left _ hp)
    have e2:∀ g':Operand->AV,(∀ z ∈ x8 (.makeFunc f xs ys),g' z=g z)->ys.toList.map g'=ys.toList.map g:=fun g' hg=>List.map_congr_left fun p hp=>hg p (by simp only [x8,Op.operands,Array.toList_append];exact List.mem_append_right _ hp)
    exact ⟨_,_,h,fun g' r' hg hr=>by simp only [o5,e1 g' hg,e2 g' hg];exact ⟨trivial,trivial⟩⟩
  case makeSlice t x y =>
    have e:∀ g':Operand->AV,(∀ z ∈ x8 (.makeSlice t x y),g' z=g z)->g' x=g x/\g' y=g y:=fun g' hg=>⟨hg _ (by simp [x8,Op.operands]),hg _ (by simp [x8,Op.operands])⟩
    simp only [o5] at h
    repeat' split at h
    all_goals first
      | exact h.elim
      | (obtain ⟨α,z,enc,h1,h2,h3,h4,h5,h6⟩:=h
         subst h2
         exact ⟨_,_,h6,fun g' r' hg hr=>by simp only [o5,(e g' hg).1,(e g' hg).2, *];exact ⟨α,z,enc,h1,trivial,trivial,trivial,trivial,rfl,trivial⟩⟩)
  case slice t x lo hi mx =>
    have e:∀ g':Operand->AV,(∀ z ∈ x8 (.slice t x lo hi mx),g' z=g z)->g' x=g x/\(∀ l:AV,zE g' lo l=zE g lo l)/\∀ l:AV,zE g' hi l=zE g hi l:=fun g' hg=>by
      refine ⟨hg _ (by simp [x8,Op.operands]),fun l=>?_,fun l=>?_⟩
      · cases lo with
        | none=>rfl
        | some y=>exact hg y (by simp [x8,Op.operands])
      · cases hi with
        | none=>rfl
        | some y=>exact hg y (by simp [x8,Op.operands])
    by_cases zH:mx=none
    case neg =>
      obtain ⟨m,rfl⟩:∃ m,mx=some m:=by cases mx with
        | none=>exact absurd rfl zH
        | some m=>exact ⟨m,rfl⟩
      simp only [o5] at h
      split at h
      case h_2=>exact h.elim
      rename_i hh
      split at h
      case h_2=>exact h.elim
      rename_i e' hu
      split at h
      case h_2=>exact h.elim
      rename_i inf U3
      split at h
      case h_2=>exact h.elim
      rename_i α sz d enc l hg
      split at h
      case h_2=>exact h.elim
      rename_i C1
      split at h
      case h_2=>exact h.elim
      rename_i kb q kc c zG Hk
      obtain ⟨Ef,hK⟩:=(y7 _ _ _).1 h
      refine ⟨_,_,hK,fun g' r' Hl hr=>?_⟩
      have e1:=Hl x (by simp [x8,Op.operands])
      have e2:=Hl hh (by simp [x8,Op.operands])
      have e3:=Hl m (by simp [x8,Op.operands])
      simp only [o5,hu,U3,e1,e2,e3,hg,C1,zG,Hk]
      exact (y7 _ _ _).2 ⟨Ef,by simp⟩
    subst zH
    simp only [o5] at h
    split at h
    case h_2=>exact h.elim
    rename_i e' hu
    split at h
    case h_2=>exact h.elim
    rename_i inf U3
    split at h
    case h_2=>exact h.elim
    rename_i α sz d enc l fR
    split at h
    case h_2=>exact h.elim
    rename_i C1
    split at h
    case h_2=>exact h.elim
    rename_i ka p kb q Ed zG
    obtain ⟨h1,hK⟩:=(y7 _ _ _).1 h
    refine ⟨_,_,hK,fun g' r' hg hr=>?_⟩
    obtain ⟨e1,e2,e3⟩:=e g' hg
    simp only [o5,hu,U3,e1,fR,C1,e2,e3,Ed,zG]
    exact (y7 _ _ _).2 ⟨h1,by simp⟩
  case fieldAddr s x f =>
    have e:∀ g':Operand->AV,(∀ z ∈ x8 (.fieldAddr s x f),g' z=g z)->g' x=g x:=fun g' hg=>hg _ (by simp [x8,Op.operands])
    simp only [o5] at h
    repeat' split at h
    all_goals first
      | exact h.elim
      | exact ⟨_,_,h,fun g' r' hg hr=>by simp only [o5,e g' hg, *];exact ⟨trivial,trivial⟩⟩
  case extract x i =>
    have e:∀ g':Operand->AV,(∀ z ∈ x8 (.extract x i),g' z=g z)->g' x=g x:=fun g' hg=>hg _ (by simp [x8,Op.operands])
    simp only [o5] at h
    repeat' split at h
    all_goals first
      | exact h.elim
      | exact ⟨_,_,h,fun g' r' hg hr=>by simp only [o5,e g' hg, *];exact ⟨trivial,trivial⟩⟩
  case index t x i =>
    have e:∀ g':Operand->AV,(∀ z ∈ x8 (.index t x i),g' z=g z)->g' x=g x/\g' i=g i:=fun g' hg=>⟨hg _ (by simp [x8,Op.operands]),hg _ (by simp [x8,Op.operands])⟩
    simp only [o5] at h
    split at h
    case h_2=>exact h.elim
    rename_i k n hn
    split at h
    · rename_i s fR
      split at h
      case h_2=>exact h.elim
      rename_i hu
      obtain ⟨h1,h2⟩:=(y7 _ _ _).1 h
      refine ⟨_,_,h2,fun g' r' hg hr=>?_⟩
      simp only [o5,(e g' hg).1,(e g' hg).2,hn,hu,fR]
      exact (y7 _ _ _).2 ⟨h1,by simp⟩
    · rename_i l fR
      split at h
      case h_2=>exact h.elim
      rename_i len e' hu
      split at h
      case h_2=>exact h.elim
      rename_i inf d hi hd
      split at h
      case h_2=>exact h.elim
      rename_i hc
      obtain ⟨h1,h2⟩:=(y7 _ _ _).1 h
      refine ⟨_,_,h2,fun g' r' hg hr=>?_⟩
      simp only [o5,(e g' hg).1,(e g' hg).2,hn,hu,fR,hi,hd,hc]
      exact (y7 _ _ _).2 ⟨h1,by simp⟩
    · exact h.elim
  case indexAddr t x i =>
    have e:∀ g':Operand->AV,(∀ z ∈ x8 (.indexAddr t x i),g' z=g z)->g' x=g x/\g' i=g i:=fun g' hg=>⟨hg _ (by simp [x8,Op.operands]),hg _ (by simp [x8,Op.operands])⟩
    simp only [o5] at h
    split at h
    case h_2=>exact h.elim
    rename_i k n hn
    split at h
    · rename_i e' hu
      split at h
      case h_2=>exact h.elim
      rename_i inf hi
      split at h
      · rename_i fR
        split at h
        case h_2=>exact h.elim
        rename_i C1
        obtain ⟨h1,h2⟩:=(y7 _ _ _).1 h
        split at h2
        case h_2=>exact h2.elim
        rename_i hlen
        refine ⟨_,_,h2,fun g' r' hg hr=>?_⟩
        simp only [o5,(e g' hg).1,(e g' hg).2,hn,hu,hi,fR,C1,hlen]
        exact (y7 _ _ _).2 ⟨h1,by simp⟩
      · rename_i fR
        split at h
        case h_2=>exact h.elim
        rename_i C1
        obtain ⟨h1,h2⟩:=(y7 _ _ _).1 h
        split at h2
        case h_2=>exact h2.elim
        rename_i hlen
        refine ⟨_,_,h2,fun g' r' hg hr=>?_⟩
        simp only [o5,(e g' hg).1,(e g' hg).2,hn,hu,hi,fR,C1,hlen]
        exact (y7 _ _ _).2 ⟨h1,by simp⟩
      · rename_i id fR
        split at h
        case h_3=>exact h.elim
        all_goals
          rename_i rl
          split at h
          case h_2=>exact h.elim
          rename_i C1
          obtain ⟨h1,h2⟩:=(y7 _ _ _).1 h
          refine ⟨_,_,h2,fun g' r' hg hr=>?_⟩
          simp only [o5,(e g' hg).1,(e g' hg).2,hn,hu,hi,fR,hr id (List.mem_singleton.2 rfl),rl,C1]
          exact (y7 _ _ _).2 ⟨h1,by simp⟩
      · exact h.elim
    · rename_i len e' hu
      split at h
      case h_2=>exact h.elim
      rename_i inf hi
      obtain ⟨h1,h2⟩:=(y7 _ _ _).1 h
      split at h2
      case h_3=>exact h2.elim
      all_goals
        rename_i fR
        refine ⟨_,_,h2,fun g' r' hg hr=>?_⟩
        simp only [o5,(e g' hg).1,(e g' hg).2,hn,hu,hi,fR]
        exact (y7 _ _ _).2 ⟨h1,by simp⟩
    · exact h.elim
  case call c =>
    have bL:∀ g':Operand->AV,(∀ z ∈ x8 (.call c),g' z=g z)->∀ x ∈ c.args.toList,g' x=g x:=fun g' hg x hx=>hg x (by simp only [x8,Op.operands,Call.operands,Array.toList_append];exact List.mem_append_right _ hx)
    have emap:∀ g':Operand->AV,(∀ z ∈ x8 (.call c),g' z=g z)->c.args.toList.map g'=c.args.toList.map g:=fun g' hg=>List.map_congr_left (bL g' hg)
    cases hc:c.callee with
    | invoke r m=>simp [o5,hc] at h
    | value f =>
      have ef:∀ g':Operand->AV,(∀ z ∈ x8 (.call c),g' z=g z)->g' f=g f:=fun g' hg=>hg f (by simp [x8,Op.operands,Call.operands,hc])
      simp only [o5,hc] at h
      split at h
      case h_2=>exact h.elim
      rename_i bk first u4 Eg
      split at h
      · rename_i N0
        rw [R8] at h
        obtain ⟨v,h1,h2⟩:=h
        refine ⟨_,_,h2,fun g' r' hg hr=>?_⟩
        simp only [o5,hc,ef g' hg,Eg,emap g' hg,N0]
        rw [R8]
        exact ⟨v,h1,by simp⟩
      · rename_i N0
        rw [R8] at h
        obtain ⟨v,h1,h2⟩:=h
        split at h2
        case h_2=>exact h2.elim
        rename_i wJ
        refine ⟨_,_,h2,fun g' r' hg hr=>?_⟩
        simp only [o5,hc,ef g' hg,Eg,emap g' hg,N0]
        rw [R8]
        have:(first++c.args.toList.map g++u4).map (z8 4 r')=(first++c.args.toList.map g++u4).map (z8 4 r):=List.map_congr_left fun x hx=>eu 4 x fun i hi=>hr i (List.mem_flatMap.2 ⟨x,hx,hi⟩)
        have EN:(first++c.args.toList.map g++u4).flatMap (E7 4 r')=(first++c.args.toList.map g++u4).flatMap (E7 4 r):=by
          have key:∀ n (x:AV),(∀ i ∈ E7 n r x,r' i=r i)->E7 n r' x=E7 n r x:=by
            intro n
            induction n with
            | zero=>intro x _;rfl
            | succ n ih =>
              intro x hx
              have hl:∀ l:List AV,(∀ i ∈ l.flatMap (E7 n r),r' i=r i)->l.flatMap (E7 n r')=l.flatMap (E7 n r):=fun l hl=>by
                induction l with
                | nil=>rfl
                | cons y l Hm =>
                  simp only [List.flatMap_cons]
                  rw [ih y fun i hi=>hl i (by simp only [List.flatMap_cons];exact List.mem_append_left _ hi),Hm fun i hi=>hl i (by simp only [List.flatMap_cons];exact List.mem_append_right _ hi)]
              have Kz:∀ l:List (List AV),(∀ i ∈ l.flatMap (fun cs=>cs.flatMap (E7 n r)),r' i=r i)->l.flatMap (fun cs=>cs.flatMap (E7 n r'))=l.flatMap (fun cs=>cs.flatMap (E7 n r)):=fun l h2=>by
                induction l with
                | nil=>rfl
                | cons y l Hm =>
                  simp only [List.flatMap_cons]
                  rw [hl y fun i hi=>h2 i (by simp only [List.flatMap_cons];exact List.mem_append_left _ hi),Hm fun i hi=>h2 i (by simp only [List.flatMap_cons];exact List.mem_append_right _ hi)]
              cases x with
              | ptr id sz i off =>
                have e:=hx id (by simp [E7])
                simp only [E7,e]
                cases hr:r id with
                | cells ty cs=>simp only [hl cs fun i hi=>hx i (by simp only [E7,hr];exact List.mem_cons_of_mem _ hi)]
                | _=>rfl
              | own id =>
                have e:=hx id (by simp [E7])
                simp only [E7,e]
                cases hr:r id with
                | lit ty sz z7=>simp only [Kz z7 fun i hi=>hx i (by simp only [E7,hr];exact List.mem_cons_of_mem _ hi)]
                | _=>rfl
              | agg l=>simp only [E7];exact hl l fun i hi=>hx i (by simpa only [E7] using hi)
              | tup l=>simp only [E7];exact hl l fun i hi=>hx i (by simpa only [E7] using hi)
              | fn f a b =>
                simp only [E7]
                rw [hl a fun i hi=>hx i (by simp only [E7];exact List.mem_append_left _ hi),hl b fun i hi=>hx i (by simp only [E7];exact List.mem_append_right _ hi)]
              | _=>rfl
          generalize first++c.args.toList.map g++u4=A at hr
          induction A with
          | nil=>rfl
          | cons x A ih =>
            simp only [List.flatMap_cons] at hr ⊢
            rw [key 4 x fun i hi=>hr i (List.mem_append_left _ hi),ih fun i hi=>hr i (List.mem_append_right _ hi)]
        rw [this]
        refine ⟨v,h1,?_⟩
        simp only [wJ,EN]
        exact ⟨trivial,trivial⟩
    | builtin b =>
      cases b
      case len =>
        simp only [o5,hc] at h
        split at h
        case h_2=>exact h.elim
        rename_i x t hx ht
        have ex:∀ g':Operand->AV,(∀ z ∈ x8 (.call c),g' z=g z)->g' x=g x:=fun g' hg=>bL g' hg x (by rw [hx];simp)
        repeat' split at h
        all_goals first
          | exact h.elim
          | exact ⟨_,_,h,fun g' r' hg hr=>by simp only [o5,hc,ex g' hg, *];exact ⟨trivial,trivial⟩⟩
          | exact ⟨_,_,h,fun g' r' hg hr=>by simp only [o5,hc,ex g' hg,hr _ (List.mem_singleton.2 rfl), *];exact ⟨trivial,trivial⟩⟩
      case max =>
        simp only [o5,hc] at h
        split at h
        case h_2=>exact h.elim
        rename_i x y hx
        have ex:∀ g':Operand->AV,(∀ z ∈ x8 (.call c),g' z=g z)->g' x=g x/\g' y=g y:=fun g' hg=>⟨bL g' hg x (by rw [hx];simp),bL g' hg y (by rw [hx];simp)⟩
        split at h
        · exact ⟨_,_,h,fun g' r' hg hr=>by simp only [o5,hc,(ex g' hg).1,(ex g' hg).2, *];exact ⟨trivial,trivial⟩⟩
        · exact h.elim
      case min =>
        simp only [o5,hc] at h
        split at h
        case h_2=>exact h.elim
        rename_i x y hx
        have ex:∀ g':Operand->AV,(∀ z ∈ x8 (.call c),g' z=g z)->g' x=g x/\g' y=g y:=fun g' hg=>⟨bL g' hg x (by rw [hx];simp),bL g' hg y (by rw [hx];simp)⟩
        split at h
        · exact ⟨_,_,h,fun g' r' hg hr=>by simp only [o5,hc,(ex g' hg).1,(ex g' hg).2, *];exact ⟨trivial,trivial⟩⟩
        · exact h.elim
      case append =>
        simp only [o5,hc] at h
        split at h
        case h_2=>exact h.elim
        rename_i x y t t' hx ht
        have ex:∀ g':Operand->AV,(∀ z ∈ x8 (.call c),g' z=g z)->g' x=g x/\g' y=g y:=fun g' hg=>⟨bL g' hg x (by rw [hx];simp),bL g' hg y (by rw [hx];simp)⟩
        split at h
        case h_2=>exact h.elim
        rename_i dd e hd hu Hi
        split at h
        case h_2=>exact h.elim
        rename_i inf z hi hz
        split at h
        case h_2=>exact h.elim
        rename_i pc
        split at h
        case h_2=>exact h.elim
        rename_i uz
        split at h
        case h_2=>exact h.elim
        rename_i aF
        obtain ⟨D,l',h1,h2,h3,h4,h5,h6,h7⟩:=h
        refine ⟨_,_,h7,fun g' r' hg hr=>?_⟩
        have iJ:(fN r' hd (g x) || ah r' (g x) (g y))=true:=by
          rw [Bool.or_eq_true] at aF ⊢
          rcases aF with aF|aF
          · exact .inl (mZ aF fun i hi=>hr i (List.mem_append_left _ hi))
          · exact .inr (na aF fun i hi=>hr i (List.mem_append_right _ hi))
        have Gp:=jd h2 fun i hi=>hr i (List.mem_append_left _ hi)
        have KA:=jd h3 fun i hi=>hr i (List.mem_append_right _ hi)
        simp only [o5,hc,(ex g' hg).1,(ex g' hg).2,hx,ht,hu,Hi,hi,hz,pc,uz,iJ]
        exact ⟨D,l',h1,Gp,KA,h4,h5,h6,by simp⟩
      all_goals simp [o5,hc] at h
  all_goals simp [o5] at h
end
/- Rows whose elements hold slices of their own: what is read of them, and append. A helper text: it speaks of no program. -/
def je (id i j0:Nat) (ho:Option Nat) (cs:List AV):List AV:=cs.set j0 (match ho with
 | none => .mem id i
 | some _ => .any)
section
variable {P:Program} {B:Nat->Prop} {w0:World} {F0:Env P} {S:St} {β:Nat->Option Hd} {F:Nat->Prop} {a:Act} {w:World}
theorem J6 (l:List AV) (t:Nat) (x:AV) (i:Nat):(l.set t x).getD i .any=if t=i/\i < l.length then x else l.getD i .any:=by
 have:=P0 l (some t) x i
 simpa [V0] using this
theorem N6 (hR:Rel B w0 F0 S β F a w) {id:Nat} {ty:TypeId} {α:Type} {sz j0:Nat} {F5:TypeId} {d:α} {enc:α->List AV} {ys:α->List Int} {ho:Option Nat} {l:List α} (hr:S.row id = .nest ty sz j0 F5 d enc ys ho l) {hd:Hd} (hb:β id=some hd) :
  hd.len=l.length/\((l=[]/\hd.b=none/\hd.cap=0/\hd.m=bd)∨∃ b vs,hd.b=some b/\w.heap[b]? = some (.cells vs ty (0,0)) /\
   l.length<=hd.cap/\hd.cap<=maxLen/\vs.size=hd.cap * sz /\
   (∀ i j,i < l.length->j < sz->j≠j0->p9 F w ((enc (l.getD i d)).getD j .any) (vs.getD (i * sz + j) undef)) /\
   (∀ i,bS w F5 (hd.m i) (dz ys d ho l i) (vs.getD (i * sz + j0) undef))/\(∀ i k c,(hd.m i).1=some c->(hd.m k).1=some c->i=k)/\∀ i c,(hd.m i).1=some c->c≠b):=by
 have:=hR.rows id
 rw [hr] at this
 obtain ⟨hd',e1,e2,e3⟩:=this
 rw [hb] at e1;cases e1
 exact ⟨e2,e3⟩
theorem uC (hR:Rel B w0 F0 S β F a w) {o:Oper} {t:TypeId} {x:Operand} (C9:o.op = .load t x) {id sz j off:Nat} (hg:S.get x = .ptr id sz j off) {α:Type} {ty:TypeId} {oP j0:Nat} {F5:TypeId} {d:α} {enc:α->List AV} {ys:α->List Int} {ho:Option Nat} {l:List α}
  (hr:S.row id = .nest ty oP j0 F5 d enc ys ho l) {i:TypeInfo} {dd:TypeDesc} (hi:P.info? t=some i) (hu:P.underlying t=some dd) (e0:sz=oP) (GW:(enc (l.getD j d)).length=sz) {v:AV}
  (hl:dh (Q3 dd) i.size (je id j j0 ho (enc (l.getD j d))) off=some v) (hj:j < l.length) {K:Out->List Nat->Prop} {rd:List Nat} (hK:K ⟨v,[]⟩ rd) {Q:Exit->Act->World->Prop}:o.wp P a w (s7 B w0 F0 S β o.dst K) Q:=by
 have hx:=hR.get x
 have rm:execOp a.eval o=(do pure (.value (<- Instr.loadAt t (a.eval x)))):=by simp [execOp,C9]
 rw [hg] at hx
 obtain ⟨hd,b,hb,hh,hv⟩:=hx.ptr_inv
 obtain ⟨hlen,cV⟩:=N6 hR hr hb
 rcases cV with ⟨h1,h2,_⟩|⟨b',vs,e1,e2,e3,e4,e5,e6,e7,e8⟩
 ·rw [h1] at hj;simp at hj
 rw [hh] at e1;cases e1
 have te:(je id j j0 ho (enc (l.getD j d))).length=sz:=by unfold je;rw [List.length_set];exact GW
 obtain ⟨u,h1,h2⟩:=X6 (P:=P) (β:=β) (F:=F) (w:=w) (o:=j * sz) (b:=b) (g:=fun k=>vs.getD (j * sz + k) undef) hi hu
  (fun k hk=>A6 e2 (by
   rw [e5,<- e0]
   have:=u1 (Nat.lt_of_lt_of_le hj e3) (show k < sz by omega)
   omega))
  (fun k hk=>by
   have fJ:k < sz:=by omega
   unfold je
   rw [J6]
   split
   ·rename_i hc
    obtain ⟨hc,_⟩:=hc
    subst hc
    cases ho with
    | some h=>exact .imm (.any _)
    | none =>
     have hm:=e7 j
     rw [dz,if_pos ⟨hj,by simp⟩] at hm
     rw [<- e0] at hm
     have:=v7.mem (F:=F) (w:=w) hb (i:=j) (by omega)
     rw [<- hm.1] at this
     exact this
   ·rename_i hc
    have R9:k≠j0:=fun e=>hc ⟨e.symm,by omega⟩
    have:=e6 j k hj (by omega) R9
    rw [<- e0] at this
    exact .imm this) hl
 rw [hv] at rm
 exact C4 rm h1 (s7.still hR h2 hK)
theorem nb {xs ys:List AV} {j0:Nat} (h:xs.set j0 .any=ys.set j0 .any):xs.length=ys.length/\∀ k,k≠j0->xs.getD k .any=ys.getD k .any:=by
 refine ⟨by simpa using congrArg List.length h,fun k hk=>?_⟩
 have:=congrArg (fun l=>List.getD l k .any) h
 simp only [J6] at this
 have fJ:¬ (j0=k/\k < xs.length):=fun e=>hk e.1.symm
 have zI:¬ (j0=k/\k < ys.length):=fun e=>hk e.1.symm
 rwa [if_neg fJ,if_neg zI] at this
theorem gQ {hd:Hd} {F5:TypeId} {zs:List Int} {v:Value} (hl:hd.len=zs.length) (h:(zs=[]/\hd.b=none/\hd.cap=0)∨∃ b vs,hd.b=some b/\w.heap[b]? = some (.cells vs F5 (0,0)) /\
      zs.length<=hd.cap/\hd.cap<=maxLen/\vs.size=hd.cap * 1/\∀ i j,i < zs.length->j < 1->p9 F w ((R6 (zs.getD i 0)).getD j .any) (vs.getD (i * 1 + j) undef)) (hv:v = .slice (hd.b.map fun b=>⟨b,0,none⟩) hd.len hd.cap) :
    bS w F5 (hd.b,hd.len,hd.cap) (some zs) v:=by
  refine ⟨hv,hl,?_⟩
  rcases h with h|⟨b,vs,h1,h2,h3,h4,h5,h6⟩
  · exact .inl h
  · refine .inr ⟨b,vs,h1,h2,h3,h4,by simpa using h5,fun k hk=>?_⟩
    have:=h6 k 0 hk (by omega)
    rw [Nat.mul_one,Nat.add_zero] at this
    generalize vs.getD k undef=u at this
    have e:(R6 (zs.getD k 0)).getD 0 .any = .int .i64 (zs.getD k 0):=rfl
    rw [e] at this
    cases this;rfl
theorem gR {n m sz:Nat} {go gn:Nat->Nat->Value} {rest:List Value} {vs:Array Value} (tc:vs.toList=n7 go n sz++n7 gn m sz++rest) :
  (∀ i j,i < n->j < sz->vs.getD (i * sz + j) undef=go i j)/\∀ i j,i < m->j < sz->vs.getD ((n + i) * sz + j) undef=gn i j:=by
 have ao:∀ k v,(n7 go n sz++n7 gn m sz++rest)[k]? = some v->vs.getD k undef=v:=fun k v h=>by
  rw [<- tc] at h
  have:vs[k]? = some v:=by simpa using h
  simp [Array.getD_eq_getD_getElem?,this]
 refine ⟨fun i j hi hj=>ao _ _ ?_,fun i j hi hj=>ao _ _ ?_⟩
 ·have:=u1 hi hj
  rw [List.append_assoc,List.getElem?_append_left (by rw [n6];exact this)]
  exact M4 hi hj
 ·have e:(n + i) * sz + j - n * sz=i * sz + j:=by rw [Nat.add_mul];omega
  have h2:n * sz<=(n + i) * sz + j:=by rw [Nat.add_mul];omega
  have h3:=u1 hi hj
  rw [List.append_assoc,List.getElem?_append_right (by rw [n6];omega),n6,e,List.getElem?_append_left (by rw [n6];exact h3)]
  exact M4 hi hj
theorem jf {α:Type} {ty:TypeId} {sz j0:Nat} {F5:TypeId} {d:α} {enc:α->List AV} {ys:α->List Int} {l:List α} {y:α} {m:Nat->Option Nat×Nat×Nat} {mm:Option Nat×Nat×Nat} {go:Nat->Nat->Value} {gn:Nat->Value} {w':World} {wN cap:Nat} {vs:Array Value} {β':Nat->Option Hd} {i:Nat} {cs:List AV}
  (hk:y0 F w w') (iV:j0 < sz) (hβ:β' i=some ⟨some wN,l.length + 1,cap,fun p=>if p=l.length then mm else m p⟩) (hh:w'.heap[wN]? = some (.cells vs ty (0,0))) (hc:l.length + 1<=cap) (rD:cap<=maxLen) (C1:vs.size=cap * sz)
  (v1:∀ p q,p < l.length->q < sz->vs.getD (p * sz + q) undef=go p q) (v2:∀ q,q < sz->vs.getD (l.length * sz + q) undef=gn q)
  (e6:∀ p q,p < l.length->q < sz->q≠j0->p9 F w ((enc (l.getD p d)).getD q .any) (go p q)) (e7:∀ p,p < l.length->bS w F5 (m p) (some (ys (l.getD p d))) (go p j0)) (Eh:∀ p,l.length<=p->m p=(none,0,0))
  (e8:∀ i k c,(m i).1=some c->(m k).1=some c->i=k) (e9:∀ p c,(m p).1=some c->c≠wN/\w'.heap[c]? = w.heap[c]?)
  (l6:∀ q,q < sz->q≠j0->p9 F w (cs.getD q .any) (gn q)) (hy:∀ q,q≠j0->(enc y).getD q .any=cs.getD q .any) (l7:bS w F5 mm (some (ys y)) (gn j0)) (l8:∀ c,mm.1=some c->c≠wN/\w'.heap[c]? = w.heap[c]? /\ ∀ p,(m p).1≠some c) :
  s9 β' F w' i (.nest ty sz j0 F5 d enc ys none (l++[y])):=by
 have gl:∀ p,p < l.length->(l++[y]).getD p d=l.getD p d:=fun p hp=>M7 hp
 have gr:(l++[y]).getD l.length d=y:=by rw [L8 (Nat.le_refl _)];simp
 refine ⟨_,hβ,by simp,.inr ⟨wN,vs,rfl,hh,by simpa using hc,rD,C1,fun p q hp hq gS=>?_,fun p=>?_,fun p q c hp hq=>?_,fun p c hp=>?_⟩⟩
 ·have Mj:p < l.length + 1:=by simpa using hp
  by_cases e:p < l.length
  ·rw [gl p e,v1 p q e hq];exact (e6 p q e hq gS).mono (fun _ h=>h) hk
  ·have:p=l.length:=by omega
   subst this
   rw [gr,v2 q hq,hy q gS];exact (l6 q hq gS).mono (fun _ h=>h) hk
 ·show bS w' F5 (if p=l.length then mm else m p) (if p < (l++[y]).length/\(none:Option Nat)≠some p then some (ys ((l++[y]).getD p d)) else none) _
  have h0:(none:Option Nat)≠some p:=by simp
  by_cases e:p < l.length
  ·have e2:p < (l++[y]).length:=by simp;omega
   have e3:p≠l.length:=by omega
   rw [if_neg e3,if_pos ⟨e2,h0⟩,gl p e,v1 p j0 e iV]
   exact (e7 p e).same fun c hc=>(e9 p c hc).2
  ·by_cases e4:p=l.length
   ·subst e4
    rw [if_pos rfl,if_pos ⟨by simp,h0⟩,gr,v2 j0 iV]
    exact l7.same fun c hc=>(l8 c hc).2.1
   ·rw [if_neg e4,if_neg (by simp;omega),Eh p (by omega)];rfl
 ·by_cases e1:p=l.length
  ·by_cases e2:q=l.length
   ·rw [e1,e2]
   ·simp only [e1,if_true] at hp
    simp only [e2,if_false] at hq
    exact absurd hq ((l8 c hp).2.2 q)
  ·by_cases e2:q=l.length
   ·simp only [e2,if_true] at hq
    simp only [e1,if_false] at hp
    exact absurd hp ((l8 c hq).2.2 p)
   ·simp only [e1,if_false] at hp
    simp only [e2,if_false] at hq
    exact e8 p q c hp hq
 ·by_cases e1:p=l.length
  ·simp only [e1,if_true] at hp;exact (l8 c hp).1
  ·simp only [e1,if_false] at hp;exact (e9 p c hp).1
theorem gT (hR:Rel B w0 F0 S β F a w) {o:Oper} {c:Call} (C9:o.op = .call c) (iJ:c.callee = .builtin .append) {s x:Operand} {t e:TypeId} (pf:c.args.toList=[s,x]) (uy:c.argTypes.toList=[t,t]) {d:Nat} (hd:o.dst=some d) (u5:β d=none) (hu:P.underlying t=some (.slice e))
  {id q:Nat} (wO:S.get s = .own id) (fR:S.get x = .own q) {α:Type} {sz j0:Nat} {F5:TypeId} {d0:α} {enc:α->List AV} {ys:α->List Int} {l:List α} (hr:S.row id = .nest e sz j0 F5 d0 enc ys none l) {i:TypeInfo} {z:List AV} (hi:P.info? e=some i) (hz:V1 P e=some z)
  {CC:TypeId} {cs:List AV} (hq:S.row q = .lit CC sz [cs]) (pc:z.length=i.size) (uz:0 < i.size) (C1:sz=i.size) (oO:cs.length=sz) (iV:j0 < sz) (h1:T0 cs=true) (N0:B4 (cs.set j0 .any)=true) {y:α} (hy:(enc y).set j0 .any=(cs.set j0 .any).map I2)
  (mX:(l.length + 1) * i.bytes<=1099511627776) (hlen:l.length + 1<=1099511627776) {cons:List Nat} {mm:Option Nat×Nat×Nat} (EO:id ∉ cons) (KB:∀ v,v7 β F w (cs.getD j0 .any) v->bS w F5 mm (some (ys y)) v) (CD:∀ b,mm.1=some b->∃ r ∈ cons,S.row r ≠ .none/\o7 β r b)
  {K:Out->List Nat->Prop} {rd:List Nat} (hK:K ⟨.own d,(id :: cons).map (fun i=>(i,.none))++[(d,.nest e sz j0 F5 d0 enc ys none (l++[y]))]⟩ rd) {Q:Exit->Act->World->Prop}:o.wp P a w (s7 B w0 F0 S β o.dst K) Q:=by
 have e1:=bK pf
 have e2:=bK uy
 obtain ⟨i',zv,U3,kW,_,vX⟩:=O4 (β:=β) (F:=F) (w:=w) hz
 rw [hi] at U3; cases U3
 have CA:zv.cells.size=i.size:=by rw [<- vX.1];exact pc
 have hs:∀ BP,builtin .append c.argTypes o.type BP (c.args.map a.eval)=(do pure (.value (<- Builtin.append_ #[t,t] o.type #[a.eval s,a.eval x]))):=fun BP=>by
  rw [e1,e2];simp [builtin]
 have v5:S.row id ≠ .none:=by rw [hr];simp
 have wb:=hR.get s
 have V4:=hR.get x
 rw [wO] at wb
 rw [fR] at V4
 obtain ⟨Q9,hβ,cW⟩:=wb.own_inv
 obtain ⟨wP,Hn,Ho⟩:=V4.own_inv
 obtain ⟨bq,vq,p1,p2,p3,p4,p5⟩:=iK hR hq Hn
 have Hp:wP.len=1:=by simpa using p3
 have kQ:a.eval x = .slice (some ⟨bq,0,none⟩) 1 wP.cap:=by rw [Ho,p1,Hp];rfl
 let gn:Nat->Nat->Value:=fun _ k=>vq.getD k undef
 have EL:∀ i' j,i' < 1->j < sz->w.cell? ⟨bq,0 + i' * sz + j,none⟩=some (gn i' j):=fun i' j U3 hj=>by
  have:i'=0:=by omega
  subst this
  rw [Nat.zero_mul,Nat.add_zero,Nat.zero_add]
  exact A6 p2 (by rw [p4];simpa using hj)
 have G8:∀ j,j < sz->v7 β F w (cs.getD j .any) (vq.getD j undef):=fun j hj=>by
  have:=p5 0 j (by simp) hj
  simpa using this
 have CE:∀ u ∈ n7 gn 1 sz,u.oneCell'=true:=fun u EP=>by
  obtain ⟨k,hk,rfl⟩:=List.mem_map.1 EP
  have hk:k < sz:=by simpa using hk
  have:k % sz=k:=Nat.mod_eq_of_lt hk
  show (vq.getD (k % sz) undef).oneCell'=true
  rw [this]
  exact ((G8 k hk).one_cell (Y8 h1 k (by omega))).1
 have l6:∀ q,q < sz->q≠j0->p9 F w ((cs.map I2).getD q .any) (gn 0 q):=fun q vZ gS=>by
  have h:=G8 q vZ
  have hc:(cs.getD q .any).closed=true:=by
   have:=B8 N0 q
   rwa [J6,if_neg (fun h=>gS h.1.symm)] at this
  rw [aC]
  exact (h.shut hc).tts
 obtain ⟨_,Gq⟩:=nb (hy.trans (by rw [List.map_set];rfl:(cs.set j0 .any).map I2=(cs.map I2).set j0 .any))
 have l7:bS w F5 mm (some (ys y)) (gn 0 j0):=KB _ (G8 j0 iV)
 have fin:∀ (hd':Hd) (w':World),(Builtin.append_ #[t,t] o.type #[a.eval s,a.eval x]).run P w = .ok (.slice (hd'.b.map fun b=>⟨b,0,none⟩) hd'.len hd'.cap) w'->w.heap.size<=w'.heap.size ->
   (w'.os=w.os/\w'.tape=w.tape/\w'.output=w.output)->(∀ k,k < w.heap.size->(∀ c ∈ id :: cons,S.row c ≠ .none->¬ o7 β c k)->w'.heap[k]? = w.heap[k]?) ->
   (∀ b,N4 (some hd') b->b < w'.heap.size/\((∃ c ∈ id :: cons,S.row c ≠ .none/\o7 β c b)∨w.heap.size<=b)) ->
   (∀ β',β' d=some hd'->(∀ j,β j≠none->β' j=β j)->y0 F w w'->s9 β' F w' d (.nest e sz j0 F5 d0 enc ys none (l++[y])))->o.wp P a w (s7 B w0 F0 S β o.dst K) Q:=by
  intro hd' w' A7 g1 g2 g3 g4 g5
  obtain ⟨β',F',q1,q2⟩:=hR.retie u5 (cons:=id :: cons) (dst:=o.dst) (hd':=hd') g1 g2 g3 g4 g5 (fun _ _ _ _ h=>by cases h)
  exact D1 C9 iJ hs A7 ⟨_,_,hK,β',F',fun j hj=>q1 j (fun e=>hj (by rw [e];exact hd)),q2⟩
 have mlt:∀ b,mm.1=some b->b < w.heap.size:=fun b hb=>by
  obtain ⟨r,_,_,pk⟩:=CD b hb
  exact (hR.bB r b pk).2
 have Hq:∀ b,mm.1=some b->¬ o7 β id b:=fun b hb h=>by
  obtain ⟨r,ER,pk,KC⟩:=CD b hb
  exact EO (hR.inj r id b pk v5 KC h ▸ ER)
 obtain ⟨dX,cV⟩:=N6 hR hr hβ
 have zH:l.length + 1<=maxLen:=by simp only [maxLen];omega
 -- a new block
 have fresh:∀ (go:Nat->Nat->Value) (m:Nat->Option Nat×Nat×Nat) (cap:Nat),l.length + 1<=cap->cap<=maxLen ->
   (∀ p q,p < l.length->q < sz->q≠j0->p9 F w ((enc (l.getD p d0)).getD q .any) (go p q))->(∀ p,p < l.length->bS w F5 (m p) (some (ys (l.getD p d0))) (go p j0))->(∀ p,l.length<=p->m p=(none,0,0)) ->
   (∀ i k c,(m i).1=some c->(m k).1=some c->i=k)->(∀ p c,(m p).1=some c->o7 β id c) ->
   (Builtin.append_ #[t,t] o.type #[a.eval s,a.eval x]).run P w = .ok (.slice (some ⟨w.heap.size,0,none⟩) (l.length + 1) cap)
    (w.drew.alloc (.cells ((n7 go l.length sz).toArray++(n7 gn 1 sz).toArray++Builtin.zeroCells zv.cells (cap - (l.length + 1))) e)) ->
   o.wp P a w (s7 B w0 F0 S β o.dst K) Q:=by
  intro go m cap hc rD e6 e7 Eh e8 e9 A7
  have hp:∀ k,k < w.heap.size->(w.drew.alloc (.cells ((n7 go l.length sz).toArray++(n7 gn 1 sz).toArray++Builtin.zeroCells zv.cells (cap - (l.length + 1))) e)).heap[k]? = w.heap[k]? := fun k hk=>RowKit.Below.heap_alloc w.drew _ k hk
  have Hr:∀ p c,(m p).1=some c->c < w.heap.size:=fun p c hc=>(hR.bB id c (e9 p c hc)).2
  refine fin ⟨some w.heap.size,l.length + 1,cap,fun p=>if p=l.length then mm else m p⟩ _ A7 (by simp) ⟨rfl,rfl,rfl⟩ (fun k hk _=>hp k hk) (fun b hb=>?_) (fun β' dF _ hk=>?_)
  ·rcases hb with hb|⟨p,hb⟩
   ·have:b=w.heap.size:=by simpa using hb.symm
    subst this
    exact ⟨by simp,.inr (Nat.le_refl _)⟩
   ·have e3:b < w.heap.size/\∃ c ∈ id :: cons,S.row c ≠ .none/\o7 β c b:=by
     by_cases ep:p=l.length
     ·simp only [ep,if_true] at hb
      obtain ⟨r,r1,r2,r3⟩:=CD b hb
      exact ⟨mlt b hb,r,List.mem_cons_of_mem _ r1,r2,r3⟩
     ·simp only [ep,if_false] at hb
      exact ⟨Hr p b hb,id,by simp,v5,e9 p b hb⟩
    exact ⟨by simp;omega,.inl e3.2⟩
  ·obtain ⟨v1,v2⟩:=gR (n:=l.length) (m:=1) (sz:=sz) (go:=go) (gn:=gn) (rest:=(Builtin.zeroCells zv.cells (cap - (l.length + 1))).toList) (vs:=(n7 go l.length sz).toArray++(n7 gn 1 sz).toArray++Builtin.zeroCells zv.cells (cap - (l.length + 1))) (by simp)
   refine jf (m:=m) (go:=go) (gn:=gn 0) (cs:=cs.map I2) hk iV dF (heap_alloc_new w.drew _) hc rD ?_ v1 (fun q vZ=>by have:=v2 0 q (by omega) vZ; simpa using this) e6 e7 Eh e8 (fun p c hc=>⟨Nat.ne_of_lt (Hr p c hc),hp c (Hr p c hc)⟩) l6 Gq l7
    (fun c hc=>⟨Nat.ne_of_lt (mlt c hc),hp c (mlt c hc),fun p h=>Hq c hc (e9 p c h)⟩)
   simp only [Array.size_append,List.size_toArray,n6,O1,CA,<- C1,<- Nat.add_mul]
   congr 1;omega
 have Mk:∀ (g:Nat->Nat->Value),n7 g 0 sz=[]:=fun g=>by simp [n7]
 rcases cV with ⟨ak,n1,n2,n3⟩|⟨b,vs,g1,g2,g3,g4,g5,g6,g7,g8,g9⟩
 ·have nc:a.eval s = .slice none 0 0:=by rw [cW,n1,n2,dX,ak];rfl
  have pk:=run_append_nil (P:=P) w t o.type e i zv hu hi kW ⟨bq,0,none⟩ 1 wP.cap (n7 gn 1 sz) (by rw [n6,C1]) (D0 EL) (by omega) (by omega)
   (by rw [ak] at mX;simp only [List.length_nil,Nat.zero_add] at mX;omega)
  refine fresh (fun _ _=>undef) bd (grownCap w 1 0 e) ?_ ?_ (fun p q hp=>by simp [ak] at hp) (fun p hp=>by simp [ak] at hp) (fun _ _=>rfl) (fun i k c hc=>by cases hc) (fun p c hc=>by cases hc) ?_
  ·rw [ak];exact grownCap_ge w 1 0 e
  ·exact grownCap_le_maxLen w 1 0 e (by simp only [maxLen];omega)
  ·rw [nc,kQ,pk]
   simp [ak,n7]
 ·have nc:a.eval s = .slice (some ⟨b,0,none⟩) l.length Q9.cap:=by rw [cW,g1,dX];rfl
  let go:Nat->Nat->Value:=fun p q=>vs.getD (p * sz + q) undef
  have bm:∀ p q,p < l.length->q < sz->w.cell? ⟨b,0 + p * sz + q,none⟩=some (go p q):=fun p q hp vZ=>by
   rw [Nat.zero_add]
   exact A6 g2 (by rw [g5];exact u1 (Nat.lt_of_lt_of_le hp g3) vZ)
  have e7:∀ p,p < l.length->bS w F5 (Q9.m p) (some (ys (l.getD p d0))) (go p j0):=fun p hp=>by
   have:=g7 p
   rwa [dz,if_pos ⟨hp,by simp⟩] at this
  have Eh:∀ p,l.length<=p->Q9.m p=(none,0,0):=fun p hp=>by
   have:=g7 p
   rw [dz,if_neg (fun h=>by omega)] at this
   exact this
  have e9:∀ p c,(Q9.m p).1=some c->o7 β id c:=fun p c hc=>by rw [o7,hβ];exact N5 hc
  by_cases P1:l.length + 1<=Q9.cap
  ·have dC:l.length * i.size + (n7 gn 1 sz).length<=vs.size:=by
    rw [n6,g5,<- C1,<- Nat.add_mul];exact Nat.mul_le_mul_right _ P1
   have pk:=run_append_room (P:=P) w t o.type e i hu hi b l.length Q9.cap vs g2 ⟨bq,0,none⟩ 1 wP.cap (n7 gn 1 sz) (by rw [n6,C1]) (D0 EL) CE P1 dC
   obtain ⟨f1,f2,f3⟩:=E8 b vs (vs.toList.take (l.length * i.size)++n7 gn 1 sz++vs.toList.drop (l.length * i.size + (n7 gn 1 sz).length)).toArray e (0,0) g2
   have zJ:o7 β id b:=by rw [o7,hβ];exact w8 g1
   have iX:n7 go l.length sz=vs.toList.take (l.length * sz):=by
    apply List.ext_getElem?
    intro k
    by_cases hk:k < l.length * sz
    ·have h1:k / sz < l.length:=(Nat.div_lt_iff_lt_mul (by omega)).2 hk
     have h2:k % sz < sz:=Nat.mod_lt _ (by omega)
     have he:k=k / sz * sz + k % sz:=by rw [Nat.mul_comm];exact (Nat.div_add_mod k sz).symm
     have h3:=M4 (g:=go) h1 h2
     rw [<- he] at h3
     have u2:k < vs.size:=by
      have:l.length * sz<=Q9.cap * sz:=Nat.mul_le_mul_right _ g3
      omega
     have h4:go (k / sz) (k % sz)=vs.getD k undef:=by show vs.getD (k / sz * sz + k % sz) undef=_;rw [<- he]
     rw [h3,h4,List.getElem?_take_of_lt hk]
     simp [u2]
    ·rw [List.getElem?_eq_none (by rw [n6];omega),List.getElem?_eq_none (by rw [List.length_take];omega)]
   refine fin ⟨some b,l.length + 1,Q9.cap,fun p=>if p=l.length then mm else Q9.m p⟩ _ (by rw [nc,kQ];exact pk) (by rw [f1.2.2.2];exact Nat.le_refl _) ⟨f1.1,f1.2.1,f1.2.2.1⟩ (fun k hk hn=>f2 k fun ek=>?_) (fun b' X0=>?_) (fun β' dF _ hk=>?_)
   ·subst ek;exact hn id (by simp) v5 zJ
   ·rw [f1.2.2.2]
    rcases X0 with X0|⟨p,X0⟩
    ·have:b=b':=by simpa using X0
     subst this
     exact ⟨(hR.bB id b zJ).2,.inl ⟨id,by simp,v5,zJ⟩⟩
    ·by_cases ep:p=l.length
     ·simp only [ep,if_true] at X0
      obtain ⟨r,r1,r2,r3⟩:=CD b' X0
      exact ⟨mlt b' X0,.inl ⟨r,List.mem_cons_of_mem _ r1,r2,r3⟩⟩
     ·simp only [ep,if_false] at X0
      exact ⟨(hR.bB id b' (e9 p b' X0)).2,.inl ⟨id,by simp,v5,e9 p b' X0⟩⟩
   ·obtain ⟨v1,v2⟩:=gR (n:=l.length) (m:=1) (sz:=sz) (go:=go) (gn:=gn) (rest:=vs.toList.drop (l.length * i.size + (n7 gn 1 sz).length)) (vs:=(vs.toList.take (l.length * i.size)++n7 gn 1 sz++vs.toList.drop (l.length * i.size + (n7 gn 1 sz).length)).toArray) (by rw [iX,C1])
    refine jf (m:=Q9.m) (go:=go) (gn:=gn 0) (cs:=cs.map I2) hk iV dF f3 P1 g4 ?_ v1 (fun q vZ=>by have:=v2 0 q (by omega) vZ; simpa using this) g6 e7 Eh g8 (fun p c hc=>⟨g9 p c hc,f2 c (g9 p c hc)⟩) l6 Gq l7
     (fun c hc=>?_)
    ·simp only [List.size_toArray,List.length_append,List.length_take,List.length_drop,Array.length_toList]
     rw [<- g5];omega
    ·have:c≠b:=fun ec=>Hq c hc (ec ▸ zJ)
     exact ⟨this,f2 c this,fun p h=>Hq c hc (e9 p c h)⟩
  ·have pk:=run_append_grow (P:=P) w t o.type e i zv hu hi kW ⟨b,0,none⟩ l.length Q9.cap (n7 go l.length sz) (by rw [n6,C1]) (D0 bm) ⟨bq,0,none⟩ 1 wP.cap (n7 gn 1 sz)
    (by rw [n6,C1]) (D0 EL) (by omega) (by omega) (growslice_fits (by omega) (by omega))
   refine fresh go Q9.m (grownCap w (l.length + 1) Q9.cap e) (grownCap_ge w _ _ e) (grownCap_le_maxLen w _ _ e zH) g6 e7 Eh g8 e9 ?_
   rw [nc,kQ,pk]
theorem jg (hR:Rel B w0 F0 S β F a w) {o:Oper} {t e:TypeId} {x ix:Operand} (ho:o.op = .indexAddr t x ix) (hu:P.underlying t=some (.slice e)) {inf:TypeInfo} (hi:P.info? e=some inf) {k:IntKind} {n:Int} (hn:S.get ix = .int k n) {y:AV} {b len cap:Nat}
  (hv:a.eval x = .slice (some ⟨b,0,none⟩) len cap) (h0:0<=n) (h1:n < (len:Nat)) (hy:v7 β F w y (.pointer (some ⟨b,n.toNat * inf.size,none⟩))) {K:Out->List Nat->Prop} {rd:List Nat} (hK:K ⟨y,[]⟩ rd) {Q:Exit->Act->World->Prop}:o.wp P a w (s7 B w0 F0 S β o.dst K) Q:=by
 have zX:=hR.get ix
 rw [hn] at zX
 have C9:execOp a.eval o=(do pure (.value (<- Instr.indexAt t (a.eval x) (a.eval ix)))):=by simp [execOp,ho]
 rw [zX.int_inv,hv] at C9
 refine C4 C9 (v := .pointer (some ⟨b,n.toNat * inf.size,none⟩)) (w':=w) ?_ (s7.still hR hy hK)
 simp [Instr.indexAt,run_underlying hu,asIntOf,h0,h1,sizeOf,typeInfo,hi,G0]
theorem pn (hR:Rel B w0 F0 S β F a w) {o:Oper} {c:Call} (ho:o.op = .call c) (hb:c.callee = .builtin .len) {x:Operand} {t e:TypeId} (hx:c.args.toList=[x]) (ht:c.argTypes.toList=[t]) (hu:P.underlying t=some (.slice e)) {p:Option Addr} {len cap:Nat}
  (hv:a.eval x = .slice p len cap) {K:Out->List Nat->Prop} {rd:List Nat} (hK:K ⟨.int .i64 len,[]⟩ rd) {Q:Exit->Act->World->Prop}:o.wp P a w (s7 B w0 F0 S β o.dst K) Q:=by
 have e1:=bK hx
 have e2:=bK ht
 have hs:∀ cs,builtin .len c.argTypes o.type cs (c.args.map a.eval)=(do pure (.value (<- Builtin.len_ #[t] o.type #[a.eval x]))):=fun cs=>by
  rw [e1,e2];simp [builtin]
 rw [hv] at hs
 refine D1 ho hb hs (v := .int .i64 len) (w':=w) ?_ (s7.still hR (.imm (.int _ _)) hK)
 simp [Builtin.len_,run_underlying hu,goInt]
theorem CF {e:Nat} {ty:TypeId} {α:Type} {sz:Nat} {d:α} {enc:α->List AV} {l:List α} (hr:s9 β F w e (.vec ty sz d enc l)) {v:Value} (hv:v7 β F w (.own e) v):p9 (fun b=>F b∨o7 β e b) w (.sl sz d enc l) v:=by
 obtain ⟨hd,hb,rfl⟩:=hv.own_inv
 obtain ⟨hd',e1,em,e2,e3⟩:=hr
 rw [hb] at e1
 cases e1
 rcases e3 with ⟨rfl,e4,e5⟩|⟨b,vs,e4,e5,e6,e7,e8,e9⟩
 ·simp only [List.length_nil] at e2
  rw [e2,e4,e5];exact .slnil
 ·rw [e2,e4]
  refine .sl (o:=0) (fun i j=>vs.getD (i * sz + j) undef) e6 (fun i j hi hj=>⟨.inr (by rw [o7,hb];exact w8 e4),?_⟩)
   (fun i j hi hj=>(e9 i j hi hj).mono (fun _ h => .inl h) (fun _ _ _ _ h=>h))
  have:=u1 (Nat.lt_of_lt_of_le hi e6) hj
  rw [Nat.zero_add]
  exact A6 e5 (by omega)
theorem eH (S:St) (e j:Nat):(⟨S.t,S.h.set e .none,S.n⟩:St).row j=if e=j then .none else S.row j:=by
 show (S.h.set e .none).getD j .none=_
 simp only [l9]
 by_cases ej:e=j
 ·subst ej
  by_cases hl:e < S.h.length
  ·simp [hl]
  ·simp [hl,St.row,List.getD,List.getElem?_eq_none (Nat.le_of_not_lt hl)]
 ·simp [ej,St.row]
theorem Rel.coin (hR:Rel B w0 F0 S β F a w) {e:Nat} (he:S.row e ≠ .none):Rel B w0 F0 ⟨S.t,S.h.set e .none,S.n⟩ β (fun b=>F b∨o7 β e b) a w:=by
  have live:∀ j,(⟨S.t,S.h.set e .none,S.n⟩:St).row j ≠ .none->e≠j/\S.row j ≠ .none:=fun j h=>by
    rw [eH] at h
    split at h
    · exact absurd rfl h
    · rename_i R9;exact ⟨R9,h⟩
  exact { len:=hR.len,slots:=fun i hi=>(hR.slots i hi).grow (fun _ _=>rfl) (fun _ h => .inl h) (y0.refl _ _),marks:=hR.marks,
          rows:=fun j=>by
            rw [eH]
            split
            · trivial
            · exact (hR.rows j).grow (fun _ _=>rfl) (fun _ h => .inl h) (y0.refl _ _) (fun _ _=>rfl)
          inj:=fun i j b hi hj=>hR.inj i j b (live i hi).2 (live j hj).2
          bF:=fun i b hi u9 h=>h.elim (hR.bF i b (live i hi).2 u9) fun h=>(live i hi).1 (hR.inj e i b he (live i hi).2 h u9)
          bB:=hR.bB
          FB:=fun b h=>h.elim (hR.FB b) fun h=>⟨(hR.bB e b h).2,.inr (hR.bB e b h).1⟩
          below:=hR.below,BW:=hR.BW,top:=hR.top,topn:=fun j hj=>hR.topn j hj,nn:=hR.nn,inc:=fun b hb => .inl (hR.inc b hb),keep:=hR.keep,sol:=hR.sol
          yl:=hR.ylOf (fun i=>i) (fun id l xs k e' h=>by rw [eH] at h;split at h;cases h;exact h) (fun _ _ _ _ h=>h) (fun i b hi hb=>⟨i,(live i hi).2,hb⟩) (fun b hb=>hb.elim .inl fun h => .inr ⟨e,he,h⟩) }
theorem uD (hR:Rel B w0 F0 S β F a w) {o:Oper} {t:TypeId} {x y:Operand} (ho:o.op = .store t x y) {id sz j off e:Nat} (hg:S.get x = .ptr id sz j off) (CG:S.get y = .own e)
  {ty:TypeId} {α:Type} {d:α} {enc:α->List AV} {zs:List α} (hr:S.row id = .vec ty sz d enc zs) {Jq:TypeId} {α1:Type} {zK:Nat} {d1:α1} {po:α1->List AV} {l1:List α1} (uE:S.row e = .vec Jq zK d1 po l1)
  {i:TypeInfo} (hi:P.info? t=some i) (Af:i.size=1) (hlen:(enc (zs.getD j d)).length=sz) (nd:off < sz) (R9:id≠e) {yy:α} (hy:enc yy=(enc (zs.getD j d)).set off (.sl zK d1 po l1)) (hj:j < zs.length)
  {K:Out->List Nat->Prop} {rd:List Nat} (hK:K ⟨.any,[(e,.none),(id,.vec ty sz d enc (zs.set j yy))]⟩ rd) {Q:Exit->Act->World->Prop}:o.wp P a w (s7 B w0 F0 S β o.dst K) Q:=by
 have he:S.row e ≠ .none:=by rw [uE];simp
 obtain ⟨c1,c2,c3⟩:=cells?_rep (hR.get y) (l:=[.own e]) (by rw [CG];rfl)
 simp only [List.length_cons,List.length_nil,Nat.zero_add] at c1 c2
 have cv:=c2 0 (by omega)
 simp only [List.getD_cons_zero] at cv
 obtain ⟨v0,cW⟩:∃ v0,(a.eval y).cells.toList=[v0]:=by
  match hh:(a.eval y).cells.toList,(by simp [c1]:(a.eval y).cells.toList.length=1) with
  | [v0],_=>exact ⟨v0,rfl⟩
 have Hs:(a.eval y).cells.getD 0 undef=v0:=by
  have:(a.eval y).cells=#[v0]:=by rw [<- Array.toArray_toList (xs:=(a.eval y).cells),cW]
  rw [this];rfl
 rw [Hs] at cv
 have uA:=CF (uE ▸ hR.rows e) cv
 have bn:=hR.coin he
 have ER:(⟨S.t,S.h.set e .none,S.n⟩:St).row id = .vec ty sz d enc zs:=by rw [eH,if_neg (fun h=>R9 h.symm)];exact hr
 have C9:execOp a.eval o=(do Instr.storeAt t (a.eval x) (a.eval y);pure .skip):=by simp [execOp,ho]
 have hx:=hR.get x
 rw [hg] at hx
 obtain ⟨hd,b,hb,hh,hv⟩:=hx.ptr_inv
 rw [hv] at C9
 have eA:o7 β id b:=by rw [o7,hb];exact w8 hh
 obtain ⟨dX,cV⟩:=Q5 bn ER hb
 rcases cV with ⟨h1,h2,_⟩|⟨b',vs,e1,e2,e3,e4,e5,e6⟩
 ·rw [h1] at hj;simp at hj
 rw [hh] at e1;cases e1
 have dC:j * sz + off + 1<=vs.size:=by
  have:=u1 (Nat.lt_of_lt_of_le hj e3) nd
  rw [e5];omega
 have A7:=X1 (P:=P) hi e2 (v:=a.eval y) (o:=j * sz + off) (by rw [c1,Af]) (by omega) c3
 obtain ⟨f1,f2,f3⟩:=E8 b vs (v8 vs (j * sz + off) (a.eval y).cells.toList) ty (0,0) e2
 refine bj C9 A7 ⟨_,_,hK,β,_,fun _ _=>rfl,bn.write (id:=id) (r := .vec ty sz d enc (zs.set j yy)) (by rw [ER];simp) eA f1 f2 (fun _ => .imm (.any _)) (fun hk=>?_) (fun _ _ _ _ h=>by cases h)⟩
 rw [cW] at hk f3 ⊢
 obtain ⟨_,q1,q2,_⟩:=ER ▸ bn.rows id
 rw [hb] at q1;cases q1
 refine ⟨hd,hb,q2,by rw [dX];simp,.inr ⟨b,_,hh,f3,by simpa using e3,e4,by rw [B2 (by simpa using dC)];exact e5,fun p q hp hq=>?_⟩⟩
 have fQ:p < zs.length:=by simpa using hp
 rw [A3 (by simpa using dC)]
 simp only [List.length_cons,List.length_nil,Nat.zero_add]
 by_cases wE:p=j
 ·subst wE
  have eg:(zs.set p yy).getD p d=yy:=by simp [List.getD,fQ]
  rw [eg,hy]
  by_cases zF:q=off
  ·subst zF
   have c:p * sz + q<=p * sz + q/\p * sz + q < p * sz + q + 1:=by omega
   rw [if_pos c]
   have e0:((enc (zs.getD p d)).set q (.sl zK d1 po l1)).getD q .any = .sl zK d1 po l1:=by
    rw [List.getD,List.getElem?_set_self (by rw [hlen];exact nd)];rfl
   rw [e0,Nat.sub_self]
   exact uA.mono (fun _ h=>h) hk
  ·have c:¬ (p * sz + off<=p * sz + q/\p * sz + q < p * sz + off + 1):=by omega
   rw [if_neg c]
   have e0:((enc (zs.getD p d)).set off (.sl zK d1 po l1)).getD q .any=(enc (zs.getD p d)).getD q .any:=by simp [List.getD,List.getElem?_set,Ne.symm zF]
   rw [e0]
   exact (e6 p q fQ hq).mono (fun _ h=>h) hk
 ·have eg:(zs.set j yy).getD p d=zs.getD p d:=by simp [List.getD,List.getElem?_set,Ne.symm wE]
  have c:¬ (j * sz + off<=p * sz + q/\p * sz + q < j * sz + off + 1):=by
   rcases Nat.lt_or_gt_of_ne wE with u2|kX
   ·have:=u1 u2 hq;omega
   ·have:(j + 1) * sz<=p * sz:=Nat.mul_le_mul_right sz kX
    rw [Nat.add_mul] at this
    omega
  rw [eg,if_neg c]
  exact (e6 p q fQ hq).mono (fun _ h=>h) hk
end
def aG (P:Program) (dst:Option Nat) (op:Op) (g:Operand->AV) (r:Nat->Row) (K:Out->List Nat->Prop):Prop :=
 match op with
 | .load t x=>match g x with
  | .ptr id sz j off=>match r id with
   | .nest _ oP j0 _ d enc _ ho l=>match P.info? t,P.underlying t with
    | some i,some dd=>match Nat.beq sz oP && Nat.beq (enc (l.getD j d)).length sz with
     | true=>match dh (Q3 dd) i.size (je id j j0 ho (enc (l.getD j d))) off with
      | some v=>j < l.length/\K ⟨v,[]⟩ [id]
      | none=>False
     | false=>False
    | _,_=>False
   | _=>o5 P dst op g r K
  | _=>o5 P dst op g r K
 | .indexAddr t x i=>match g x with
  | .own id=>match r id with
   | .nest _ sz _ _ _ _ _ _ l=>match g i,P.underlying t with
    | .int _ n,some (.slice e)=>match P.info? e with
     | some inf=>match Nat.beq sz inf.size with
      | true=>(0<=n/\n < l.length)/\K ⟨.ptr id sz n.toNat 0,[]⟩ [id]
      | false=>False
     | none=>False
    | _,_=>False
   | _=>o5 P dst op g r K
  | .mem id m=>match r id with
   | .nest _ _ _ _ d _ ys none l=>match g i,P.underlying t with
    | .int _ n,some (.slice e)=>match P.info? e with
     | some inf=>match Nat.beq 1 inf.size with
      | true=>(0<=n/\n < (ys (l.getD m d)).length)/\K ⟨.mptr id m n.toNat,[]⟩ [id]
      | false=>False
     | none=>False
    | _,_=>False
   | _=>o5 P dst op g r K
  | _=>o5 P dst op g r K
 | .call c=>match c.callee with
  | .builtin .len=>match c.args.toList,c.argTypes.toList with
   | [x],[t]=>match g x with
    | .own id=>match r id with
     | .nest _ _ _ _ _ _ _ _ l=>match P.underlying t with
      | some (.slice _)=>K ⟨.int .i64 l.length,[]⟩ [id]
      | _=>o5 P dst op g r K
     | _=>o5 P dst op g r K
    | .mem id m=>match r id with
     | .nest _ _ _ _ d _ ys none l=>match P.underlying t with
      | some (.slice _)=>K ⟨.int .i64 (ys (l.getD m d)).length,[]⟩ [id]
      | _=>o5 P dst op g r K
     | _=>o5 P dst op g r K
    | _=>o5 P dst op g r K
   | _,_=>o5 P dst op g r K
  | .builtin .append=>match c.args.toList,c.argTypes.toList with
   | [s,x],[t,t']=>match g s with
    | .own id=>match r id with
     | .nest ty sz j0 F5 d0 enc ys none l=>match dst,P.underlying t,g x with
      | some d,some (.slice e),.own q=>match P.info? e,V1 P e,r q with
       | some i,some z,.lit _ Ht [cs]=>match Nat.beq t t' && (Nat.beq z.length i.size && (Nat.blt 0 i.size && (Nat.beq ty e && (Nat.beq sz i.size && (Nat.beq Ht sz && (Nat.beq cs.length sz && (Nat.blt j0 sz && (T0 cs && B4 (cs.set j0 .any))))))))) with
        | true=>match cs.getD j0 .any with
         | .own m=>∃ (zs:List Int) (y:_),(r m = .vec F5 1 0 R6 zs/\ys y=zs/\(enc y).set j0 .any=(cs.set j0 .any).map I2/\(l.length + 1) * i.bytes<=1099511627776/\l.length + 1<=1099511627776) /\
           K ⟨.own d,[(id,.none),(m,.none),(d,.nest ty sz j0 F5 d0 enc ys none (l++[y]))]⟩ [id,q,m]
         | .nils=>∃ y,(ys y=[]/\(enc y).set j0 .any=(cs.set j0 .any).map I2/\(l.length + 1) * i.bytes<=1099511627776/\l.length + 1<=1099511627776) /\
           K ⟨.own d,[(id,.none),(d,.nest ty sz j0 F5 d0 enc ys none (l++[y]))]⟩ [id,q]
         | _=>False
        | false=>False
       | _,_,_=>False
      | _,_,_=>False
     | _=>o5 P dst op g r K
    | _=>o5 P dst op g r K
   | _,_=>o5 P dst op g r K
  | _=>o5 P dst op g r K
 | .store t x y=>match g x with
  | .ptr id sz j off=>match g y with
   | .own e=>match r id with
    | .vec ty oP d enc zs=>match r e with
     | .vec _ zK d1 po l1=>match P.info? t with
      | some i=>match Nat.beq i.size 1 && (Nat.beq sz oP && (Nat.beq (enc (zs.getD j d)).length sz && (Nat.blt off sz && !Nat.beq id e))) with
       | true=>∃ yy,(enc yy=(enc (zs.getD j d)).set off (.sl zK d1 po l1)/\j < zs.length)/\K ⟨.any,[(e,.none),(id,.vec ty sz d enc (zs.set j yy))]⟩ [id,e]
       | false=>False
      | none=>False
     | _=>o5 P dst op g r K
    | _=>o5 P dst op g r K
   | _=>o5 P dst op g r K
  | _=>o5 P dst op g r K
 | _=>o5 P dst op g r K
theorem pq {P:Program} {dst:Option Nat} {op:Op} {g:Operand->AV} {r:Nat->Row} {K:Out->List Nat->Prop} (h:o5 P dst op g r K):aG P dst op g r K:=by
 unfold aG
 split
 ·split
  ·rename_i hg
   split
   ·rename_i hr
    exfalso
    simp only [o5,hg,hr] at h
    split at h<;>exact h
   ·exact h
  ·exact h
 ·split
  ·rename_i hg
   split
   ·rename_i hr
    exfalso
    simp only [o5,hg,hr] at h
    repeat' split at h
    all_goals first|exact h|(obtain ⟨_,h⟩:=(y7 _ _ _).1 h;exact h)
   ·exact h
  ·rename_i hg
   split
   ·rename_i hr
    exfalso
    simp only [o5,hg] at h
    repeat' split at h
    all_goals first|exact h|(obtain ⟨_,h⟩:=(y7 _ _ _).1 h;exact h)
   ·exact h
  ·exact h
 ·split
  ·rename_i hb
   split
   ·rename_i hx ht
    split
    ·rename_i hg
     split
     ·rename_i hr
      split
      ·rename_i hu
       exfalso
       simp only [o5,hb,hx,ht,hg,hr,hu] at h
      ·exact h
     ·exact h
    ·rename_i hg
     split
     ·rename_i hr
      split
      ·rename_i hu
       exfalso
       simp only [o5,hb,hx,ht,hg,hu] at h
      ·exact h
     ·exact h
    ·exact h
   ·exact h
  ·rename_i hb
   split
   ·rename_i hx ht
    split
    ·rename_i hg
     split
     ·rename_i hr
      exfalso
      simp only [o5,hb,hx,ht,hg,hr] at h
      repeat' split at h
      all_goals first|exact h|(obtain ⟨D,l',_,hD,_⟩:=h;simp only [iW,hr] at hD)
     ·exact h
    ·exact h
   ·exact h
  ·exact h
 ·split
  ·rename_i hg
   split
   ·rename_i CG
    split
    ·rename_i hr
     split
     ·rename_i uE
      exfalso
      simp only [o5,hg,CG,hr,AV.cells?,B4,AV.closed,Bool.false_and] at h
      repeat' split at h
      all_goals exact h
     ·exact h
    ·exact h
   ·exact h
  ·exact h
 ·exact h
section
variable {P:Program} {B:Nat->Prop} {w0:World} {F0:Env P} {S:St} {β:Nat->Option Hd} {F:Nat->Prop} {a:Act} {w:World}
theorem tf (hR:Rel B w0 F0 S β F a w) {o:Oper} (u5:N2 o.op=true->∀ d,o.dst=some d->β d=none) {K:Out->List Nat->Prop} (h:aG P o.dst o.op S.get S.row K) {Q:Exit->Act->World->Prop} :
  o.wp P a w (s7 B w0 F0 S β o.dst K) Q:=by
 have hE:=fun h=>wM (P:=P) hR u5 (K:=K) (Q:=Q) h
 unfold aG at h
 split at h
 ·rename_i t x ho
  split at h
  ·rename_i id sz j off hg
   split at h
   ·rename_i hr
    split at h
    ·rename_i i dd hi hu
     split at h
     ·rename_i hc
      simp only [Bool.and_eq_true] at hc
      split at h
      ·rename_i v hl
       exact uC hR ho hg hr hi hu (Nat.eq_of_beq_eq_true hc.1) (Nat.eq_of_beq_eq_true hc.2) hl h.1 h.2
      ·exact h.elim
     ·exact h.elim
    ·exact h.elim
   ·exact hE h
  ·exact hE h
 ·rename_i t x ix ho
  have hx:=hR.get x
  split at h
  ·rename_i id hg
   rw [hg] at hx
   split at h
   ·rename_i hr
    split at h
    ·rename_i k n e hn hu
     split at h
     ·rename_i inf hi
      split at h
      ·rename_i C1
       have C1:=Nat.eq_of_beq_eq_true C1
       obtain ⟨⟨h0,h1⟩,hK⟩:=h
       obtain ⟨hd,hb,hv⟩:=hx.own_inv
       obtain ⟨dX,cV⟩:=N6 hR hr hb
       rcases cV with ⟨h2,_⟩|⟨b,vs,e1,_⟩
       ·rw [h2] at h1;simp at h1;omega
       ·rw [e1] at hv
        refine jg hR ho hu hi hn hv h0 (by omega) ?_ hK
        rw [<- C1]
        exact v7.ptr hb e1
      ·exact h.elim
     ·exact h.elim
    ·exact h.elim
   ·exact hE h
  ·rename_i id m hg
   rw [hg] at hx
   split at h
   ·rename_i hr
    split at h
    ·rename_i k n e hn hu
     split at h
     ·rename_i inf hi
      split at h
      ·rename_i C1
       have C1:=Nat.eq_of_beq_eq_true C1
       obtain ⟨⟨h0,h1⟩,hK⟩:=h
       obtain ⟨hd,hb,fK,hv⟩:∃ hd,β id=some hd/\m < hd.len/\a.eval x = .slice ((hd.m m).1.map fun b=>⟨b,0,none⟩) (hd.m m).2.1 (hd.m m).2.2:=by
        generalize a.eval x=v at hx
        cases hx with
        | imm h=>cases h
        | mem hb hi=>exact ⟨_,hb,hi,rfl⟩
       obtain ⟨dX,cV⟩:=N6 hR hr hb
       rcases cV with ⟨h2,_⟩|⟨b,vs,e1,e2,e3,e4,e5,e6,e7,e8,e9⟩
       ·rw [dX,h2] at fK;simp at fK
       ·have hm:=e7 m
        rw [dz,if_pos ⟨by omega,by simp⟩] at hm
        obtain ⟨m1,m2,m3⟩:=hm
        rcases m3 with ⟨m4,_⟩|⟨c',us,m4,m5,m6,m7,m8,m9⟩
        ·rw [m4] at h1;simp at h1;omega
        ·rw [m4] at hv
         refine jg hR ho hu hi hn hv h0 (by omega) ?_ hK
         rw [<- C1,Nat.mul_one]
         exact v7.mptr hb m4 fK (by omega)
      ·exact h.elim
     ·exact h.elim
    ·exact h.elim
   ·exact hE h
  ·exact hE h
 ·rename_i c ho
  split at h
  ·rename_i hb
   split at h
   ·rename_i x t hx ht
    have V4:=hR.get x
    split at h
    ·rename_i id hg
     rw [hg] at V4
     split at h
     ·rename_i hr
      split at h
      ·rename_i e hu
       obtain ⟨hd,X0,hv⟩:=V4.own_inv
       obtain ⟨dX,_⟩:=N6 hR hr X0
       rw [dX] at hv
       exact pn hR ho hb hx ht hu hv h
      ·exact hE h
     ·exact hE h
    ·rename_i id m hg
     rw [hg] at V4
     split at h
     ·rename_i hr
      split at h
      ·rename_i e hu
       obtain ⟨hd,X0,fK,hv⟩:∃ hd,β id=some hd/\m < hd.len/\a.eval x = .slice ((hd.m m).1.map fun b=>⟨b,0,none⟩) (hd.m m).2.1 (hd.m m).2.2:=by
        generalize a.eval x=v at V4
        cases V4 with
        | imm h=>cases h
        | mem hb hi=>exact ⟨_,hb,hi,rfl⟩
       obtain ⟨dX,cV⟩:=N6 hR hr X0
       rcases cV with ⟨h2,_⟩|⟨b,vs,e1,e2,e3,e4,e5,e6,e7,e8,e9⟩
       ·rw [dX,h2] at fK;simp at fK
       ·have hm:=e7 m
        rw [dz,if_pos ⟨by omega,by simp⟩] at hm
        rw [hm.2.1] at hv
        exact pn hR ho hb hx ht hu hv h
      ·exact hE h
     ·exact hE h
    ·exact hE h
   ·exact hE h
  ·rename_i hb
   split at h
   ·rename_i s x t t' pf uy
    split at h
    ·rename_i id wO
     split at h
     ·rename_i hr
      split at h
      ·rename_i d e q hd hu fR
       split at h
       ·rename_i i z CC Ht cs hi hz hq
        split at h
        ·rename_i hc
         simp only [Bool.and_eq_true] at hc
         obtain ⟨c1,c2,c3,c4,c5,c6,c7,c8,c9,Jr⟩:=hc
         have c1:=Nat.eq_of_beq_eq_true c1
         have c2:=Nat.eq_of_beq_eq_true c2
         have c3:=Nat.lt_of_lt_of_le (Nat.lt_succ_self _) (Nat.le_of_ble_eq_true c3)
         have c4:=Nat.eq_of_beq_eq_true c4
         have c5:=Nat.eq_of_beq_eq_true c5
         have c6:=Nat.eq_of_beq_eq_true c6
         have c7:=Nat.eq_of_beq_eq_true c7
         have c8:=Nat.lt_of_lt_of_le (Nat.lt_succ_self _) (Nat.le_of_ble_eq_true c8)
         subst c1;subst c4;subst c6
         have fd:=u5 (by simp [ho,N2,hb]) d hd
         split at h
         ·rename_i m hm
          obtain ⟨zs,y,⟨q1,q2,q3,q4,q5⟩,hK⟩:=h
          have ES:S.row m ≠ .none:=by rw [q1];simp
          obtain ⟨Gr,Hu⟩:=(hR.rows m).some ES
          obtain ⟨l1,l2⟩:=Q5 hR q1 Hu
          refine gT hR ho hb pf uy hd fd hu wO fR hr hi hz hq c2 c3 c5 c7 c8 c9 Jr q3 q4 q5 (cons:=[m]) (mm:=(Gr.b,Gr.len,Gr.cap)) (fun h=>?_) (fun v hv=>?_) (fun b hb=>⟨m,by simp,ES,by rw [o7,Hu];exact w8 hb⟩) hK
          ·have:_=m:=List.mem_singleton.1 h
           subst this;rw [hr] at q1;cases q1
          ·rw [hm] at hv
           obtain ⟨iC,X0,cV⟩:=hv.own_inv
           rw [Hu] at X0;cases X0
           rw [q2]
           exact gQ l1 l2 cV
         ·rename_i hm
          obtain ⟨y,⟨q2,q3,q4,q5⟩,hK⟩:=h
          refine gT hR ho hb pf uy hd fd hu wO fR hr hi hz hq c2 c3 c5 c7 c8 c9 Jr q3 q4 q5 (cons:=[]) (mm:=(none,0,0)) (by simp) (fun v hv=>?_) (fun b hb=>by cases hb) hK
          rw [hm] at hv
          rw [hv.nils_inv,q2]
          exact ⟨rfl,rfl,.inl ⟨rfl,rfl,rfl⟩⟩
         ·exact h.elim
        ·exact h.elim
       ·exact h.elim
      ·exact h.elim
     ·exact hE h
    ·exact hE h
   ·exact hE h
  ·exact hE h
 ·rename_i t x y ho
  split at h
  ·rename_i id sz j off hg
   split at h
   ·rename_i e CG
    split at h
    ·rename_i α ty oP d enc zs hr
     split at h
     ·rename_i α1 Jq zK d1 po l1 uE
      split at h
      ·rename_i i hi
       split at h
       ·rename_i hc
        simp only [Bool.and_eq_true,Bool.not_eq_true'] at hc
        obtain ⟨k1,k2,k3,k4,k5⟩:=hc
        obtain ⟨yy,⟨hy,hj⟩,hK⟩:=h
        have e0:=Nat.eq_of_beq_eq_true k2
        subst e0
        exact uD hR ho hg CG hr uE hi (Nat.eq_of_beq_eq_true k1) (Nat.eq_of_beq_eq_true k3) (Nat.lt_of_succ_le (Nat.le_of_ble_eq_true k4)) (fun h=>by subst h;simp at k5) hy hj hK
       ·exact h.elim
      ·exact h.elim
     ·exact hE h
    ·exact hE h
   ·exact hE h
  ·exact hE h
 ·exact hE h
theorem fS {dst:Option Nat} {op:Op} {g:Operand->AV} {r:Nat->Row} {K:Out->List Nat->Prop} (h:aG P dst op g r K) :
  ∃ out rd,K out rd/\∀ g' r',(∀ x ∈ x8 op,g' x=g x)->(∀ i ∈ rd,r' i=r i)->aG P dst op g' r' (fun o d=>o=out/\d=rd):=by
 have hE:o5 P dst op g r K->∃ out rd,K out rd/\∀ g' r',(∀ x ∈ x8 op,g' x=g x)->(∀ i ∈ rd,r' i=r i)->aG P dst op g' r' (fun o d=>o=out/\d=rd):=fun h=>by
  obtain ⟨out,rd,h1,h2⟩:=rF h
  exact ⟨out,rd,h1,fun g' r' hg hr=>pq (h2 g' r' hg hr)⟩
 have h0:=h
 unfold aG at h
 split at h
 ·rename_i t x
  have e:∀ g':Operand->AV,(∀ z ∈ x8 (.load t x),g' z=g z)->g' x=g x:=fun g' hg=>hg _ (by simp [x8,Op.operands])
  split at h
  ·rename_i id sz j off fT
   split at h
   ·rename_i rl
    split at h
    ·rename_i i dd hi hu
     split at h
     ·rename_i hc
      split at h
      ·rename_i v hl
       exact ⟨_,_,h.2,fun g' r' hg hr=>by simp only [aG,e g' hg,fT,hr _ (List.mem_singleton.2 rfl),rl,hi,hu,hc,hl];exact ⟨h.1,trivial,trivial⟩⟩
      ·exact h.elim
     ·exact h.elim
    ·exact h.elim
   ·exact hE h
  ·exact hE h
 ·rename_i t x ix
  have e:∀ g':Operand->AV,(∀ z ∈ x8 (.indexAddr t x ix),g' z=g z)->g' x=g x/\g' ix=g ix:=fun g' hg=>⟨hg _ (by simp [x8,Op.operands]),hg _ (by simp [x8,Op.operands])⟩
  split at h
  ·rename_i id fT
   split at h
   ·rename_i rl
    split at h
    ·rename_i k n e' hn hu
     split at h
     ·rename_i inf hi
      split at h
      ·rename_i C1
       exact ⟨_,_,h.2,fun g' r' hg hr=>by simp only [aG,(e g' hg).1,(e g' hg).2,fT,hr _ (List.mem_singleton.2 rfl),rl,hn,hi,hu,C1];exact ⟨h.1,trivial,trivial⟩⟩
      ·exact h.elim
     ·exact h.elim
    ·exact h.elim
   ·exact hE h
  ·rename_i id m fT
   split at h
   ·rename_i rl
    split at h
    ·rename_i k n e' hn hu
     split at h
     ·rename_i inf hi
      split at h
      ·rename_i C1
       exact ⟨_,_,h.2,fun g' r' hg hr=>by simp only [aG,(e g' hg).1,(e g' hg).2,fT,hr _ (List.mem_singleton.2 rfl),rl,hn,hi,hu,C1];exact ⟨h.1,trivial,trivial⟩⟩
      ·exact h.elim
     ·exact h.elim
    ·exact h.elim
   ·exact hE h
  ·exact hE h
 ·rename_i c
  have bL:∀ g':Operand->AV,(∀ z ∈ x8 (.call c),g' z=g z)->∀ x ∈ c.args.toList,g' x=g x:=fun g' hg x hx=>hg x (by simp only [x8,Op.operands,Call.operands,Array.toList_append];exact List.mem_append_right _ hx)
  split at h
  ·rename_i hb
   split at h
   ·rename_i x t hx ht
    have ex:∀ g':Operand->AV,(∀ z ∈ x8 (.call c),g' z=g z)->g' x=g x:=fun g' hg=>bL g' hg x (by rw [hx];simp)
    split at h
    ·rename_i id fT
     split at h
     ·rename_i rl
      split at h
      ·rename_i e' hu
       exact ⟨_,_,h,fun g' r' hg hr=>by simp only [aG,hb,hx,ht,ex g' hg,fT,hr _ (List.mem_singleton.2 rfl),rl,hu];exact ⟨trivial,trivial⟩⟩
      ·exact hE h
     ·exact hE h
    ·rename_i id m fT
     split at h
     ·rename_i rl
      split at h
      ·rename_i e' hu
       exact ⟨_,_,h,fun g' r' hg hr=>by simp only [aG,hb,hx,ht,ex g' hg,fT,hr _ (List.mem_singleton.2 rfl),rl,hu];exact ⟨trivial,trivial⟩⟩
      ·exact hE h
     ·exact hE h
    ·exact hE h
   ·exact hE h
  ·rename_i hb
   split at h
   ·rename_i s x t t' pf uy
    have es:∀ g':Operand->AV,(∀ z ∈ x8 (.call c),g' z=g z)->g' s=g s:=fun g' hg=>bL g' hg s (by rw [pf];simp)
    have ex:∀ g':Operand->AV,(∀ z ∈ x8 (.call c),g' z=g z)->g' x=g x:=fun g' hg=>bL g' hg x (by rw [pf];simp)
    split at h
    ·rename_i id wO
     split at h
     ·rename_i rl
      split at h
      ·rename_i d e' q hu fR
       split at h
       ·rename_i i z CC Ht cs hi hz hq
        split at h
        ·rename_i hc
         split at h
         ·rename_i m hm
          obtain ⟨zs,y,⟨q1,q2,q3,q4,q5⟩,hK⟩:=h
          refine ⟨_,_,hK,fun g' r' hg hr=>?_⟩
          simp only [aG,hb,pf,uy,es g' hg,ex g' hg,wO,fR,hr id (by simp),hr q (by simp),hr m (by simp),rl,hu,hi,hz,hq,hc,hm]
          exact ⟨zs,y,⟨q1,q2,q3,q4,q5⟩,rfl,trivial⟩
         ·rename_i hm
          obtain ⟨y,⟨q2,q3,q4,q5⟩,hK⟩:=h
          refine ⟨_,_,hK,fun g' r' hg hr=>?_⟩
          simp only [aG,hb,pf,uy,es g' hg,ex g' hg,wO,fR,hr id (by simp),hr q (by simp),rl,hu,hi,hz,hq,hc,hm]
          exact ⟨y,⟨q2,q3,q4,q5⟩,rfl,trivial⟩
         ·exact h.elim
        ·exact h.elim
       ·exact h.elim
      ·exact h.elim
     ·exact hE h
    ·exact hE h
   ·exact hE h
  ·exact hE h
 ·rename_i t x y
  have e:∀ g':Operand->AV,(∀ z ∈ x8 (.store t x y),g' z=g z)->g' x=g x/\g' y=g y:=fun g' hg=>⟨hg _ (by simp [x8,Op.operands]),hg _ (by simp [x8,Op.operands])⟩
  split at h
  ·rename_i id sz j off fT
   split at h
   ·rename_i en CG
    split at h
    ·rename_i rl
     split at h
     ·rename_i uE
      split at h
      ·rename_i i hi
       split at h
       ·rename_i hc
        obtain ⟨yy,q,hK⟩:=h
        refine ⟨_,_,hK,fun g' r' hg hr=>?_⟩
        simp only [aG,(e g' hg).1,(e g' hg).2,fT,CG,hr id (by simp),hr en (by simp),rl,uE,hi,hc]
        exact ⟨yy,q,rfl,trivial⟩
       ·exact h.elim
      ·exact h.elim
     ·exact hE h
    ·exact hE h
   ·exact hE h
  ·exact hE h
 ·exact hE h
end
/- Regions: in the order of the text, and in any order. A helper text: it speaks of no program. -/
section
variable {P:Program} {B:Nat->Prop} {w0:World} {F0:Env P} {S:St} {β:Nat->Option Hd} {F:Nat->Prop} {a:Act} {w:World} {ops:Array Oper}
def B3 (d:Nat) (x:AV):AV :=
 match x.names d with
 | true => .any
 | false=>x
def w7 (d:Nat):Row->Row
 | .none => .none
 | .cells ty cs => .cells ty (cs.map (B3 d))
 | .lit ty sz z7 => .lit ty sz (z7.map fun cs=>cs.map (B3 d))
 | .vec ty sz e enc l => .vec ty sz e enc l
 | .ctr l xs k e => .ctr l xs k e
 | .nest ty sz j0 F5 e enc ys ho l => .nest ty sz j0 F5 e enc ys ho l
 | .opq o => .opq o
def St.kill (S:St) (d:Nat):St:=⟨S.t.map (B3 d),(S.h.map (w7 d)).set d .none,S.n⟩
def St.kills (S:St):List Nat->St
 | []=>S
 | d :: l=>(S.kill d).kills l
theorem O5 {d:Nat} {β':Nat->Option Hd} (hβ:∀ j,j≠d->β' j=β j) {x:AV} {v:Value} (h:v7 β F w x v):v7 β' F w (B3 d x) v:=by
 unfold B3
 cases hn:x.names d with
 | true=>exact .imm (.any _)
 | false=>exact h.turn hβ hn
theorem E4 (d:Nat):B3 d .any = .any:=rfl
theorem aH (S:St) (d j:Nat):(S.kill d).row j=if j=d then .none else w7 d (S.row j):=by
 simp only [St.kill,St.row,l9,List.length_map]
 have hm:(S.h.map (w7 d)).getD j .none=w7 d (S.h.getD j .none):=by
  simp only [List.getD,List.getElem?_map]
  cases S.h[j]? <;> rfl
 rw [hm]
 by_cases h:j=d
 ·subst h
  by_cases hl:j < S.h.length
  ·simp [hl]
  ·have e:S.h.getD j .none = .none:=by simp [List.getD,List.getElem?_eq_none (Nat.le_of_not_lt hl)]
   rw [e];simp [w7]
 ·simp [h,Ne.symm h]
theorem bo {d:Nat} {r:Row} (h:w7 d r ≠ .none):r ≠ .none:=by rintro rfl;exact h rfl
theorem Rel.kill (hR:Rel B w0 F0 S β F a w) (d:Nat) (Q9:F0.β d=none):∃ β',β' d=none/\(∀ j,j≠d->β' j=β j)/\Rel B w0 F0 (S.kill d) β' F a w:=by
 let β':Nat->Option Hd:=fun j=>if j=d then none else β j
 have h2:∀ j,j≠d->β' j=β j:=fun j hj=>by simp [β',hj]
 have b2:∀ j b,o7 β' j b->j≠d/\o7 β j b:=fun j b h=>by
  by_cases e:j=d
  ·subst e;simp [o7,β'] at h
  ·exact ⟨e,by simpa [o7,β',e] using h⟩
 have live:∀ j,(S.kill d).row j ≠ .none->j≠d/\S.row j ≠ .none:=fun j h=>by
  rw [aH] at h
  by_cases e:j=d
  ·simp [e] at h
  ·rw [if_neg e] at h;exact ⟨e,bo h⟩
 refine ⟨β',by simp [β'],h2,?_⟩
 refine { len:=by simp [St.kill,hR.len],slots:=fun i hi=>?_,marks:=hR.marks,rows:=fun j=>?_,inj:=fun i j b hi hj u9 J5=>?_,bF:=fun i b hi u9=>?_,bB:=fun i b u9=>hR.bB i b (b2 i b u9).2,FB:=hR.FB,below:=hR.below,BW:=hR.BW,top:=fun j hd h=>(h2 j fun e=>by rw [e,Q9] at h;cases h).trans (hR.top j hd h),topn:=fun j hj=>hR.topn j (by simpa [St.kill,u3] using hj),nn:=hR.nn,inc:=hR.inc,keep:=hR.keep,sol:=hR.sol,yl:=hR.ylOf (fun i=>i) (fun id l xs k e h=>?_) (fun _ _ _ _ h=>h) (fun i b hi hb=>⟨i,(live i hi).2,(b2 i b hb).2⟩) (fun b hb => .inl hb) }
 ·simp only [St.kill,List.length_map] at hi ⊢
  rw [n4 _ (E4 d)]
  exact O5 h2 (hR.slots i hi)
 ·rw [aH]
  split
  ·trivial
  ·rename_i hj
   have:=hR.rows j
   cases hr:S.row j with
   | none=>trivial
   | ctr l xs k e =>
    rw [hr] at this
    obtain ⟨hd,e1,e2⟩:=this
    exact ⟨hd,(h2 j hj).trans e1,e2⟩
   | cells ty cs =>
    rw [hr] at this
    obtain ⟨hd,b,vs,e1,em,e2,e3,e4,e5⟩:=this
    exact ⟨hd,b,vs,(h2 j hj).trans e1,em,e2,e3,by simpa using e4,fun i hi=>by rw [n4 _ (E4 d)];exact O5 h2 (e5 i (by simpa using hi))⟩
   | lit ty sz z7 =>
    rw [hr] at this
    obtain ⟨hd,b,vs,e1,em,e2,e3,e4,e5,e6,e7,e8⟩:=this
    have hg:∀ i,(z7.map fun cs=>cs.map (B3 d)).getD i []=(z7.getD i []).map (B3 d):=by
     intro i;simp only [List.getD,List.getElem?_map];cases z7[i]? <;> simp
    exact ⟨hd,b,vs,(h2 j hj).trans e1,em,e2,e3,by simpa using e4,by simpa using e5,by simpa using e6,by simpa using e7,fun i k hi hk=>by
     rw [hg,n4 _ (E4 d)];exact O5 h2 (e8 i k (by simpa using hi) hk)⟩
   | vec ty sz e enc l =>
    rw [hr] at this
    obtain ⟨hd,e1,e2⟩:=this
    exact ⟨hd,(h2 j hj).trans e1,e2⟩
   | nest ty sz j0 F5 e enc ys ho l =>
    rw [hr] at this
    obtain ⟨hd,e1,e2⟩:=this
    exact ⟨hd,(h2 j hj).trans e1,e2⟩
   | opq o =>
    rw [hr] at this
    obtain ⟨hd,e1,e2⟩:=this
    exact ⟨hd,(h2 j hj).trans e1,e2⟩
 ·exact hR.inj i j b (live i hi).2 (live j hj).2 (b2 i b u9).2 (b2 j b J5).2
 ·exact hR.bF i b (live i hi).2 (b2 i b u9).2
 ·rw [aH] at h
  split at h
  ·cases h
  ·cases hr:S.row id<;>rw [hr] at h<;>simp [w7] at h
   simp [h]
theorem Rel.kills:∀ (l:List Nat) {S:St} {β:Nat->Option Hd},(∀ d ∈ l,F0.β d=none)->Rel B w0 F0 S β F a w->∃ β',(∀ d ∈ l,β' d=none)/\(∀ j,β j=none->β' j=none)/\Rel B w0 F0 (S.kills l) β' F a w
 | [],_,β,_,hR=>⟨β,by simp,fun _ h=>h,hR⟩
 | d :: l,S,β,Q9,hR=>by
  obtain ⟨β1,h1,h2,bn⟩:=hR.kill d (Q9 d (by simp))
  obtain ⟨β2,h3,h4,eJ⟩:=Rel.kills l (fun x hx=>Q9 x (by simp [hx])) bn
  refine ⟨β2,fun x hx=>?_,fun j hj=>?_,eJ⟩
  ·rcases List.mem_cons.1 hx with rfl|hx
   ·exact h4 _ h1
   ·exact h3 x hx
  ·by_cases e:j=d
   ·subst e;exact h4 _ h1
   ·exact h4 _ ((h2 j e).trans hj)
theorem p9.undef {F:Nat->Prop} {w:World}:p9 F w (.tup []) undef := .tup rfl fun i hi=>absurd hi (Nat.not_lt_zero i)
theorem v7.tup0_inv {v:Value} {l:List AV} (h:v7 β F w (.tup l) v):∃ vs,v = .tuple vs:=by
 cases h with
 | imm h=>cases h;exact ⟨_,rfl⟩
 | tup _ _=>exact ⟨_,rfl⟩
def gw (ops:Array Oper) (S:St) (o:Oper):Option Bool :=
 match o.guard with
 | none=>some true
 | some (j,want)=>match (ops[j]?).bind (·.dst) with
  | none=>none
  | some t=>match S.t.getD t .any with
   | .tt=>some (want == true)
   | .ff=>some (want == false)
   | .bool b=>some (b == want)
   | .tup []=>some false
   | _=>none
theorem X2 (hR:Rel B w0 F0 S β F a w) {o:Oper} {b:Bool} (h:gw ops S o=some b):Region.wanted o (yielded ops a.tmps)=b:=by
 unfold gw at h
 unfold Region.wanted
 cases hg:o.guard with
 | none=>simp [hg] at h;simp [h]
 | some p =>
  obtain ⟨j,want⟩:=p
  simp only [hg] at h ⊢
  cases hd:(ops[j]?).bind (·.dst) with
  | none=>simp [hd] at h
  | some t =>
   simp only [hd] at h
   have hs:=hR.get (.tmp t)
   have hv:∀ c,a.eval (.tmp t) = .bool c->yielded ops a.tmps j=some c:=fun c hc=>by
    have u2:t < a.tmps.size:=by
     rcases Nat.lt_or_ge t a.tmps.size with h' | h'
     ·exact h'
     ·simp [Act.eval,Array.getElem?_eq_none h',undef] at hc
    have:a.tmps[t] = .bool c:=by simpa [Act.eval,u2] using hc
    simp [yielded,hd,u2,this]
   have ao:S.get (.tmp t)=S.t.getD t .any:=rfl
   rw [ao] at hs
   split at h
   ·rename_i e;rw [e] at hs
    rw [hv _ hs.tt_inv];simp only [Option.some.injEq] at h;subst h;cases want<;>rfl
   ·rename_i e;rw [e] at hs
    rw [hv _ hs.ff_inv];simp only [Option.some.injEq] at h;subst h;cases want<;>rfl
   ·rename_i c e;rw [e] at hs
    rw [hv _ hs.bool_inv];simp only [Option.some.injEq] at h;subst h;cases want<;>cases c<;>rfl
   ·rename_i e;rw [e] at hs
    simp only [Option.some.injEq] at h;subst h
    obtain ⟨vs,tc⟩:=hs.tup0_inv
    have:yielded ops a.tmps j=none:=by
     simp only [yielded,hd,Option.bind_some]
     by_cases u2:t < a.tmps.size
     ·have:a.tmps[t] = .tuple vs:=by simpa [Act.eval,u2] using tc
      simp [u2,this]
     ·simp [u2]
    rw [this];rfl
   ·cases h
inductive pv:AV->AV->Prop
 | same (x):pv x x
 | tt:pv (.bool true) .tt
 | ff:pv (.bool false) .ff
theorem pv.rep {x y:AV} {v:Value} (h:pv x y) (hx:v7 β F w x v):v7 β F w y v:=by
 cases h with
 | same=>exact hx
 | tt=>rw [hx.bool_inv];exact .imm .tt
 | ff=>rw [hx.bool_inv];exact .imm .ff
theorem Rel.fine {dst:Option Nat} {x y:AV} {rows:List (Nat×Row)} (h:Rel B w0 F0 (S.put dst ⟨x,rows⟩) β F a w) (hf:pv x y):Rel B w0 F0 (S.put dst ⟨y,rows⟩) β F a w where
 len:=by have:=h.len;simpa [St.put,L4] using this
 slots:=by
  intro i hi
  have:=h.slots i (by simpa [St.put,L4] using hi)
  simp only [St.put,P0] at this ⊢
  split
  ·rename_i hc;rw [if_pos hc] at this;exact hf.rep this
  ·rename_i hc;rw [if_neg hc] at this;exact this
 marks:=h.marks
 rows:=h.rows
 inj:=h.inj
 bF:=h.bF
 bB:=h.bB
 FB:=h.FB
 below:=h.below
 BW:=h.BW
 top:=h.top
 topn:=fun j hj=>h.topn j (by simpa [St.put,u3,L4] using hj)
 nn:=h.nn
 inc:=h.inc
 keep:=h.keep
 sol:=h.sol
 yl:=h.yl
theorem tg (S:St) (dst:Option Nat) (out:Out) (x:Operand) (h:∀ d,dst=some d->x ≠ .tmp d):(S.put dst out).get x=S.get x:=by
 cases x with
 | tmp t =>
  simp only [St.get,St.put,P0]
  rw [if_neg]
  rintro ⟨h1,_⟩
  exact h t h1 rfl
 | _=>rfl
theorem nf (h:List Row) (l:List (Nat×Row)) (i:Nat) (hi:i ∉ l.map (·.1)):(m0 h l).getD i .none=h.getD i .none:=by
 induction l generalizing h with
 | nil=>rfl
 | cons x l ih =>
  obtain ⟨j,r⟩:=x
  simp only [List.map_cons,List.mem_cons,not_or] at hi
  simp only [m0]
  rw [ih _ hi.2,l9,if_neg fun h=>hi.1 h.1.symm]
theorem th (S:St) (dst:Option Nat) (out:Out) (i:Nat) (hi:i ∉ out.rows.map (·.1)):(S.put dst out).row i=S.row i:=nf _ _ _ hi
theorem pw (h:List Row) (i:Nat) (r:Row) (l:List (Nat×Row)) (hi:i ∉ l.map (·.1)):(m0 h l).set i r=m0 (h.set i r) l:=by
 induction l generalizing h with
 | nil=>rfl
 | cons x l ih =>
  obtain ⟨j,r'⟩:=x
  simp only [List.map_cons,List.mem_cons,not_or] at hi
  simp only [m0]
  rw [ih _ hi.2,List.set_comm _ _ (fun e=>hi.1 e.symm)]
theorem ng (h:List Row) (l m:List (Nat×Row)) (hd:∀ x ∈ l.map (·.1),x ∉ m.map (·.1)):m0 (m0 h l) m=m0 (m0 h m) l:=by
 induction l generalizing h with
 | nil=>rfl
 | cons x l ih =>
  obtain ⟨i,r⟩:=x
  simp only [m0]
  rw [ih _ fun x hx=>hd x (by simp only [List.map_cons];exact List.mem_cons_of_mem _ hx)]
  rw [<- pw h i r m (hd i (by simp))]
theorem wQ (S:St) {x y:Option Nat} (o p:Out) (h:∀ d,x=some d->y≠some d) (hr:∀ i ∈ o.rows.map (·.1),i ∉ p.rows.map (·.1)):(S.put x o).put y p=(S.put y p).put x o:=by
 simp only [St.put]
 congr 1
 ·cases x with
  | none=>rfl
  | some d =>
   cases y with
   | none=>rfl
   | some e=>exact List.set_comm _ _ (fun he=>h d rfl (by rw [he]))
 ·exact ng _ _ _ hr
end
/- The executor, and why it is right. A helper text: it speaks of no program. -/
section
variable {P:Program} {B:Nat->Prop} {w0:World} {F0:Env P} {S:St} {β:Nat->Option Hd} {F:Nat->Prop} {a:Act} {w:World} {ops:Array Oper}
def dj (s:Nat->Bool) (r:Nat->Row) (i:Nat):Row :=
 match s i with
 | true=>r i
 | false => .none
def cX:Nat->(Nat->Bool)->(Nat->Row)->AV->AV
 | 0,_,_,x=>x
 | n + 1,s,r,x=>match x with
  | .ptr id sz i off=>match s id with
   | true=>z8 4 (dj s r) (.ptr id sz i off)
   | false => .ptr id sz i off
  | .own id=>match s id with
   | true=>z8 4 (dj s r) (.own id)
   | false => .own id
  | .mem id i=>match s id with
   | true=>z8 4 (dj s r) (.mem id i)
   | false => .mem id i
  | .mptr id i k=>match s id with
   | true => .any
   | false => .mptr id i k
  | .agg l => .agg (l.map (cX n s r))
  | .tup l => .tup (l.map (cX n s r))
  | .fn f a b => .fn f (a.map (cX n s r)) (b.map (cX n s r))
  | x=>x
theorem X7 (n:Nat) (s r):cX n s r .any = .any:=by cases n<;>rfl
def jh (s:Nat->Bool) (r:Nat->Row):Row->Row
 | .none => .none
 | .cells ty cs => .cells ty (cs.map (cX 4 s r))
 | .lit ty sz z7 => .lit ty sz (z7.map fun cs=>cs.map (cX 4 s r))
 | .vec ty sz e enc l => .vec ty sz e enc l
 | .ctr l xs k e => .ctr l xs k e
 | .nest ty sz j0 F5 e enc ys ho l => .nest ty sz j0 F5 e enc ys ho l
 | .opq o => .opq o
def Z0 (s:Nat->Bool) (r:Nat->Row):Nat->List Row->List Row
 | _,[]=>[]
 | i,x :: l=>(match s i with
  | true => .none
  | false=>jh s r x) :: Z0 s r (i + 1) l
def St.freeze (S:St) (s:Nat->Bool):St:=⟨S.t.map (cX 4 s S.row),Z0 s S.row 0 S.h,S.n⟩
theorem eK (s:Nat->Bool) (r:Nat->Row):∀ (h:List Row) (k j:Nat),(Z0 s r k h).getD j .none=if s (k + j)=true then .none else jh s r (h.getD j .none)
 | [],k,j=>by simp [Z0,jh]
 | x :: l,k,0=>by
  simp only [Z0,List.getD_cons_zero,Nat.add_zero]
  cases s k<;>simp
 | x :: l,k,j + 1=>by
  simp only [Z0,List.getD_cons_succ]
  rw [eK s r l (k + 1) j,show k + 1 + j=k + (j + 1) by omega]
theorem Rel.forget (hR:Rel B w0 F0 S β F a w) {S':St} (ht:S'.t=S.t) (hn:S'.n=S.n) (hr:∀ i,S'.row i=S.row i∨S'.row i = .none):Rel B w0 F0 S' β F a w:=by
  have live:∀ i,S'.row i ≠ .none->S.row i ≠ .none:=fun i h=>by
    rcases hr i with e|e
    · rw [<- e];exact h
    · exact absurd e h
  exact { len:=by rw [ht];exact hR.len,slots:=fun i hi=>by rw [ht] at hi ⊢; exact hR.slots i hi,marks:=hR.marks,
          rows:=fun i=>by
            rcases hr i with e|e
            · rw [e];exact hR.rows i
            · rw [e];trivial
          inj:=fun i j b hi hj=>hR.inj i j b (live i hi) (live j hj),bF:=fun i b hi=>hR.bF i b (live i hi),bB:=hR.bB,FB:=hR.FB,below:=hR.below,BW:=hR.BW,top:=hR.top,topn:=fun j hj=>hR.topn j (by simpa [u3,ht,hn] using hj),nn:=hn.trans hR.nn,inc:=hR.inc,keep:=hR.keep,sol:=hR.sol,yl:=hR.ylOf (fun i=>i) (fun id l xs k e h=>by rcases hr id with e' | e'<;>rw [e'] at h;exact h;cases h) (fun _ _ _ _ h=>h) (fun i b hi hb=>⟨i,live i hi,hb⟩) (fun b hb => .inl hb) }
def ji (s:Nat->Bool):Nat->List Row->List Row
 | _,[]=>[]
 | i,x :: l=>(match s i with
  | true=>x
  | false => .none) :: ji s (i + 1) l
theorem jj (s:Nat->Bool):∀ (h:List Row) (k j:Nat),(ji s k h).getD j .none=if s (k + j)=true then h.getD j .none else .none
 | [],k,j=>by simp [ji]
 | x :: l,k,0=>by
  simp only [ji,List.getD_cons_zero,Nat.add_zero]
  cases s k<;>simp
 | x :: l,k,j + 1=>by
  simp only [ji,List.getD_cons_succ]
  rw [jj s l (k + 1) j,show k + 1 + j=k + (j + 1) by omega]
theorem lh (hR:Rel B w0 F0 S β F a w) (s:Nat->Bool) (n:Nat) {x:AV} {v:Value} (h:v7 β F w x v) :
  p9 (fun b=>F b∨∃ i,s i=true/\S.row i ≠ .none/\o7 β i b) w (z8 n (dj s S.row) x) v:=by
 let S':St:=⟨S.t,ji s 0 S.h,S.n⟩
 have o9:∀ i,S'.row i=dj s S.row i:=fun i=>by
  show (ji s 0 S.h).getD i .none=_
  rw [jj,Nat.zero_add]
  unfold dj St.row
  cases s i<;>simp
 have F7:Rel B w0 F0 S' β F a w:=hR.forget rfl rfl fun i=>by
  rw [o9];unfold dj
  cases s i
  ·exact .inr rfl
  ·exact .inl rfl
 have:=C0 F7 n h
 rw [show S'.row=dj s S.row from funext o9] at this
 refine this.mono (fun b hb=>?_) (fun _ _ _ _ h=>h)
 rcases hb with hb|⟨i,h1,h2⟩
 ·exact .inl hb
 ·refine .inr ⟨i,?_,?_,h2⟩
  ·rw [o9] at h1;unfold dj at h1
   cases hs:s i with
   | true=>rfl
   | false=>simp [hs] at h1
  ·rw [o9] at h1;unfold dj at h1
   cases hs:s i with
   | true=>simpa [hs] using h1
   | false=>simp [hs] at h1
theorem Rel.freeze (hR:Rel B w0 F0 S β F a w) (s:Nat->Bool):∃ F',Rel B w0 F0 (S.freeze s) β F' a w:=by
 let F':Nat->Prop:=fun b=>F b∨∃ i,s i=true/\S.row i ≠ .none/\o7 β i b
 have hF:∀ b,F b->F' b:=fun b h => .inl h
 have up:∀ {x v},v7 β F w x v->v7 β F' w x v:=fun h=>h.grow (fun _ _=>rfl) hF (y0.refl _ _)
 have frz:∀ (n:Nat) {x:AV} {v:Value},v7 β F w x v->v7 β F' w (cX n s S.row x) v:=by
  intro n
  induction n with
  | zero=>intro x v h;exact up h
  | succ n ih =>
   intro x v h
   have cl:=lh hR s 4 h
   cases x with
   | ptr id sz i off =>
    simp only [cX]
    cases s id
    ·exact up h
    ·exact .imm cl
   | own id =>
    simp only [cX]
    cases s id
    ·exact up h
    ·exact .imm cl
   | mem id i =>
    simp only [cX]
    cases s id
    ·exact up h
    ·exact .imm cl
   | mptr id i k =>
    simp only [cX]
    cases s id
    ·exact up h
    ·exact .imm (.any _)
   | agg l =>
    obtain ⟨vs,rfl,hl,hr⟩:=h.agg_inv
    exact .agg (by simpa using hl) fun i hi=>by rw [n4 _ (X7 _ _ _)];exact ih (hr i (by simpa using hi))
   | tup l =>
    obtain ⟨vs,rfl,hl,hr⟩:=h.tup_inv
    exact .tup (by simpa using hl) fun i hi=>by rw [n4 _ (X7 _ _ _)];exact ih (hr i (by simpa using hi))
   | fn f xs ys =>
    obtain ⟨vs,us,rfl,hl,hm,hr,hk⟩:=h.fn_inv
    exact .fn (by simpa using hl) (fun i hi=>by rw [n4 _ (X7 _ _ _)];exact ih (hr i (by simpa using hi))) (by simpa using hm) (fun i hi=>by rw [n4 _ (X7 _ _ _)];exact ih (hk i (by simpa using hi)))
   | _=>exact up h
 have o9:∀ i,(S.freeze s).row i=if s i=true then .none else jh s S.row (S.row i):=fun i=>by
  show (Z0 s S.row 0 S.h).getD i .none=_
  rw [eK,Nat.zero_add];rfl
 have live:∀ i,(S.freeze s).row i ≠ .none->s i=false/\S.row i ≠ .none:=fun i h=>by
  rw [o9] at h
  cases hs:s i with
  | true=>simp [hs] at h
  | false=>simp only [hs,Bool.false_eq_true,if_false] at h;exact ⟨rfl,fun e=>h (by rw [e];rfl)⟩
 refine ⟨F',{ len:=by simp [St.freeze,hR.len],slots:=fun i hi=>?_,marks:=hR.marks,rows:=fun j=>?_,inj:=fun i j b hi hj=>hR.inj i j b (live i hi).2 (live j hj).2,bF:=fun i b hi u9 h=>?_,bB:=hR.bB,FB:=fun b h=>?_,below:=hR.below,BW:=hR.BW,top:=hR.top,topn:=fun j hj=>hR.topn j (by simpa [St.freeze,u3] using hj),nn:=hR.nn,inc:=fun b hb=>hF b (hR.inc b hb),keep:=hR.keep,sol:=hR.sol,yl:=hR.ylOf (fun i=>i) (fun id l xs k e h=>?_) (fun _ _ _ _ h=>h) (fun i b hi hb=>⟨i,(live i hi).2,hb⟩) (fun b hb=>hb.elim .inl fun ⟨i,_,h1,h2⟩ => .inr ⟨i,h1,h2⟩) }⟩
 ·simp only [St.freeze,List.length_map] at hi ⊢
  rw [n4 _ (X7 _ _ _)]
  exact frz 4 (hR.slots i hi)
 ·rw [o9]
  split
  ·trivial
  ·have:=hR.rows j
   cases hr:S.row j with
   | none=>trivial
   | ctr l xs k e=>rw [hr] at this;exact this
   | cells ty cs =>
    rw [hr] at this
    obtain ⟨hd,b,vs,e1,em,e2,e3,e4,e5⟩:=this
    exact ⟨hd,b,vs,e1,em,e2,e3,by simpa using e4,fun i hi=>by rw [n4 _ (X7 _ _ _)];exact frz 4 (e5 i (by simpa using hi))⟩
   | lit ty sz z7 =>
    rw [hr] at this
    obtain ⟨hd,b,vs,e1,em,e2,e3,e4,e5,e6,e7,e8⟩:=this
    have hg:∀ i,(z7.map fun cs=>cs.map (cX 4 s S.row)).getD i []=(z7.getD i []).map (cX 4 s S.row):=by
     intro i;simp only [List.getD,List.getElem?_map];cases z7[i]? <;> simp
    exact ⟨hd,b,vs,e1,em,e2,e3,by simpa using e4,by simpa using e5,by simpa using e6,by simpa using e7,fun i k hi hk=>by
     rw [hg,n4 _ (X7 _ _ _)];exact frz 4 (e8 i k (by simpa using hi) hk)⟩
   | vec ty sz e enc l =>
    rw [hr] at this
    obtain ⟨hd,e1,em,e2,e3⟩:=this
    refine ⟨hd,e1,em,e2,?_⟩
    rcases e3 with e3|⟨b,vs,q1,q2,q3,q4,q5,q6⟩
    ·exact .inl e3
    ·exact .inr ⟨b,vs,q1,q2,q3,q4,q5,fun i k hi hk=>(q6 i k hi hk).mono hF (fun _ _ _ _ h=>h)⟩
   | nest ty sz j0 F5 e enc ys ho l =>
    rw [hr] at this
    exact this.grow (fun _ _=>rfl) hF (y0.refl _ _) (fun _ _=>rfl)
   | opq o =>
    rw [hr] at this
    exact this.grow (fun _ _=>rfl) hF (y0.refl _ _) (fun _ _=>rfl)
 ·obtain ⟨h1,h2⟩:=live i hi
  rcases h with h|⟨k,h3,h4,h5⟩
  ·exact hR.bF i b h2 u9 h
  ·have:=hR.inj i k b h2 h4 u9 h5
   subst this
   rw [h1] at h3;cases h3
 ·rcases h with h|⟨i,h1,h2,h3⟩
  ·exact hR.FB b h
  ·have:=hR.bB i b h3;exact ⟨this.2,.inr this.1⟩
 ·rw [o9] at h
  split at h
  ·cases h
  ·cases hr:S.row id<;>rw [hr] at h<;>simp [jh] at h
   simp [h]
def dk:List AV->List AV->Option (List AV)
 | [],[]=>some []
 | a :: l,b :: m=>match dk l m with
  | some n=>match a with
   | .any=>some (.any :: n)
   | _=>some (b :: n)
  | none=>none
 | _,_=>none
def bM:List Row->List Row->Option (List Row)
 | [],[]=>some []
 | a :: l,b :: m=>match bM l m with
  | some n=>match a with
   | .none=>some (.none :: n)
   | _=>some (b :: n)
  | none=>none
 | _,_=>none
theorem jk:∀ {t s n:List AV},dk t s=some n->t.length=s.length/\n.length=s.length/\∀ i,n.getD i .any = .any∨n.getD i .any=s.getD i .any
 | [],[],n,h=>by simp [dk] at h;subst h;exact ⟨rfl,rfl,fun i => .inl rfl⟩
 | a :: l,b :: m,n,h=>by
  simp only [dk] at h
  cases hm:dk l m with
  | none=>simp [hm] at h
  | some k =>
   obtain ⟨h0,h1,h2⟩:=jk hm
   simp only [hm] at h
   have:∃ c,n=c :: k/\(c = .any∨c=b):=by
    split at h
    ·cases h;exact ⟨_,rfl,.inl rfl⟩
    ·cases h;exact ⟨_,rfl,.inr rfl⟩
   obtain ⟨c,rfl,hc⟩:=this
   refine ⟨by simp [h0],by simp [h1],fun i=>?_⟩
   cases i with
   | zero=>simpa using hc
   | succ i=>simpa using h2 i
 | [],_ :: _,_,h=>by simp [dk] at h
 | _ :: _,[],_,h=>by simp [dk] at h
theorem dG:∀ {t s n:List Row},bM t s=some n->∀ i,n.getD i .none = .none∨n.getD i .none=s.getD i .none
 | [],[],n,h=>by simp [bM] at h;subst h;exact fun i => .inl rfl
 | a :: l,b :: m,n,h=>by
  simp only [bM] at h
  cases hm:bM l m with
  | none=>simp [hm] at h
  | some k =>
   have h2:=dG hm
   simp only [hm] at h
   have:∃ c,n=c :: k/\(c = .none∨c=b):=by
    split at h
    ·cases h;exact ⟨_,rfl,.inl rfl⟩
    ·cases h;exact ⟨_,rfl,.inr rfl⟩
   obtain ⟨c,rfl,hc⟩:=this
   intro i
   cases i with
   | zero=>simpa using hc
   | succ i=>simpa using h2 i
 | [],_ :: _,_,h=>by simp [bM] at h
 | _ :: _,[],_,h=>by simp [bM] at h
theorem Rel.mask (hR:Rel B w0 F0 S β F a w) {T:St} (hn:T.n=S.n) (h1:dk T.t S.t=some T.t) (h2:bM T.h S.h=some T.h):Rel B w0 F0 T β F a w:=by
 obtain ⟨_,l1,m1⟩:=jk h1
 have m2:=dG h2
 have F7:Rel B w0 F0 ⟨S.t,T.h,S.n⟩ β F a w:=hR.forget rfl rfl fun i=>(m2 i).symm
 exact { F7 with
  len:=by rw [l1];exact hR.len
  slots:=fun i hi=>by
   rcases m1 i with e|e
   ·rw [e];exact .imm (.any _)
   ·rw [e];exact hR.slots i (by rw [<- l1];exact hi)
  topn:=fun j hj=>hR.topn j (by simpa [u3,l1,hn] using hj)
  nn:=hn.trans hR.nn }
end
/- The executor, and why it is right (second part). A helper text: it speaks of no program. -/
section
variable {P:Program} {B:Nat->Prop} {w0:World} {F0:Env P} {S:St} {β:Nat->Option Hd} {F:Nat->Prop} {a:Act} {w:World} {ops:Array Oper}
structure VT:Type 1 where
 α:Type
 ty:TypeId
 sz:Nat
 d:α
 enc:α->List AV
mutual
def cY (id t:Nat):AV->AV
 | .ptr k sz i off => .ptr (match Nat.beq k id with
  | true=>t
  | false=>k) sz i off
 | .own k => .own (match Nat.beq k id with
  | true=>t
  | false=>k)
 | .mem k i => .mem (match Nat.beq k id with
  | true=>t
  | false=>k) i
 | .mptr k i j => .mptr (match Nat.beq k id with
  | true=>t
  | false=>k) i j
 | .agg l => .agg (px id t l)
 | .tup l => .tup (px id t l)
 | .fn f a b => .fn f (px id t a) (px id t b)
 | x=>x
def px (id t:Nat):List AV->List AV
 | []=>[]
 | a :: l=>cY id t a :: px id t l
end
def Z1 (id t:Nat):Row->Row
 | .cells ty cs => .cells ty (px id t cs)
 | .lit ty sz z7 => .lit ty sz (z7.map (px id t))
 | r=>r
def py (id t:Nat) (S:St):St:=⟨px id t S.t,((S.h.map (Z1 id t)).set t (Z1 id t (S.row id))).set id .none,S.n⟩
def canonB (t b c:Nat) (V:VT) (S:St):St :=
 match u3 S t && !(Nat.beq b t) with
 | false=>S
 | true=>match S.row b with
  | .cells _ cs=>match cs.getD c .any with
   | .own id=>match Nat.beq id t with
    | true=>S
    | false=>match u3 S id && !(Nat.beq id b) with
     | false=>S
     | true=>py id t (S.kill t)
   | .nils=>match (S.kill t).row b with
    | .cells F5 BP=>⟨(S.kill t).t,((S.kill t).h.set t (.vec V.ty V.sz V.d V.enc [])).set b (.cells F5 (BP.set c (.own t))),S.n⟩
    | _=>S
   | _=>S
  | _=>S
def canonS (t:Nat) (V:VT) (S:St):St :=
 match S.t.getD t .any with
 | .own id=>match Nat.beq id t with
  | true=>S
  | false=>match u3 S id && u3 S t with
   | false=>S
   | true=>⟨(((S.kill t).kill id).t).set t (.own t),(((S.kill t).kill id).h).set t (w7 id ((S.kill t).row id)),S.n⟩
 | .nils=>match u3 S t with
  | false=>S
  | true=>⟨(S.kill t).t.set t (.own t),(S.kill t).h.set t (.vec V.ty V.sz V.d V.enc []),S.n⟩
 | _=>S
def canon1 (t:Nat) (V:VT) (S:St):St :=
 match Nat.blt t 65536 with
 | true=>canonS t V S
 | false=>canonB (t % 65536) ((t / 65536 - 1) % 4096) ((t / 65536 - 1) / 4096) V S
def canonV:List (Nat×VT)->St->St
 | [],S=>S
 | (t,V) :: l,S=>canonV l (canon1 t V S)
theorem s9.kill {β β':Nat->Option Hd} {id t:Nat} (hβ:∀ j,j≠id->β j≠none->β' j=β j) (sW:β' t=β id) {r:Row} (h:s9 β F w id r):s9 β' F w t (w7 id r):=by
 have up:∀ {x v},v7 β F w x v->v7 β' F w (B3 id x) v:=fun {x v} h=>by
  have h1:v7 (fun j=>if j=id then none else β j) F w (B3 id x) v:=O5 (fun j hj=>by simp [hj]) h
  exact h1.grow (fun j hj=>by
   by_cases e:j=id
   ·simp [e] at hj
   ·simp only [e,if_false] at hj ⊢; exact hβ j e hj) (fun _ h=>h) (y0.refl _ _)
 cases r with
 | none=>trivial
 | ctr l xs k e=>obtain ⟨hd,e1,e2⟩:=h;exact ⟨hd,sW.trans e1,e2⟩
 | cells ty cs =>
  obtain ⟨hd,b,vs,e1,em,e2,e3,e4,e5⟩:=h
  exact ⟨hd,b,vs,sW.trans e1,em,e2,e3,by simpa using e4,fun i hi=>by rw [n4 _ (E4 id)];exact up (e5 i (by simpa using hi))⟩
 | lit ty sz z7 =>
  obtain ⟨hd,b,vs,e1,em,e2,e3,e4,e5,e6,e7,e8⟩:=h
  have hg:∀ i,(z7.map fun cs=>cs.map (B3 id)).getD i []=(z7.getD i []).map (B3 id):=by
   intro i;simp only [List.getD,List.getElem?_map];cases z7[i]? <;> simp
  exact ⟨hd,b,vs,sW.trans e1,em,e2,e3,by simpa using e4,by simpa using e5,by simpa using e6,by simpa using e7,fun i k hi hk=>by
   rw [hg,n4 _ (E4 id)];exact up (e8 i k (by simpa using hi) hk)⟩
 | vec ty sz e enc l =>
  obtain ⟨hd,e1,e2⟩:=h
  exact ⟨hd,sW.trans e1,e2⟩
 | nest ty sz j0 F5 d enc ys ho l =>
  obtain ⟨hd,e1,e2⟩:=h
  exact ⟨hd,sW.trans e1,e2⟩
 | opq o =>
  obtain ⟨hd,e1,e2⟩:=h
  exact ⟨hd,sW.trans e1,e2⟩
theorem Rel.rename (hR:Rel B w0 F0 S β F a w) {t id:Nat} (ht:β t=none) (sW:id≠t) (hs:S.t.getD t .any = .own id) (Q9:F0.β id=none) :
  ∃ β',Rel B w0 F0 ⟨((S.kill id).t).set t (.own t),((S.kill id).h).set t (w7 id (S.row id)),S.n⟩ β' F a w:=by
 obtain ⟨hd,hβ,hv⟩:∃ hd,β id=some hd/\a.tmps.getD t undef = .slice (hd.b.map fun b=>⟨b,0,none⟩) hd.len hd.cap:=by
  have:=hR.get (.tmp t)
  have e:S.get (.tmp t) = .own id:=hs
  rw [e] at this
  have he:a.eval (.tmp t)=a.tmps.getD t undef:=rfl
  rw [he] at this
  exact this.own_inv
 let β':Nat->Option Hd:=fun j=>if j=t then some hd else if j=id then none else β j
 have b1:β' t=some hd:=by simp [β']
 have b2:∀ j,j≠t->j≠id->β' j=β j:=fun j h1 h2=>by simp [β',h1,h2]
 have b3:β' id=none:=by simp [β',sW]
 have jl:∀ j,j≠id->β j≠none->β' j=β j:=fun j h1 h2=>b2 j (fun e=>h2 (e ▸ ht)) h1
 have up:∀ {x v},v7 β F w x v->v7 β' F w (B3 id x) v:=fun {x v} h=>by
  have h1:v7 (fun j=>if j=id then none else β j) F w (B3 id x) v:=O5 (fun j hj=>by simp [hj]) h
  exact h1.grow (fun j hj=>by
   by_cases e:j=id
   ·simp [e] at hj
   ·simp only [e,if_false] at hj ⊢; exact jl j e hj) (fun _ h=>h) (y0.refl _ _)
 let S':St:=⟨((S.kill id).t).set t (.own t),((S.kill id).h).set t (w7 id (S.row id)),S.n⟩
 have o9:∀ j,S'.row j=if t=j/\j < (S.kill id).h.length then w7 id (S.row id) else if j=id then .none else w7 id (S.row j):=fun j=>by
  show (((S.kill id).h).set t (w7 id (S.row id))).getD j .none=_
  rw [l9]
  by_cases h:t=j
  ·subst h
   by_cases h2:t < (S.kill id).h.length
   ·simp [h2]
   ·simp only [h2,and_false,if_false]
    have:=aH S id t
    exact this
  ·simp only [h,false_and,if_false]
   exact aH S id j
 have bl:∀ j b,o7 β' j b->(j=t/\N4 (some hd) b)∨(j≠t/\j≠id/\o7 β j b):=fun j b h=>by
  by_cases e:j=t
  ·subst e;exact .inl ⟨rfl,by simpa [o7,b1] using h⟩
  ·by_cases e2:j=id
   ·subst e2;simp [o7,b3] at h
   ·exact .inr ⟨e,e2,by simpa [o7,b2 j e e2] using h⟩
 have lv:∀ j,S'.row j ≠ .none->(j=t/\S.row id ≠ .none)∨(j≠id/\S.row j ≠ .none):=fun j h=>by
  rw [o9] at h
  split at h
  ·rename_i hc;exact .inl ⟨hc.1.symm,bo h⟩
  ·split at h
   ·exact absurd rfl h
   ·rename_i hn;exact .inr ⟨hn,bo h⟩
 have wR:∀ {r},s9 β F w t r->r = .none:=fun {r} h=>by
  cases r with
  | none=>rfl
  | ctr l xs k e'=>obtain ⟨_,e,_⟩:=h;rw [ht] at e;cases e
  | cells ty cs=>obtain ⟨_,_,_,e,_⟩:=h;rw [ht] at e;cases e
  | lit ty sz z7=>obtain ⟨_,_,_,e,_⟩:=h;rw [ht] at e;cases e
  | vec ty sz d enc l=>obtain ⟨_,e,_⟩:=h;rw [ht] at e;cases e
  | nest ty sz j0 F5 d enc ys ho l=>obtain ⟨_,e,_⟩:=h;rw [ht] at e;cases e
  | opq o=>obtain ⟨_,e,_⟩:=h;rw [ht] at e;cases e
 have CH:S.row t = .none:=wR (hR.rows t)
 have Ag:∀ j b,S'.row j ≠ .none->o7 β' j b->(j=t/\S.row id ≠ .none/\o7 β id b)∨(j≠t/\j≠id/\S.row j ≠ .none/\o7 β j b):=fun j b h1 h2=>by
  rcases bl j b h2 with ⟨e,h3⟩|⟨e1,e2,h3⟩
  ·refine .inl ⟨e,?_,by rw [o7,hβ];exact h3⟩
   rcases lv j h1 with ⟨_,h⟩|⟨_,h⟩
   ·exact h
   ·rw [e] at h;exact absurd CH h
  ·rcases lv j h1 with ⟨e,_⟩|⟨_,h⟩
   ·exact absurd e e1
   ·exact .inr ⟨e1,e2,h,h3⟩
 refine ⟨β',{ len:=by simp [St.kill,hR.len],slots:=fun i hi=>?_,marks:=hR.marks,rows:=fun j=>?_,inj:=fun i j b hi hj u9 J5=>?_,bF:=fun i b hi u9=>?_,bB:=fun i b u9=>?_,FB:=hR.FB,below:=hR.below,BW:=hR.BW,top:=fun j hd h=>(jl j (fun e=>by rw [e,Q9] at h;cases h) (by rw [hR.top j hd h];simp)).trans (hR.top j hd h),topn:=fun j hj=>hR.topn j (by simpa [St.kill,u3] using hj),nn:=hR.nn,inc:=hR.inc,keep:=hR.keep,sol:=hR.sol,yl:=hR.ylOf (fun j=>if j=t then id else j) (fun j l xs k e h=>?_) (fun i j hi hj e=>?_) (fun i b hi hb=>by rcases Ag i b hi hb with ⟨_,l1,k1⟩|⟨_,_,l1,k1⟩;exact ⟨id,l1,k1⟩;exact ⟨i,l1,k1⟩) (fun b hb => .inl hb) }⟩
 ·simp only [List.length_set] at hi
  rw [J6]
  split
  ·rename_i hc
   rw [<- hc.1,hv]
   exact .own b1
  ·simp only [St.kill,List.length_map] at hi ⊢
   rw [n4 _ (E4 id)]
   exact up (hR.slots i hi)
 ·show s9 β' F w j (S'.row j)
  rw [o9]
  split
  ·rename_i hc
   rw [<- hc.1]
   exact s9.kill jl (b1.trans hβ.symm) (hR.rows id)
  ·split
   ·trivial
   ·rename_i h1 h2
    by_cases e:j=t
    ·subst e;rw [CH];trivial
    ·have hj:=hR.rows j
     have key:s9 (fun i=>if i=id then none else β i) F w j (w7 id (S.row j)):=by
      cases hr:S.row j with
      | none=>trivial
      | ctr l xs k e =>
       rw [hr] at hj
       obtain ⟨hd',e1,e2⟩:=hj
       exact ⟨hd',by simp [h2,e1],e2⟩
      | cells ty cs =>
       rw [hr] at hj
       obtain ⟨hd',b,vs,e1,em,e2,e3,e4,e5⟩:=hj
       exact ⟨hd',b,vs,by simp [h2,e1],em,e2,e3,by simpa using e4,fun i hi=>by rw [n4 _ (E4 id)];exact O5 (fun k hk=>by simp [hk]) (e5 i (by simpa using hi))⟩
      | lit ty sz z7 =>
       rw [hr] at hj
       obtain ⟨hd',b,vs,e1,em,e2,e3,e4,e5,e6,e7,e8⟩:=hj
       have hg:∀ i,(z7.map fun cs=>cs.map (B3 id)).getD i []=(z7.getD i []).map (B3 id):=by
        intro i;simp only [List.getD,List.getElem?_map];cases z7[i]? <;> simp
       exact ⟨hd',b,vs,by simp [h2,e1],em,e2,e3,by simpa using e4,by simpa using e5,by simpa using e6,by simpa using e7,fun i k hi hk=>by
        rw [hg,n4 _ (E4 id)];exact O5 (fun k hk=>by simp [hk]) (e8 i k (by simpa using hi) hk)⟩
      | vec ty sz e enc l =>
       rw [hr] at hj
       obtain ⟨hd',e1,e2⟩:=hj
       exact ⟨hd',by simp [h2,e1],e2⟩
      | nest ty sz j0 F5 d enc ys ho l =>
       rw [hr] at hj
       obtain ⟨hd',e1,e2⟩:=hj
       exact ⟨hd',by simp [h2,e1],e2⟩
      | opq o =>
       rw [hr] at hj
       obtain ⟨hd',e1,e2⟩:=hj
       exact ⟨hd',by simp [h2,e1],e2⟩
     exact key.grow (fun i hi=>by
      by_cases ei:i=id
      ·simp [ei] at hi
      ·simp only [ei,if_false] at hi ⊢; exact jl i ei hi) (fun _ h=>h) (y0.refl _ _) (fun _ _=>rfl)
 ·rcases Ag i b hi u9 with ⟨e1,l1,k1⟩|⟨e1,Hv,l1,k1⟩<;>rcases Ag j b hj J5 with ⟨e2,l2,k2⟩|⟨e2,Hw,l2,k2⟩
  ·rw [e1,e2]
  ·exact absurd (hR.inj id j b l1 l2 k1 k2).symm Hw
  ·exact absurd (hR.inj i id b l1 l2 k1 k2) Hv
  ·exact hR.inj i j b l1 l2 k1 k2
 ·rcases Ag i b hi u9 with ⟨_,l1,k1⟩|⟨_,_,l1,k1⟩
  ·exact hR.bF id b l1 k1
  ·exact hR.bF i b l1 k1
 ·rcases bl i b u9 with ⟨_,h⟩|⟨_,_,h⟩
  ·exact hR.bB id b (by rw [o7,hβ];exact h)
  ·exact hR.bB i b h
 ·replace h:S'.row j = .ctr l xs k e:=h
  rw [o9] at h
  have inv:∀ {r},w7 id r = .ctr l xs k e->r = .ctr l xs k e:=fun {r} h=>by cases r<;>simp [w7] at h;simp [h]
  split at h
  ·rename_i hc;rw [if_pos hc.1.symm];exact inv h
  ·split at h
   ·cases h
   ·rename_i h1 h2
    by_cases e:j=t
    ·subst e;rw [CH] at h;simp [w7] at h
    ·rw [if_neg e];exact inv h
 ·have U3:S'.row i ≠ .none:=hi
  have fI:S'.row j ≠ .none:=hj
  have key:∀ j,S'.row j ≠ .none->j=t∨j≠id:=fun j h=>by
   rcases lv j h with ⟨e,_⟩|⟨e,_⟩
   ·exact .inl e
   ·exact .inr e
  by_cases e1:i=t
  ·by_cases e2:j=t
   ·rw [e1,e2]
   ·rw [if_pos e1,if_neg e2] at e
    rcases key j fI with h|h
    ·exact absurd h e2
    ·exact absurd e.symm h
  ·by_cases e2:j=t
   ·rw [if_neg e1,if_pos e2] at e
    rcases key i U3 with h|h
    ·exact absurd h e1
    ·exact absurd e h
   ·rw [if_neg e1,if_neg e2] at e;exact e
theorem Rel.nilVec (hR:Rel B w0 F0 S β F a w) {t:Nat} (ht:β t=none) (hs:S.t.getD t .any = .nils) (V:VT):∃ β',Rel B w0 F0 ⟨S.t.set t (.own t),S.h.set t (.vec V.ty V.sz V.d V.enc []),S.n⟩ β' F a w:=by
 have hv:a.tmps.getD t undef = .slice none 0 0:=by
  have:=hR.get (.tmp t)
  have e:S.get (.tmp t) = .nils:=hs
  rw [e] at this
  exact this.nils_inv
 let β':Nat->Option Hd:=fun j=>if j=t then some ⟨none,0,0,bd⟩ else β j
 have b1:β' t=some ⟨none,0,0,bd⟩:=by simp [β']
 have b2:∀ j,j≠t->β' j=β j:=fun j h1=>by simp [β',h1]
 have b3:∀ j,β j≠none->β' j=β j:=fun j hj=>b2 j fun e=>hj (e ▸ ht)
 have bl:∀ j b,o7 β' j b->j≠t/\o7 β j b:=fun j b h=>by
  by_cases e:j=t
  ·subst e;simp [o7,b1] at h
  ·exact ⟨e,by simpa [o7,b2 j e] using h⟩
 have lv:∀ j,j≠t->(S.h.set t (.vec V.ty V.sz V.d V.enc [])).getD j .none=S.row j:=fun j hj=>by
  rw [l9,if_neg fun h=>hj h.1.symm];rfl
 refine ⟨β',{ len:=by simp [hR.len],slots:=fun i hi=>?_,marks:=hR.marks,rows:=fun j=>?_,inj:=fun i j b hi hj u9 J5=>?_,bF:=fun i b hi u9=>?_,bB:=fun i b u9=>hR.bB i b (bl i b u9).2,FB:=hR.FB,below:=hR.below,BW:=hR.BW,top:=fun j hd h=>(b3 j (by rw [hR.top j hd h];simp)).trans (hR.top j hd h),topn:=fun j hj=>hR.topn j (by simpa [u3] using hj),nn:=hR.nn,inc:=hR.inc,keep:=hR.keep,sol:=hR.sol,yl:=hR.ylOf (fun i=>i) (fun j l xs k e h=>?_) (fun _ _ _ _ h=>h) (fun i b hi hb=>by obtain ⟨e1,k1⟩:=bl i b hb;exact ⟨i,by rw [<- lv i e1];exact hi,k1⟩) (fun b hb => .inl hb) }⟩
 ·simp only [List.length_set] at hi
  rw [J6]
  split
  ·rename_i hc
   rw [<- hc.1,hv]
   have:=v7.own (F:=F) (w:=w) b1
   simpa using this
  ·exact (hR.slots i hi).grow b3 (fun _ h=>h) (y0.refl _ _)
 ·show s9 β' F w j ((S.h.set t (.vec V.ty V.sz V.d V.enc [])).getD j .none)
  rw [l9]
  split
  ·rename_i hc
   rw [<- hc.1]
   exact ⟨_,b1,rfl,rfl,.inl ⟨rfl,rfl,rfl⟩⟩
  ·exact (hR.rows j).grow b3 (fun _ h=>h) (y0.refl _ _) (fun _ _=>rfl)
 ·obtain ⟨e1,k1⟩:=bl i b u9
  obtain ⟨e2,k2⟩:=bl j b J5
  have U3:S.row i ≠ .none:=by rw [<- lv i e1];exact hi
  have fI:S.row j ≠ .none:=by rw [<- lv j e2];exact hj
  exact hR.inj i j b U3 fI k1 k2
 ·obtain ⟨e1,k1⟩:=bl i b u9
  have U3:S.row i ≠ .none:=by rw [<- lv i e1];exact hi
  exact hR.bF i b U3 k1
 ·have h:(S.h.set t (.vec V.ty V.sz V.d V.enc [])).getD j .none = .ctr l xs k e:=h
  rw [l9] at h
  split at h
  ·cases h
  ·exact h
theorem y9 (id t:Nat):∀ l,(px id t l).length=l.length
 | []=>rfl
 | a :: l=>by simp [px,y9 id t l]
theorem K9 (id t:Nat):∀ l i,(px id t l).getD i .any=cY id t (l.getD i .any)
 | [],i=>by simp [px,cY]
 | a :: l,0=>rfl
 | a :: l,i + 1=>by
  have:=K9 id t l i
  simpa [px] using this
theorem nh {xs ys:List AV} (hl:xs.length=ys.length) (h:∀ i,i < xs.length->xs.getD i .any=ys.getD i .any):xs=ys:=by
 refine List.ext_getElem hl fun i h1 h2=>?_
 have:=h i h1
 simpa [List.getD,h1,h2] using this
theorem p9.mv_eq {x:AV} {v:Value} (h:p9 F w x v) (id t:Nat):cY id t x=x:=by
 induction h with
 | agg hl _ ih=>simp only [cY];rw [nh (y9 _ _ _) fun i hi=>by rw [K9];exact ih i (by rwa [y9] at hi)]
 | tup hl _ ih=>simp only [cY];rw [nh (y9 _ _ _) fun i hi=>by rw [K9];exact ih i (by rwa [y9] at hi)]
 | fn hl _ hm _ ih ik =>
  simp only [cY]
  rw [nh (y9 id t _) fun i hi=>by rw [K9];exact ih i (by rwa [y9] at hi),nh (y9 id t _) fun i hi=>by rw [K9];exact ik i (by rwa [y9] at hi)]
 | _=>simp only [cY]
theorem v7.move {β':Nat->Option Hd} {id t:Nat} (ht:β t=none) (h1:β' t=β id) (h2:∀ j,j≠t->j≠id->β' j=β j) {x:AV} {v:Value} (h:v7 β F w x v):v7 β' F w (cY id t x) v:=by
 have key:∀ {k:Nat} {hd:Hd},β k=some hd->β' (match Nat.beq k id with|true=>t|false=>k)=some hd:=fun {k hd} hk=>by
  cases hb:Nat.beq k id with
  | true=>have:=Nat.eq_of_beq_eq_true hb;subst this;exact h1.trans hk
  | false=>exact (h2 k (fun e=>by subst e;rw [ht] at hk;cases hk) (fun e=>by subst e;simp at hb)).trans hk
 induction h with
 | imm h=>rw [h.mv_eq];exact .imm h
 | ptr hb hh=>simp only [cY];exact .ptr (key hb) hh
 | own hb=>simp only [cY];exact .own (key hb)
 | mem hb hi=>simp only [cY];exact .mem (key hb) hi
 | mptr hb hh hi hk=>simp only [cY];exact .mptr (key hb) hh hi hk
 | agg hl _ ih=>simp only [cY];exact .agg (by rw [y9];exact hl) fun i hi=>by rw [K9];exact ih i (by rwa [y9] at hi)
 | tup hl _ ih=>simp only [cY];exact .tup (by rw [y9];exact hl) fun i hi=>by rw [K9];exact ih i (by rwa [y9] at hi)
 | fn hl _ hm _ ih ik =>
  simp only [cY]
  exact .fn (by rw [y9];exact hl) (fun i hi=>by rw [K9];exact ih i (by rwa [y9] at hi)) (by rw [y9];exact hm) fun i hi=>by rw [K9];exact ik i (by rwa [y9] at hi)
theorem s9.move {β':Nat->Option Hd} {id t:Nat} (ht:β t=none) (h1:β' t=β id) (h2:∀ j,j≠t->j≠id->β' j=β j) {i i':Nat} (hi:β' i'=β i) {r:Row} (h:s9 β F w i r):s9 β' F w i' (Z1 id t r):=by
 cases r with
 | none=>trivial
 | ctr l xs k e=>obtain ⟨hd,e1,e2⟩:=h;exact ⟨hd,hi.trans e1,e2⟩
 | cells ty cs =>
  obtain ⟨hd,b,vs,e1,em,e2,e3,e4,e5⟩:=h
  exact ⟨hd,b,vs,hi.trans e1,em,e2,e3,by rw [y9];exact e4,fun i hi=>by rw [K9];exact (e5 i (by rwa [y9] at hi)).move ht h1 h2⟩
 | lit ty sz z7 =>
  obtain ⟨hd,b,vs,e1,em,e2,e3,e4,e5,e6,e7,e8⟩:=h
  have hg:∀ i,(z7.map (px id t)).getD i []=px id t (z7.getD i []):=by
   intro i;simp only [List.getD,List.getElem?_map];cases z7[i]? <;> simp [px]
  exact ⟨hd,b,vs,hi.trans e1,em,e2,e3,by simpa using e4,by simpa using e5,by simpa using e6,by simpa using e7,fun i k hi hk=>by
   rw [hg,K9];exact (e8 i k (by simpa using hi) hk).move ht h1 h2⟩
 | vec ty sz e enc l =>
  obtain ⟨hd,e1,e2⟩:=h
  exact ⟨hd,hi.trans e1,e2⟩
 | nest ty sz j0 F5 d enc ys ho l =>
  obtain ⟨hd,e1,e2⟩:=h
  exact ⟨hd,hi.trans e1,e2⟩
 | opq o =>
  obtain ⟨hd,e1,e2⟩:=h
  exact ⟨hd,hi.trans e1,e2⟩
theorem jm {id t:Nat} {r:Row} (h:Z1 id t r ≠ .none):r ≠ .none:=by rintro rfl;exact h rfl
theorem jn (S:St) (id t j:Nat):(py id t S).row j=if j=id then .none else if t=j/\j < S.h.length then Z1 id t (S.row id) else Z1 id t (S.row j):=by
 show (((S.h.map (Z1 id t)).set t (Z1 id t (S.row id))).set id .none).getD j .none=_
 have hm:(S.h.map (Z1 id t)).getD j .none=Z1 id t (S.row j):=by
  simp only [St.row,List.getD,List.getElem?_map]
  cases S.h[j]? <;> rfl
 rw [l9,l9,hm]
 simp only [List.length_set,List.length_map]
 by_cases e:j=id
 ·subst e
  by_cases hl:j < S.h.length
  ·simp [hl]
  ·have e0:S.row j = .none:=by simp [St.row,List.getD,List.getElem?_eq_none (Nat.le_of_not_lt hl)]
   simp [hl,e0,Z1]
 ·rw [if_neg e,if_neg fun h=>e h.1.symm]
  by_cases e2:t=j
  ·subst e2;rfl
  ·rw [if_neg fun h=>e2 h.1,if_neg fun h=>e2 h.1]
theorem Rel.moved (hR:Rel B w0 F0 S β F a w) {t id:Nat} {hd:Hd} (ht:β t=none) (sW:id≠t) (hβ:β id=some hd) (Q9:F0.β id=none):∃ β',Rel B w0 F0 (py id t S) β' F a w:=by
 let β':Nat->Option Hd:=fun j=>if j=t then some hd else if j=id then none else β j
 have b1:β' t=β id:=by simp [β',hβ]
 have b2:∀ j,j≠t->j≠id->β' j=β j:=fun j h1 h2=>by simp [β',h1,h2]
 have b3:β' id=none:=by simp [β',sW]
 have bl:∀ j b,o7 β' j b->(j=t/\N4 (some hd) b)∨(j≠t/\j≠id/\o7 β j b):=fun j b h=>by
  by_cases e:j=t
  ·subst e;exact .inl ⟨rfl,by simpa [o7,b1,hβ] using h⟩
  ·by_cases e2:j=id
   ·subst e2;simp [o7,b3] at h
   ·exact .inr ⟨e,e2,by simpa [o7,b2 j e e2] using h⟩
 have wR:∀ {r},s9 β F w t r->r = .none:=fun {r} h=>by
  cases r with
  | none=>rfl
  | ctr l xs k e'=>obtain ⟨_,e,_⟩:=h;rw [ht] at e;cases e
  | cells ty cs=>obtain ⟨_,_,_,e,_⟩:=h;rw [ht] at e;cases e
  | lit ty sz z7=>obtain ⟨_,_,_,e,_⟩:=h;rw [ht] at e;cases e
  | vec ty sz d enc l=>obtain ⟨_,e,_⟩:=h;rw [ht] at e;cases e
  | nest ty sz j0 F5 d enc ys ho l=>obtain ⟨_,e,_⟩:=h;rw [ht] at e;cases e
  | opq o=>obtain ⟨_,e,_⟩:=h;rw [ht] at e;cases e
 have CH:S.row t = .none:=wR (hR.rows t)
 have lv:∀ j,(py id t S).row j ≠ .none->(j=t/\S.row id ≠ .none)∨(j≠t/\j≠id/\S.row j ≠ .none):=fun j h=>by
  rw [jn] at h
  split at h
  ·exact absurd rfl h
  ·rename_i hn
   split at h
   ·rename_i hc;exact .inl ⟨hc.1.symm,jm h⟩
   ·by_cases e:j=t
    ·subst e;rw [CH] at h;exact absurd rfl h
    ·exact .inr ⟨e,hn,jm h⟩
 have Ag:∀ j b,(py id t S).row j ≠ .none->o7 β' j b->(j=t/\S.row id ≠ .none/\o7 β id b)∨(j≠t/\j≠id/\S.row j ≠ .none/\o7 β j b):=fun j b h1 h2=>by
  rcases bl j b h2 with ⟨e,h3⟩|⟨e1,e2,h3⟩
  ·refine .inl ⟨e,?_,by rw [o7,hβ];exact h3⟩
   rcases lv j h1 with ⟨_,h⟩|⟨h,_⟩
   ·exact h
   ·exact absurd e h
  ·rcases lv j h1 with ⟨e,_⟩|⟨_,_,h⟩
   ·exact absurd e e1
   ·exact .inr ⟨e1,e2,h,h3⟩
 refine ⟨β',{ len:=by simp only [py,y9];exact hR.len,slots:=fun i hi=>?_,marks:=hR.marks,rows:=fun j=>?_,inj:=fun i j b hi hj u9 J5=>?_,bF:=fun i b hi u9=>?_,bB:=fun i b u9=>?_,FB:=hR.FB,below:=hR.below,BW:=hR.BW,top:=fun j hd' h=>?_,topn:=fun j hj=>hR.topn j (by simpa [py,u3,y9] using hj),nn:=hR.nn,inc:=hR.inc,keep:=hR.keep,sol:=hR.sol,yl:=hR.ylOf (fun j=>if j=t then id else j) (fun j l xs k e h=>?_) (fun i j hi hj e=>?_) (fun i b hi hb=>by rcases Ag i b hi hb with ⟨_,l1,k1⟩|⟨_,_,l1,k1⟩;exact ⟨id,l1,k1⟩;exact ⟨i,l1,k1⟩) (fun b hb => .inl hb) }⟩
 ·simp only [py,y9] at hi
  show v7 β' F w ((px id t S.t).getD i .any) _
  rw [K9]
  exact (hR.slots i hi).move ht b1 b2
 ·rw [jn]
  split
  ·trivial
  ·rename_i hn
   split
   ·rename_i hc;exact (hR.rows id).move ht b1 b2 (by rw [<- hc.1];exact b1)
   ·by_cases e:j=t
    ·subst e;rw [CH];trivial
    ·exact (hR.rows j).move ht b1 b2 (b2 j e hn)
 ·rcases Ag i b hi u9 with ⟨e1,l1,k1⟩|⟨e1,Hv,l1,k1⟩<;>rcases Ag j b hj J5 with ⟨e2,l2,k2⟩|⟨e2,Hw,l2,k2⟩
  ·rw [e1,e2]
  ·exact absurd (hR.inj id j b l1 l2 k1 k2).symm Hw
  ·exact absurd (hR.inj i id b l1 l2 k1 k2) Hv
  ·exact hR.inj i j b l1 l2 k1 k2
 ·rcases Ag i b hi u9 with ⟨_,l1,k1⟩|⟨_,_,l1,k1⟩
  ·exact hR.bF id b l1 k1
  ·exact hR.bF i b l1 k1
 ·rcases bl i b u9 with ⟨_,h⟩|⟨_,_,h⟩
  ·exact hR.bB id b (by rw [o7,hβ];exact h)
  ·exact hR.bB i b h
 ·have:=hR.top j hd' h
  exact (b2 j (fun e=>by subst e;rw [ht] at this;cases this) (fun e=>by subst e;rw [Q9] at h;cases h)).trans this
 ·have inv:∀ {r},Z1 id t r = .ctr l xs k e->r = .ctr l xs k e:=fun {r} h=>by cases r<;>simp [Z1] at h;simp [h]
  rw [jn] at h
  split at h
  ·cases h
  ·split at h
   ·rename_i hc;rw [if_pos hc.1.symm];exact inv h
   ·by_cases e':j=t
    ·subst e'; rw [CH] at h;simp [Z1] at h
    ·rw [if_neg e'];exact inv h
 ·by_cases e1:i=t
  ·by_cases e2:j=t
   ·rw [e1,e2]
   ·rw [if_pos e1,if_neg e2] at e
    rcases lv j hj with ⟨h,_⟩|⟨_,h,_⟩
    ·exact absurd h e2
    ·exact absurd e.symm h
  ·by_cases e2:j=t
   ·rw [if_neg e1,if_pos e2] at e
    rcases lv i hi with ⟨h,_⟩|⟨_,h,_⟩
    ·exact absurd h e1
    ·exact absurd e h
   ·rw [if_neg e1,if_neg e2] at e;exact e
theorem Rel.nilBox (hR:Rel B w0 F0 S β F a w) {t b c:Nat} {ty:TypeId} {cs:List AV} (ht:β t=none) (Hy:b≠t) (hb:S.row b = .cells ty cs) (hs:cs.getD c .any = .nils) (V:VT):∃ β',Rel B w0 F0 ⟨S.t,(S.h.set t (.vec V.ty V.sz V.d V.enc [])).set b (.cells ty (cs.set c (.own t))),S.n⟩ β' F a w:=by
 let β':Nat->Option Hd:=fun j=>if j=t then some ⟨none,0,0,bd⟩ else β j
 have b1:β' t=some ⟨none,0,0,bd⟩:=by simp [β']
 have b2:∀ j,j≠t->β' j=β j:=fun j h1=>by simp [β',h1]
 have b3:∀ j,β j≠none->β' j=β j:=fun j hj=>b2 j fun e=>hj (e ▸ ht)
 have bl:∀ j b,o7 β' j b->j≠t/\o7 β j b:=fun j b h=>by
  by_cases e:j=t
  ·subst e;simp [o7,b1] at h
  ·exact ⟨e,by simpa [o7,b2 j e] using h⟩
 have lb:b < S.h.length:=bf (by rw [hb];simp)
 have row:∀ j,((S.h.set t (.vec V.ty V.sz V.d V.enc [])).set b (.cells ty (cs.set c (.own t)))).getD j .none=if b=j then .cells ty (cs.set c (.own t)) else if t=j/\j < S.h.length then .vec V.ty V.sz V.d V.enc [] else S.row j:=fun j=>by
  rw [l9,l9]
  simp only [List.length_set]
  by_cases e:b=j
  ·subst e;simp [lb]
  ·simp only [e,false_and,if_false]
   by_cases e2:t=j
   ·subst e2;rfl
   ·simp only [e2,false_and,if_false];rfl
 have lv:∀ j,j≠t->((S.h.set t (.vec V.ty V.sz V.d V.enc [])).set b (.cells ty (cs.set c (.own t)))).getD j .none ≠ .none->S.row j ≠ .none:=fun j hj h=>by
  rw [row] at h
  split at h
  ·rename_i e;subst e;rw [hb];simp
  ·rw [if_neg fun h=>hj h.1.symm] at h;exact h
 refine ⟨β',{ len:=hR.len,slots:=fun i hi=>(hR.slots i hi).grow b3 (fun _ h=>h) (y0.refl _ _),marks:=hR.marks,rows:=fun j=>?_,inj:=fun i j b' hi hj u9 J5=>?_,bF:=fun i b' hi u9=>?_,bB:=fun i b' u9=>hR.bB i b' (bl i b' u9).2,FB:=hR.FB,below:=hR.below,BW:=hR.BW,top:=fun j hd h=>(b3 j (by rw [hR.top j hd h];simp)).trans (hR.top j hd h),topn:=fun j hj=>hR.topn j (by simpa [u3] using hj),nn:=hR.nn,inc:=hR.inc,keep:=hR.keep,sol:=hR.sol,yl:=hR.ylOf (fun i=>i) (fun j l xs k e h=>?_) (fun _ _ _ _ h=>h) (fun i b' hi iJ=>by obtain ⟨e1,k1⟩:=bl i b' iJ; exact ⟨i,lv i e1 hi,k1⟩) (fun b hb => .inl hb) }⟩
 ·show s9 β' F w j (List.getD _ j .none)
  rw [row]
  split
  ·rename_i e
   subst e
   have:=hR.rows b
   rw [hb] at this
   obtain ⟨hd,bb,vs,e1,em,e2,e3,e4,e5⟩:=this
   refine ⟨hd,bb,vs,(b3 b (by rw [e1];simp)).trans e1,em,e2,e3,by simpa using e4,fun i hi=>?_⟩
   simp only [List.length_set] at hi
   rw [J6]
   split
   ·rename_i hc
    have h5:=e5 i hi
    rw [<- hc.1,hs] at h5
    rw [<- hc.1,h5.nils_inv]
    have:=v7.own (F:=F) (w:=w) b1
    simpa using this
   ·exact (e5 i hi).grow b3 (fun _ h=>h) (y0.refl _ _)
  ·split
   ·rename_i hc
    rw [<- hc.1]
    exact ⟨_,b1,rfl,rfl,.inl ⟨rfl,rfl,rfl⟩⟩
   ·exact (hR.rows j).grow b3 (fun _ h=>h) (y0.refl _ _) (fun _ _=>rfl)
 ·obtain ⟨e1,k1⟩:=bl i b' u9
  obtain ⟨e2,k2⟩:=bl j b' J5
  exact hR.inj i j b' (lv i e1 hi) (lv j e2 hj) k1 k2
 ·obtain ⟨e1,k1⟩:=bl i b' u9
  exact hR.bF i b' (lv i e1 hi) k1
 ·have h:((S.h.set t (.vec V.ty V.sz V.d V.enc [])).set b (.cells ty (cs.set c (.own t)))).getD j .none = .ctr l xs k e:=h
  rw [row] at h
  split at h
  ·cases h
  ·split at h
   ·cases h
   ·exact h
theorem Rel.canonB (hR:Rel B w0 F0 S β F a w) (t b c:Nat) (V:VT):∃ β',Rel B w0 F0 (Ev.canonB t b c V S) β' F a w:=by
 unfold Ev.canonB
 split
 ·exact ⟨β,hR⟩
 rename_i hk
 simp only [Bool.and_eq_true,Bool.not_eq_true'] at hk
 have Hy:b≠t:=fun e=>by have:=hk.2;rw [e] at this;simp at this
 split
 case h_2=>exact ⟨β,hR⟩
 rename_i ty cs o9
 have Js:(S.kill t).row b=w7 t (S.row b):=by rw [aH,if_neg Hy]
 obtain ⟨β1,h1,h2,bn⟩:=hR.kill t (hR.topn t hk.1)
 split
 ·rename_i id hs
  split
  ·exact ⟨β,hR⟩
  rename_i hb
  have R9:id≠t:=fun e=>by rw [e] at hb;simp at hb
  split
  ·exact ⟨β,hR⟩
  rename_i u2
  simp only [Bool.and_eq_true] at u2
  have Jt:=bn.rows b
  rw [Js,o9] at Jt
  obtain ⟨hd,bb,vs,e1,em,e2,e3,e4,e5⟩:=Jt
  have hc:c < cs.length:=by
   rcases Nat.lt_or_ge c cs.length with h|h
   ·exact h
   ·simp [List.getD,List.getElem?_eq_none h] at hs
  have h5:=e5 c (by simpa using hc)
  rw [n4 _ (E4 t),hs] at h5
  have KD:B3 t (.own id) = .own id:=by
   show (match Nat.beq id t with|true=>AV.any|false=>AV.own id)=AV.own id
   rw [hb]
  rw [KD] at h5
  obtain ⟨hd',g1,_⟩:=h5.own_inv
  exact bn.moved h1 R9 g1 (hR.topn id u2.1)
 ·rename_i hs
  split
  ·rename_i F5 BP dn
   refine bn.nilBox h1 Hy dn ?_ V
   rw [Js,o9] at dn
   simp only [w7,Row.cells.injEq] at dn
   rw [<- dn.2,n4 _ (E4 t),hs]
   rfl
  ·exact ⟨β,hR⟩
 ·exact ⟨β,hR⟩
theorem Rel.canonS (hR:Rel B w0 F0 S β F a w) (t:Nat) (V:VT):∃ β',Rel B w0 F0 (Ev.canonS t V S) β' F a w:=by
 unfold Ev.canonS
 split
 ·rename_i id hs
  split
  ·exact ⟨β,hR⟩
  ·rename_i hb
   have R9:id≠t:=fun e=>by rw [e] at hb;simp at hb
   split
   ·exact ⟨β,hR⟩
   ·rename_i u2
    simp only [Bool.and_eq_true] at u2
    obtain ⟨β1,h1,h2,bn⟩:=hR.kill t (hR.topn t u2.2)
    have wc:(S.kill t).t.getD t .any = .own id:=by
     simp only [St.kill]
     rw [n4 _ (E4 t),hs]
     show (match Nat.beq id t with|true=>AV.any|false=>AV.own id)=AV.own id
     rw [hb]
    exact bn.rename h1 R9 wc (hR.topn id u2.1)
 ·rename_i hs
  split
  ·exact ⟨β,hR⟩
  ·rename_i u2
   obtain ⟨β1,h1,h2,bn⟩:=hR.kill t (hR.topn t u2)
   have wc:(S.kill t).t.getD t .any = .nils:=by
    simp only [St.kill]
    rw [n4 _ (E4 t),hs]
    rfl
   exact bn.nilVec h1 wc V
 ·exact ⟨β,hR⟩
theorem Rel.canon1 (hR:Rel B w0 F0 S β F a w) (t:Nat) (V:VT):∃ β',Rel B w0 F0 (Ev.canon1 t V S) β' F a w:=by
 unfold Ev.canon1
 split
 ·exact hR.canonS t V
 ·exact hR.canonB _ _ _ V
theorem Rel.canonV:∀ (l:List (Nat×VT)) {S:St} {β:Nat->Option Hd},Rel B w0 F0 S β F a w->∃ β',Rel B w0 F0 (Ev.canonV l S) β' F a w
 | [],S,β,hR=>⟨β,hR⟩
 | (t,V) :: l,S,β,hR=>by
  obtain ⟨β1,bn⟩:=hR.canon1 t V
  exact Rel.canonV l bn
end
/- Calls that write: rows that are handed over and handed back. A helper text: it speaks of no program. -/
mutual
def AV.ren (ids:List Nat):AV->AV
 | .ptr k sz i off => .ptr (ids.getD k 0) sz i off
 | .own k => .own (ids.getD k 0)
 | .agg l => .agg (P8 ids l)
 | .tup l => .tup (P8 ids l)
 | .fn f a b => .fn f (P8 ids a) (P8 ids b)
 | x=>x
def P8 (ids:List Nat):List AV->List AV
 | []=>[]
 | a :: l=>a.ren ids :: P8 ids l
end
def x6 (ids:List Nat):Row->Row
 | .cells ty cs => .cells ty (P8 ids cs)
 | .lit ty sz z7 => .lit ty sz (z7.map (P8 ids))
 | r=>r
mutual
def AV.under (n:Nat):AV->Bool
 | .ptr k _ _ _=>Nat.blt k n
 | .own k=>Nat.blt k n
 | .mem _ _=>false
 | .mptr _ _ _=>false
 | .agg l=>O6 n l
 | .tup l=>O6 n l
 | .fn _ a b=>O6 n a && O6 n b
 | _=>true
def O6 (n:Nat):List AV->Bool
 | []=>true
 | a :: l=>a.under n && O6 n l
end
def A4 (n:Nat):Row->Bool
 | .cells _ cs=>O6 n cs
 | .lit _ _ z7=>z7.all (O6 n)
 | .ctr _ _ _ _=>false
 | _=>true
theorem n8 (ids:List Nat):∀ l,(P8 ids l).length=l.length
 | []=>rfl
 | a :: l=>by simp [P8,n8 ids l]
theorem z6 (ids:List Nat):∀ l i,(P8 ids l).getD i .any=(l.getD i .any).ren ids
 | [],i=>by simp [P8,AV.ren]
 | a :: l,0=>rfl
 | a :: l,i + 1=>by
  have:=z6 ids l i
  simpa [P8] using this
theorem A9 {n:Nat}:∀ {l:List AV},O6 n l=true->∀ i,(l.getD i .any).under n=true
 | [],_,i=>by simp [AV.under]
 | a :: l,h,0=>by simp [O6] at h;exact h.1
 | a :: l,h,i + 1=>by
  simp [O6] at h
  have:=A9 h.2 i
  simpa using this
section
variable {F:Nat->Prop} {w:World}
theorem eL {xs ys:List AV} (hl:xs.length=ys.length) (h:∀ i,i < xs.length->xs.getD i .any=ys.getD i .any):xs=ys:=by
 refine List.ext_getElem hl fun i h1 h2=>?_
 have:=h i h1
 simpa [List.getD,h1,h2] using this
theorem p9.ren_eq {x:AV} {v:Value} (h:p9 F w x v) (ids:List Nat):x.ren ids=x:=by
 induction h with
 | agg hl _ ih=>simp only [AV.ren];rw [eL (n8 _ _) fun i hi=>by rw [z6];exact ih i (by rwa [n8] at hi)]
 | tup hl _ ih=>simp only [AV.ren];rw [eL (n8 _ _) fun i hi=>by rw [z6];exact ih i (by rwa [n8] at hi)]
 | fn hl _ hm _ ih ik =>
  simp only [AV.ren]
  rw [eL (n8 ids _) fun i hi=>by rw [z6];exact ih i (by rwa [n8] at hi),eL (n8 ids _) fun i hi=>by rw [z6];exact ik i (by rwa [n8] at hi)]
 | _=>rfl
theorem v7.unren {β β':Nat->Option Hd} {ids:List Nat} {n:Nat} (hβ:∀ k,k < n->β' k=β (ids.getD k 0)) {y:AV} {v:Value} (h:v7 β F w y v):∀ {x:AV},x.under n=true->x.ren ids=y->v7 β' F w x v:=by
 have imm:∀ {y v},p9 F w y v->∀ {x:AV},x.ren ids=y->p9 F w x v:=by
  intro y v h
  induction h with
  | agg hl _ ih =>
   intro x hx
   cases x<;>simp only [AV.ren,reduceCtorEq,AV.agg.injEq] at hx
   subst hx
   rw [n8] at hl ih
   exact .agg hl fun i hi=>ih i hi (by rw [z6])
  | tup hl _ ih =>
   intro x hx
   cases x<;>simp only [AV.ren,reduceCtorEq,AV.tup.injEq] at hx
   subst hx
   rw [n8] at hl ih
   exact .tup hl fun i hi=>ih i hi (by rw [z6])
  | fn hl _ hm _ ih ik =>
   intro x hx
   cases x<;>simp only [AV.ren,reduceCtorEq,AV.fn.injEq] at hx
   obtain ⟨e0,e1,e2⟩:=hx
   subst e0;subst e1;subst e2
   rw [n8] at hl hm ih ik
   exact .fn hl (fun i hi=>ih i hi (by rw [z6])) hm (fun i hi=>ik i hi (by rw [z6]))
  | any v=>intro x hx;cases x<;>simp only [AV.ren,reduceCtorEq] at hx;exact .any _
  | tt=>intro x hx;cases x<;>simp only [AV.ren,reduceCtorEq] at hx;exact .tt
  | ff=>intro x hx;cases x<;>simp only [AV.ren,reduceCtorEq] at hx;exact .ff
  | bool b=>intro x hx;cases x<;>simp only [AV.ren,reduceCtorEq] at hx;rw [hx];exact .bool b
  | int k m=>intro x hx;cases x<;>simp only [AV.ren,reduceCtorEq] at hx;rw [hx];exact .int k m
  | str s=>intro x hx;cases x<;>simp only [AV.ren,reduceCtorEq] at hx;rw [hx];exact .str s
  | mapv c=>intro x hx;cases x<;>simp only [AV.ren,reduceCtorEq] at hx;rw [hx];exact .mapv c
  | nilp=>intro x hx;cases x<;>simp only [AV.ren,reduceCtorEq] at hx;exact .nilp
  | nils=>intro x hx;cases x<;>simp only [AV.ren,reduceCtorEq] at hx;exact .nils
  | nilf=>intro x hx;cases x<;>simp only [AV.ren,reduceCtorEq] at hx;exact .nilf
  | slnil=>intro x hx;cases x<;>simp only [AV.ren,reduceCtorEq] at hx;rw [hx];exact .slnil
  | sl g hc hb h _=>intro x hx;cases x<;>simp only [AV.ren,reduceCtorEq] at hx;rw [hx];exact .sl g hc hb h
  | sfnil=>intro x hx;cases x<;>simp only [AV.ren,reduceCtorEq] at hx;rw [hx];exact .sfnil
  | sf g hb h _=>intro x hx;cases x<;>simp only [AV.ren,reduceCtorEq] at hx;rw [hx];exact .sf g hb h
  | slcnil=>intro x hx;cases x<;>simp only [AV.ren,reduceCtorEq] at hx;rw [hx];exact .slcnil
  | slc g hc hb h _=>intro x hx;cases x<;>simp only [AV.ren,reduceCtorEq] at hx;rw [hx];exact .slc g hc hb h
  | pt g hb h _=>intro x hx;cases x<;>simp only [AV.ren,reduceCtorEq] at hx;rw [hx];exact .pt g hb h
 induction h with
 | imm h=>intro x _ hx;exact .imm (imm h hx)
 | @ptr id sz i off b hd hb hh =>
  intro x hu hx
  cases x<;>simp only [AV.ren,reduceCtorEq,AV.ptr.injEq] at hx
  obtain ⟨rfl,rfl,rfl,rfl⟩:=hx
  simp only [AV.under,Nat.blt_eq] at hu
  exact .ptr ((hβ _ hu).trans hb) hh
 | @own id hd hb =>
  intro x hu hx
  cases x<;>simp only [AV.ren,reduceCtorEq,AV.own.injEq] at hx
  subst hx
  simp only [AV.under,Nat.blt_eq] at hu
  exact .own ((hβ _ hu).trans hb)
 | mem hb hi =>
  intro x hu hx
  cases x<;>simp only [AV.ren,reduceCtorEq] at hx
  cases hu
 | mptr hb hh hi hk =>
  intro x hu hx
  cases x<;>simp only [AV.ren,reduceCtorEq] at hx
  cases hu
 | agg hl _ ih =>
  intro x hu hx
  cases x<;>simp only [AV.ren,reduceCtorEq,AV.agg.injEq] at hx
  subst hx
  rw [n8] at hl ih
  simp only [AV.under] at hu
  exact .agg hl fun i hi=>ih i hi (A9 hu i) (by rw [z6])
 | tup hl _ ih =>
  intro x hu hx
  cases x<;>simp only [AV.ren,reduceCtorEq,AV.tup.injEq] at hx
  subst hx
  rw [n8] at hl ih
  simp only [AV.under] at hu
  exact .tup hl fun i hi=>ih i hi (A9 hu i) (by rw [z6])
 | fn hl _ hm _ ih ik =>
  intro x hu hx
  cases x<;>simp only [AV.ren,reduceCtorEq,AV.fn.injEq] at hx
  obtain ⟨e0,e1,e2⟩:=hx
  subst e0;subst e1;subst e2
  rw [n8] at hl hm ih ik
  simp only [AV.under,Bool.and_eq_true] at hu
  exact .fn hl (fun i hi=>ih i hi (A9 hu.1 i) (by rw [z6])) hm (fun i hi=>ik i hi (A9 hu.2 i) (by rw [z6]))
theorem v7.ren {β β':Nat->Option Hd} {ids:List Nat} {n:Nat} (hβ:∀ k,k < n->∀ hd,β k=some hd->β' (ids.getD k 0)=some hd) {x:AV} {v:Value} (h:v7 β F w x v):x.under n=true->v7 β' F w (x.ren ids) v:=by
 induction h with
 | imm h=>intro _;rw [h.ren_eq];exact .imm h
 | ptr hb hh=>intro hu;simp only [AV.under,Nat.blt_eq] at hu;exact .ptr (hβ _ hu _ hb) hh
 | own hb=>intro hu;simp only [AV.under,Nat.blt_eq] at hu;exact .own (hβ _ hu _ hb)
 | mem=>intro hu;cases hu
 | mptr=>intro hu;cases hu
 | agg hl _ ih=>intro hu;simp only [AV.under] at hu;exact .agg (by rw [n8];exact hl) fun i hi=>by rw [z6];exact ih i (by rwa [n8] at hi) (A9 hu i)
 | tup hl _ ih=>intro hu;simp only [AV.under] at hu;exact .tup (by rw [n8];exact hl) fun i hi=>by rw [z6];exact ih i (by rwa [n8] at hi) (A9 hu i)
 | fn hl _ hm _ ih ik =>
  intro hu
  simp only [AV.under,Bool.and_eq_true] at hu
  exact .fn (by rw [n8];exact hl) (fun i hi=>by rw [z6];exact ih i (by rwa [n8] at hi) (A9 hu.1 i)) (by rw [n8];exact hm) (fun i hi=>by rw [z6];exact ik i (by rwa [n8] at hi) (A9 hu.2 i))
theorem eM (ids:List Nat) (z7:List (List AV)) (i:Nat):(z7.map (P8 ids)).getD i []=P8 ids (z7.getD i []):=by
 simp only [List.getD,List.getElem?_map]
 cases z7[i]? <;> rfl
theorem bp {β β':Nat->Option Hd} {ids:List Nat} {n k:Nat} (hβ:∀ k,k < n->β' k=β (ids.getD k 0)) (hk:k < n) {r:Row} (hu:A4 n r=true) (h:s9 β F w (ids.getD k 0) (x6 ids r)):s9 β' F w k r:=by
 cases r with
 | none=>trivial
 | ctr l xs k e=>simp [A4] at hu
 | cells ty cs =>
  obtain ⟨hd,b,vs,e1,em,e2,e3,e4,e5⟩:=h
  rw [n8] at e4 e5
  refine ⟨hd,b,vs,(hβ k hk).trans e1,em,e2,e3,e4,fun i hi=>(e5 i hi).unren hβ (A9 hu i) (by rw [z6])⟩
 | lit ty sz z7 =>
  obtain ⟨hd,b,vs,e1,em,e2,e3,e4,e5,e6,e7,e8⟩:=h
  rw [List.length_map] at e4 e5 e6 e7 e8
  refine ⟨hd,b,vs,(hβ k hk).trans e1,em,e2,e3,e4,e5,e6,e7,fun i j hi hj=>(e8 i j hi hj).unren hβ (A9 ?_ j) (by rw [eM,z6])⟩
  have hm:z7.getD i [] ∈ z7:=by simp [List.getD,hi]
  exact List.all_eq_true.1 hu _ hm
 | vec ty sz d enc l =>
  obtain ⟨hd,e1,e2⟩:=h
  exact ⟨hd,(hβ k hk).trans e1,e2⟩
 | nest ty sz j0 F5 d enc ys ho l =>
  obtain ⟨hd,e1,e2⟩:=h
  exact ⟨hd,(hβ k hk).trans e1,e2⟩
 | opq o =>
  obtain ⟨hd,e1,e2⟩:=h
  exact ⟨hd,(hβ k hk).trans e1,e2⟩
theorem dH {β β':Nat->Option Hd} {ids:List Nat} {n k:Nat} (hβ:∀ k,k < n->∀ hd,β k=some hd->β' (ids.getD k 0)=some hd) (hk:k < n) {r:Row} (h:s9 β F w k r) (hu:A4 n r=true):s9 β' F w (ids.getD k 0) (x6 ids r):=by
 cases r with
 | none=>trivial
 | ctr l xs k e=>simp [A4] at hu
 | cells ty cs =>
  obtain ⟨hd,b,vs,e1,em,e2,e3,e4,e5⟩:=h
  exact ⟨hd,b,vs,hβ _ hk _ e1,em,e2,e3,by rw [n8];exact e4,fun i hi=>by rw [z6];exact (e5 i (by rwa [n8] at hi)).ren hβ (A9 hu i)⟩
 | lit ty sz z7 =>
  obtain ⟨hd,b,vs,e1,em,e2,e3,e4,e5,e6,e7,e8⟩:=h
  refine ⟨hd,b,vs,hβ _ hk _ e1,em,e2,e3,by rw [List.length_map];exact e4,by rw [List.length_map];exact e5,by rw [List.length_map];exact e6,by rw [List.length_map];exact e7,fun i j hi hj=>?_⟩
  rw [eM,z6]
  rw [List.length_map] at hi
  have hm:z7.getD i [] ∈ z7:=by simp [List.getD,hi]
  exact (e8 i j hi hj).ren hβ (A9 (List.all_eq_true.1 hu _ hm) j)
 | vec ty sz d enc l =>
  obtain ⟨hd,e1,e2⟩:=h
  exact ⟨hd,hβ _ hk _ e1,e2⟩
 | nest ty sz j0 F5 d enc ys ho l =>
  obtain ⟨hd,e1,e2⟩:=h
  exact ⟨hd,hβ _ hk _ e1,e2⟩
 | opq o =>
  obtain ⟨hd,e1,e2⟩:=h
  exact ⟨hd,hβ _ hk _ e1,e2⟩
end
theorem H0 {ids:List Nat} {r:Row}:x6 ids r = .none↔r = .none:=by cases r<;>simp [x6]
structure pz (β:Nat->Option Hd) (F:Nat->Prop) (w:World) (rs:List Row):Prop where
 rows:∀ k,s9 β F w k (rs.getD k .none)
 inj:∀ i j b,rs.getD i .none ≠ .none->rs.getD j .none ≠ .none->o7 β i b->o7 β j b->i=j
 bF:∀ i b,rs.getD i .none ≠ .none->o7 β i b->¬ F b
 bB:∀ i b,o7 β i b->b < w.heap.size
 dead:∀ i,rs.getD i .none = .none->β i=none
def cZ (β:Nat->Option Hd) (b:Nat):Prop:=∃ k,o7 β k b
def PW (P:Program) (f:FuncId) (args:List AV) (ins:List Row) (res:AV) (l5:List Row):Prop :=
 ∀ (F:Nat->Prop) (w:World) (vs:Array Value) (β:Nat->Option Hd),(∀ b,F b->b < w.heap.size)->vs.size=args.length->(∀ i,i < args.length->v7 β F w (args.getD i .any) (vs.getD i undef))->pz β F w ins ->
  (callFunc f vs).run P w = .ok (.enter f vs) w/\Calls P f vs w fun e w'=>∃ v β' F',e = .returned v/\D6 (fun b=>w.heap.size<=b∨cZ β b) w w'/\(∀ k hd,β k=some hd->β' k=some hd)/\(∀ b,F b->F' b) /\
   (∀ b,F' b->b < w'.heap.size/\(F b∨w.heap.size<=b∨cZ β b))/\v7 β' F' w' res v/\(∀ k,s9 β' F' w' k (l5.getD k .none)) /\
   (∀ i j b,l5.getD i .none ≠ .none->l5.getD j .none ≠ .none->o7 β' i b->o7 β' j b->i=j)/\(∀ i b,l5.getD i .none ≠ .none->o7 β' i b->¬ F' b) /\
   (∀ i b,o7 β' i b->b < w'.heap.size/\(w.heap.size<=b∨cZ β b))
section
variable {P:Program} {B:Nat->Prop} {w0:World} {F0:Env P} {S:St} {β:Nat->Option Hd} {F:Nat->Prop} {a:Act} {w:World}
theorem aI (h:List Row):∀ (ids:List Nat) (rs:List Row),ids.Nodup->ids.length=rs.length->∀ j,
  (∃ k,k < ids.length/\ids.getD k 0=j/\(m0 h (ids.zip rs)).getD j .none=if j < h.length then rs.getD k .none else .none)∨(j ∉ ids/\(m0 h (ids.zip rs)).getD j .none=h.getD j .none)
 | [],[],_,_,j => .inr ⟨by simp,rfl⟩
 | i :: ids,r :: rs,hn,hl,j=>by
  obtain ⟨Ju,rG⟩:=List.nodup_cons.1 hn
  simp only [List.zip_cons_cons,m0]
  rcases aI (h.set i r) ids rs rG (by simpa using hl) j with ⟨k,h1,h2,h3⟩|⟨h1,h2⟩
  ·exact .inl ⟨k + 1,by simpa using h1,by simpa using h2,by rw [h3,List.length_set];simp⟩
  ·by_cases e:j=i
   ·subst e
    refine .inl ⟨0,by simp,by simp,?_⟩
    rw [h2,l9]
    by_cases u2:j < h.length
    ·simp [u2]
    ·simp [u2,List.getElem?_eq_none (Nat.le_of_not_lt u2)]
   ·refine .inr ⟨by simp [e,h1],?_⟩
    rw [h2,l9,if_neg fun hc=>e hc.1.symm]
theorem Rel.calledW (hR:Rel B w0 F0 S β F a w) {ids news:List Nat} (hn:(ids++news).Nodup) (u5:∀ d ∈ news,β d=none) {w':World} {βi β':Nat->Option Hd} {F':Nat->Prop} {l5:List Row} {res:AV} {v:Value} {dst:Option Nat}
  (uF:∀ k,k < ids.length->βi k=β (ids.getD k 0)/\S.row (ids.getD k 0) ≠ .none) (ET:∀ k,ids.length<=k->βi k=none)
  (bU:D6 (fun b=>w.heap.size<=b∨cZ βi b) w w') (dF:∀ k hd,βi k=some hd->β' k=some hd) (hF:∀ b,F b->F' b) (wg:∀ b,F' b->b < w'.heap.size/\(F b∨w.heap.size<=b∨cZ βi b))
  (Hz:v7 β' F' w' res v) (HA:res.under (ids++news).length=true) (bZ:∀ k,s9 β' F' w' k (l5.getD k .none)) (BQ:∀ k,A4 (ids++news).length (l5.getD k .none)=true) (EU:l5.length=(ids++news).length)
  (eh:∀ i j b,l5.getD i .none ≠ .none->l5.getD j .none ≠ .none->o7 β' i b->o7 β' j b->i=j) (Ey:∀ i b,l5.getD i .none ≠ .none->o7 β' i b->¬ F' b)
  (oN:∀ i b,o7 β' i b->b < w'.heap.size/\(w.heap.size<=b∨cZ βi b)) :
  ∃ β'' uG,Rel B w0 F0 (S.put dst ⟨res.ren (ids++news),(ids++news).zip (l5.map (x6 (ids++news)))⟩) β'' uG (a.put dst v) w'/\∀ j,(j ∉ ids++news∨β j≠none)->β'' j=β j:=by
 classical
 generalize ez:ids++news=all at *
 let β'':Nat->Option Hd:=fun j=>if β j=none then (if h:∃ k,k < all.length/\all.getD k 0=j then β' (Classical.choose h) else none) else β j
 have uniq:∀ k k',k < all.length->k' < all.length->all.getD k 0=all.getD k' 0->k=k':=fun k k' h h' e=>by
  have e':all[k]=all[k']:=by simpa [List.getD,h,h'] using e
  have hp:=List.pairwise_iff_getElem.1 hn
  rcases Nat.lt_trichotomy k k' with u2|rfl|kX
  ·exact absurd e' (hp k k' h h' u2)
  ·rfl
  ·exact absurd e'.symm (hp k' k h' h kX)
 have f1:∀ j,β j≠none->β'' j=β j:=fun j hj=>by simp [β'',hj]
 have f0:∀ k,k < all.length->β (all.getD k 0)=none->β'' (all.getD k 0)=β' k:=fun k hk h0=>by
  have hex:∃ k',k' < all.length/\all.getD k' 0=all.getD k 0:=⟨k,hk,rfl⟩
  simp only [β'',h0,if_true,dif_pos hex]
  exact congrArg β' (uniq _ _ (Classical.choose_spec hex).1 hk (Classical.choose_spec hex).2)
 have KE:∀ k,k < ids.length->all.getD k 0=ids.getD k 0:=fun k hk=>by rw [<- ez];simp [List.getD,List.getElem?_append,hk]
 have live:∀ k,k < ids.length->∃ hd,β (ids.getD k 0)=some hd/\β' k=some hd:=fun k hk=>by
  obtain ⟨hd,h⟩:=(hR.rows (ids.getD k 0)).some (uF k hk).2
  exact ⟨hd,h,dF k hd ((uF k hk).1.trans h)⟩
 have f2:∀ k,k < all.length->∀ hd,β' k=some hd->β'' (all.getD k 0)=some hd:=fun k hk hd h=>by
  by_cases wh:k < ids.length
  ·obtain ⟨hd',h1,h2⟩:=live k wh
   rw [KE k wh,f1 _ (by rw [h1];simp),h1,<- h2,h]
  ·rw [f0 k hk,h]
   refine u5 _ ?_
   rw [<- ez]
   have:k - ids.length < news.length:=by rw [<- ez] at hk;simp at hk;omega
   simp [List.getD,List.getElem?_append,wh,this]
 have CI:∀ b,cZ βi b->∃ k,k < ids.length/\o7 β (ids.getD k 0) b:=fun b ⟨k,h⟩=>by
  by_cases wh:k < ids.length
  ·exact ⟨k,wh,by have:=(uF k wh).1;simpa [o7,this] using h⟩
  ·have:=ET k (Nat.le_of_not_lt wh);simp [o7,this] at h
 have CJ:∀ k,k < ids.length->ids.getD k 0 ∈ all:=fun k hk=>by rw [<- ez];simp [List.getD,hk]
 have Ah:∀ j b,j ∉ all->S.row j ≠ .none->o7 β j b->¬ cZ βi b:=fun j b hj hl hb hx=>by
  obtain ⟨k,hk,rH⟩:=CI b hx
  exact hj (hR.inj j _ b hl (uF k hk).2 hb rH ▸ CJ k hk)
 have hk:y0 F w w':=fun b o u EV hc=>by
  have hb:=bU.block b (by
   rintro (h|h)
   ·have:=(hR.FB b EV).1;omega
   ·obtain ⟨k,hk,rH⟩:=CI b h
    exact hR.bF _ b (uF k hk).2 rH EV)
  rw [World.cell?_of_block (w:=w) hb];exact hc
 have hg:∀ k,(l5.map (x6 all)).getD k .none=x6 all (l5.getD k .none):=fun k=>by
  simp only [List.getD,List.getElem?_map]
  cases l5[k]? <;> rfl
 have hz:=aI S.h all (l5.map (x6 all)) hn (by rw [List.length_map,EU])
 have same:∀ j b,j ∉ all->S.row j ≠ .none->o7 β j b->w'.heap[b]? = w.heap[b]? := fun j b hj hl hb=>bU.block b (by
  rintro (h|h)
  ·have:=(hR.bB j b hb).2;omega
  ·exact Ah j b hj hl hb h)
 -- the rows that live behind the call
 have lv:∀ i b,(m0 S.h (all.zip (l5.map (x6 all)))).getD i .none ≠ .none->o7 β'' i b ->
   (∃ k,k < all.length/\all.getD k 0=i/\l5.getD k .none ≠ .none/\o7 β' k b)∨(i ∉ all/\S.row i ≠ .none/\o7 β i b):=fun i b hi hb=>by
  rcases hz i with ⟨k,h1,h2,h3⟩|⟨h1,h2⟩
  ·rw [h3] at hi
   split at hi
   ·rw [hg] at hi
    have ho:l5.getD k .none ≠ .none:=fun e=>hi (by rw [e];rfl)
    obtain ⟨hd,pd⟩:=(bZ k).some ho
    refine .inl ⟨k,h1,h2,ho,?_⟩
    have:=f2 k h1 hd pd
    rw [h2] at this
    simp only [o7,this] at hb
    simpa [o7,pd] using hb
   ·exact absurd rfl hi
  ·rw [h2] at hi
   obtain ⟨hd,pd⟩:=(hR.rows i).some hi
   refine .inr ⟨h1,hi,?_⟩
   have:=f1 i (by rw [pd];simp)
   simpa [o7,this] using hb
 have eN:∀ j,(j ∉ all∨β j≠none)->β'' j=β j:=fun j hj=>by
  by_cases h0:β j=none
  ·have hj:j ∉ all:=hj.resolve_right fun h=>h h0
   have:¬ ∃ k,k < all.length/\all.getD k 0=j:=fun ⟨k,hk,e⟩=>hj (by rw [<- e];simp [List.getD,hk])
   simp only [β'',h0,if_true,dif_neg this]
  ·exact f1 j h0
 refine ⟨β'',F',hR.step f1 hF (fun b hb=>?_) hk ⟨bU.os,bU.tape,bU.output⟩ bU.size (Hz.ren f2 HA) (fun j=>?_) (fun i j b hi hj u9 J5=>?_) (fun i b hi u9=>?_) (fun i b u9=>?_) (fun b hb hn=>bU.block b ?_) (fun i b hi u9=>?_) (fun b hb=>?_) (fun id l xs k e h=>?_),eN⟩
 ·obtain ⟨h1,h2⟩:=wg b hb
  refine ⟨h1,?_⟩
  rcases h2 with h|h|h
  ·exact (hR.FB b h).2
  ·exact .inr (hR.BW b h)
  ·obtain ⟨k,_,rH⟩:=CI b h
   exact .inr (hR.bB _ b rH).1
 ·rcases hz j with ⟨k,h1,h2,h3⟩|⟨h1,h2⟩
  ·rw [h3]
   split
   ·rw [hg,<- h2]
    exact dH f2 h1 (bZ k) (BQ k)
   ·trivial
  ·rw [h2]
   by_cases hn:S.row j = .none
   ·have:S.h.getD j .none = .none:=hn
    rw [this];trivial
   ·exact (hR.rows j).grow f1 hF hk fun b hb=>same j b h1 hn hb
 ·rcases lv i b hi u9 with ⟨k,l1,l2,l3,l4⟩|⟨l1,l2,l3⟩<;>rcases lv j b hj J5 with ⟨k',m1,m2,m3,m4⟩|⟨m1,m2,m3⟩
  ·rw [<- l2,<- m2,eh k k' b l3 m3 l4 m4]
  ·rcases (oN k b l4).2 with h|h
   ·have:=(hR.bB j b m3).2;omega
   ·exact absurd h (Ah j b m1 m2 m3)
  ·rcases (oN k' b m4).2 with h|h
   ·have:=(hR.bB i b l3).2;omega
   ·exact absurd h (Ah i b l1 l2 l3)
  ·exact hR.inj i j b l2 m2 l3 m3
 ·intro EV
  rcases lv i b hi u9 with ⟨k,l1,l2,l3,l4⟩|⟨l1,l2,l3⟩
  ·exact Ey k b l3 l4 EV
  ·rcases (wg b EV).2 with h|h|h
   ·exact hR.bF i b l2 l3 h
   ·have:=(hR.bB i b l3).2;omega
   ·exact Ah i b l1 l2 l3 h
 ·by_cases h0:β i=none
  ·simp only [o7,β'',h0,if_true] at u9
   split at u9
   ·rename_i hex
    obtain ⟨h1,h2⟩:=oN _ b u9
    refine ⟨?_,h1⟩
    rcases h2 with h|h
    ·exact hR.BW b h
    ·obtain ⟨k,_,rH⟩:=CI b h
     exact (hR.bB _ b rH).1
   ·simp at u9
  ·have:=f1 i h0
   simp only [o7,this] at u9
   have:=hR.bB i b u9
   exact ⟨this.1,Nat.lt_of_lt_of_le this.2 bU.size⟩
 ·rintro (h|h)
  ·omega
  ·obtain ⟨k,hk,rH⟩:=CI b h
   exact hn _ (uF k hk).2 rH
 ·rcases lv i b hi u9 with ⟨k,l1,l2,l3,l4⟩|⟨l1,l2,l3⟩
  ·rcases (oN k b l4).2 with h|h
   ·exact .inr h
   ·obtain ⟨k',fJ,rH⟩:=CI b h
    exact .inl ⟨_,(uF k' fJ).2,rH⟩
  ·exact .inl ⟨i,l2,l3⟩
 ·rcases (wg b hb).2 with h|h|h
  ·exact .inl h
  ·exact .inr (.inr h)
  ·obtain ⟨k',fJ,rH⟩:=CI b h
   exact .inr (.inl ⟨_,(uF k' fJ).2,rH⟩)
 ·rcases hz id with ⟨k',h1,h2,h3⟩|⟨h1,h2⟩
  ·rw [h3] at h
   split at h
   ·rw [hg] at h
    have hu:=BQ k'
    cases ho:l5.getD k' .none<;>rw [ho] at h hu<;>simp [x6,A4] at h hu
   ·cases h
  ·rw [h2] at h;exact h
end

end Go.Ev
