/- A helper text: contracts of functions of the program, and plain lemmas. -/
import Derived.Test.YtdpnpdjnaimgaaaGreatEvThree
import Derived.KernelRfl
import Derived.Deep.LoopGhost
set_option linter.unusedVariables false
set_option linter.unusedSimpArgs false
/- All operations together; what they read; regions. A helper text: it speaks of no program. -/
namespace Go.Ev
section
variable {P:Program} {B:Nat->Prop} {w0:World} {F0:Env P} {S:St} {β:Nat->Option Hd} {F:Nat->Prop} {a:Act} {w:World}
def E0:Op->Bool
 | .alloc _=>true
 | .box .. => true
 | .buildSlice .. => true
 | .makeSlice .. => true
 | .call c=>match c.callee with
  | .builtin .append=>true
  | _=>false
 | _=>false
theorem a6m (hR:Rel B w0 F0 S β F a w) {o:Oper} {x:Operand} (ho:o.op = .move x∨o.op = .assign x) {K:Out->List Nat->Prop} (h:K ⟨S.get x,[]⟩ []) {Q:Exit->Act->World->Prop} :
  o.wp P a w (i7 B w0 F0 S β o.dst K) Q:=by
 refine P9 (v:=a.eval x) (w':=w) ?_ (i7.still hR (hR.get x) h)
 rcases ho with ho | ho<;>simp [execOp,ho]
theorem b1l (hR:Rel B w0 F0 S β F a w) {o:Oper} {c x y:Operand} (ho:o.op = .pick c x y) {K:Out->List Nat->Prop} (h:evOp P o.dst (.pick c x y) S.get S.row K) {Q:Exit->Act->World->Prop} :
  o.wp P a w (i7 B w0 F0 S β o.dst K) Q:=by
 simp only [evOp] at h
 have hc:=hR.get c
 split at h
 ·rename_i hg
  rw [hg] at hc
  exact P9 (v:=a.eval x) (w':=w) (by simp [execOp,ho,hc.tt_inv,asBool]) (i7.still hR (hR.get x) h)
 ·rename_i hg
  rw [hg] at hc
  exact P9 (v:=a.eval y) (w':=w) (by simp [execOp,ho,hc.ff_inv,asBool]) (i7.still hR (hR.get y) h)
 ·rename_i b hg
  rw [hg] at hc
  cases b
  ·exact P9 (v:=a.eval y) (w':=w) (by simp [execOp,ho,hc.bool_inv,asBool]) (i7.still hR (hR.get y) (h.2 rfl))
  ·exact P9 (v:=a.eval x) (w':=w) (by simp [execOp,ho,hc.bool_inv,asBool]) (i7.still hR (hR.get x) (h.1 rfl))
 ·exact h.elim
theorem b1m (hR:Rel B w0 F0 S β F a w) {o:Oper} (hfree:E0 o.op=true->∀ d,o.dst=some d->β d=none) {K:Out->List Nat->Prop} (h:evOp P o.dst o.op S.get S.row K) {Q:Exit->Act->World->Prop} :
  o.wp P a w (i7 B w0 F0 S β o.dst K) Q:=by
 cases ho:o.op<;>rw [ho] at h hfree
 case move x=>exact a6m hR (.inl ho) h
 case assign x=>exact a6m hR (.inr ho) h
 case pick c x y=>exact b1l hR ho h
 case alloc t=>exact a95 hR ho (hfree rfl) h
 case box t x=>exact b3b hR ho (hfree rfl) h
 case build t ps=>exact a96 hR ho h
 case buildSlice t n ps=>exact a2j hR ho (hfree rfl) h
 case load t x=>exact b1j hR ho h
 case store t x y=>exact a97 hR ho h
 case nilCheck x=>exact a41 hR ho h
 case index t x i=>exact a98 hR ho h
 case binOp op t x y yt =>
  obtain ⟨r,v,h1,h2,h3⟩:=a94 (P:=P) x y (hR.get x) (hR.get y) h
  exact v7 (s:=do eqGuard op t x y (a.eval x) (a.eval y); binOp op t (a.eval x) (a.eval y)) (by simp [execOp,ho]) h1 (i7.still hR h2 h3)
 case unOp op t x =>
  simp only [evOp] at h
  obtain ⟨r,v,h1,h2,h3⟩:=b1i (P:=P) (hR.get x) h
  exact v7 (s:=Op.unary op (a.eval x)) (by simp [execOp,ho]) h1 (i7.still hR h2 h3)
 case convert src t x=>exact a6l hR ho h
 case makeFunc f xs ys=>exact a40 hR ho h
 case makeSlice t x y=>exact a3F hR ho (hfree rfl) h
 case slice t x lo hi mx=>exact b0a hR ho h
 case fieldAddr s x f=>exact a3D hR ho h
 case indexAddr t x i=>exact a3E hR ho h
 case extract x i=>exact a6k hR ho h
 case call c =>
  cases hc:c.callee with
  | value f=>exact b1k hR ho hc h
  | invoke r m=>simp [evOp,hc] at h
  | builtin b =>
   cases b
   case len=>exact b3c hR ho hc h
   case max=>exact b3d hR ho hc h
   case min=>exact b3e hR ho hc h
   case append=>exact a8e hR ho hc (hfree (by simp [E0,hc])) h
   all_goals simp [evOp,hc] at h
 all_goals simp [evOp] at h
theorem a6n {op:BinOp} {lit:Bool} {k k':IntKind} {x y:Int} {K:AV->Prop} (h:a3W op lit k x k' y K):∃ v,K v/\a3W op lit k x k' y (fun u=>u=v):=by
 cases op
 case shl=>obtain ⟨h1,h2⟩:=(m0 _ _ _).1 h; exact ⟨_,h2,(m0 _ _ _).2 ⟨h1,rfl⟩⟩
 case shr=>obtain ⟨h1,h2⟩:=(m0 _ _ _).1 h; exact ⟨_,h2,(m0 _ _ _).2 ⟨h1,rfl⟩⟩
 all_goals
  simp only [a3W] at h ⊢
  by_cases hk:k=k'
  ·simp only [hk,decide_true] at h ⊢
   first
    | (obtain ⟨h1,h2⟩:=(m0 _ _ _).1 h; exact ⟨_,h2,(m0 _ _ _).2 ⟨h1,rfl⟩⟩)
    | exact ⟨_,h,rfl⟩
  ·simp [hk] at h
theorem a0N {op:BinOp} {x y:AV} {K:AV->Prop} (h:C3 op (K x) (K y)):∃ v,K v/\C3 op (x=v) (y=v):=by
 cases op<;>first | exact h.elim | exact ⟨_,h,rfl⟩
theorem a6o {op:BinOp} {t:TypeId} {lit:Bool} {x y:AV} {K:AV->Prop} (h:a3X P op t lit x y K):∃ v,K v/\a3X P op t lit x y (fun u=>u=v):=by
  unfold a3X at h ⊢
  repeat' split at h
  all_goals first
    | exact h.elim
    | exact a6n h
    | exact a0N h
    | (obtain ⟨hok,h⟩:=h
       repeat' split at h
       all_goals first
         | exact h.elim
         | (obtain ⟨v,h1,h2⟩:=a0N h
            exact ⟨v,h1,hok,by simp only [*]⟩))
theorem a8f {op:UnOp} {x:AV} {K:AV->Prop} (h:evUn op x K):∃ v,K v/\evUn op x (fun u=>u=v):=by
 unfold evUn at h ⊢
 split at h
 all_goals first
  | exact h.elim
  | exact ⟨_,h,rfl⟩
def sees (op:Op):List Operand:=op.operands.toList
theorem a2k {r r':Nat->Row} {x:AV} {D:SlD} (h:IsSl r x D) (hr:∀ i ∈ M6 x,r' i=r i):IsSl r' x D:=by
 cases x<;>simp only [IsSl] at h ⊢<;>first | exact h | (rw [hr _ (by simp [M6])]; exact h)
theorem a43 {r r':Nat->Row} {e:TypeId} {x:AV} (h:a1f r e x=true) (hr:∀ i ∈ M6 x,r' i=r i):a1f r' e x=true:=by
 cases x<;>simp only [a1f] at h ⊢<;>first | exact h | (rw [hr _ (by simp [M6])]; exact h)
theorem a44 {r r':Nat->Row} {x y:AV} (h:P7 r x y=true) (hr:∀ i ∈ M6 y,r' i=r i):P7 r' x y=true:=by
 cases x with
 | sf sz d enc l =>
  cases y with
  | own q =>
   simp only [P7] at h ⊢
   rw [hr q (by simp [M6])]
   exact h
  | _=>exact h
 | _=>exact h
theorem a8g {dst:Option Nat} {op:Op} {g:Operand->AV} {r:Nat->Row} {K:Out->List Nat->Prop} (h:evOp P dst op g r K) :
    ∃ out rd,K out rd/\∀ g' r',(∀ x ∈ sees op,g' x=g x)->(∀ i ∈ rd,r' i=r i)->evOp P dst op g' r' (fun o d=>o=out/\d=rd):=by
  cases op
  case move x=>exact ⟨_,_,h,fun g' r' hg hr=>by simp only [evOp]; rw [hg x (by simp [sees,Op.operands])]; exact ⟨rfl,trivial⟩⟩
  case assign x=>exact ⟨_,_,h,fun g' r' hg hr=>by simp only [evOp]; rw [hg x (by simp [sees,Op.operands])]; exact ⟨rfl,trivial⟩⟩
  case pick c x y =>
    simp only [evOp] at h
    have e:∀ g':Operand->AV,(∀ z ∈ sees (.pick c x y),g' z=g z)->g' c=g c/\g' x=g x/\g' y=g y:=fun g' hg=>⟨hg _ (by simp [sees,Op.operands]),hg _ (by simp [sees,Op.operands]),hg _ (by simp [sees,Op.operands])⟩
    split at h
    · rename_i hc
      exact ⟨_,_,h,fun g' r' hg hr=>by obtain ⟨e1,e2,e3⟩:=e g' hg; simp [evOp,e1,e2,hc]⟩
    · rename_i hc
      exact ⟨_,_,h,fun g' r' hg hr=>by obtain ⟨e1,e2,e3⟩:=e g' hg; simp [evOp,e1,e3,hc]⟩
    · rename_i b hc
      cases b
      · exact ⟨_,_,h.2 rfl,fun g' r' hg hr=>by obtain ⟨e1,e2,e3⟩:=e g' hg; simp [evOp,e1,e3,hc]⟩
      · exact ⟨_,_,h.1 rfl,fun g' r' hg hr=>by obtain ⟨e1,e2,e3⟩:=e g' hg; simp [evOp,e1,e2,hc]⟩
    · exact h.elim
  case alloc t =>
    simp only [evOp] at h
    split at h
    · rename_i d cs hz
      exact ⟨_,_,h,fun g' r' hg hr=>by simp only [evOp,hz]; exact ⟨trivial,trivial⟩⟩
    · exact h.elim
  case box t x =>
    simp only [evOp] at h
    split at h
    · rename_i d cs hz
      exact ⟨_,_,h,fun g' r' hg hr=>by simp only [evOp]; rw [hg x (by simp [sees,Op.operands]),hz]; exact ⟨rfl,trivial⟩⟩
    · exact h.elim
  case build t ps =>
    have e:∀ g':Operand->AV,(∀ z ∈ sees (.build t ps),g' z=g z)->(ps.toList.map fun p=>(p.1,g' p.2))=ps.toList.map fun p=>(p.1,g p.2):=fun g' hg =>
      List.map_congr_left fun p hp=>by rw [hg p.2 (by simp only [sees,Op.operands]; exact List.mem_map.2 ⟨p,hp,rfl⟩)]
    simp only [evOp] at h
    repeat' split at h
    all_goals first
      | exact h.elim
      | exact ⟨_,_,h,fun g' r' hg hr=>by simp only [evOp,e g' hg, *]; exact ⟨trivial,trivial⟩⟩
  case buildSlice t n ps =>
    have e:∀ g':Operand->AV,(∀ z ∈ sees (.buildSlice t n ps),g' z=g z)->(ps.toList.map fun p=>(p.1,g' p.2))=ps.toList.map fun p=>(p.1,g p.2):=fun g' hg =>
      List.map_congr_left fun p hp=>by rw [hg p.2 (by simp only [sees,Op.operands]; exact List.mem_map.2 ⟨p,hp,rfl⟩)]
    simp only [evOp] at h
    repeat' split at h
    all_goals first
      | exact h.elim
      | exact ⟨_,_,h,fun g' r' hg hr=>by simp only [evOp,e g' hg, *]; exact ⟨trivial,trivial⟩⟩
  case load t x =>
    have e:∀ g':Operand->AV,(∀ z ∈ sees (.load t x),g' z=g z)->g' x=g x:=fun g' hg=>hg _ (by simp [sees,Op.operands])
    simp only [evOp] at h
    repeat' split at h
    all_goals first
      | exact h.elim
      | exact ⟨_,_,h,fun g' r' hg hr=>by simp only [evOp,e g' hg, *]; exact ⟨trivial,trivial⟩⟩
      | exact ⟨_,_,h,fun g' r' hg hr=>by simp only [evOp,e g' hg,hr _ (List.mem_singleton.2 rfl), *]; exact ⟨trivial,trivial⟩⟩
      | exact ⟨_,_,h.2,fun g' r' hg hr=>by simp only [evOp,e g' hg,hr _ (List.mem_singleton.2 rfl), *]; exact ⟨trivial,trivial,trivial⟩⟩
  case store t x y =>
    have e:∀ g':Operand->AV,(∀ z ∈ sees (.store t x y),g' z=g z)->g' x=g x/\g' y=g y:=fun g' hg=>⟨hg _ (by simp [sees,Op.operands]),hg _ (by simp [sees,Op.operands])⟩
    simp only [evOp] at h
    repeat' split at h
    all_goals first
      | exact h.elim
      | exact ⟨_,_,h,fun g' r' hg hr=>by simp only [evOp,(e g' hg).1,(e g' hg).2,hr _ (List.mem_singleton.2 rfl), *]; exact ⟨trivial,trivial⟩⟩
      | (obtain ⟨z,h1,h2,h3⟩:=h
         exact ⟨_,_,h3,fun g' r' hg hr=>by simp only [evOp,(e g' hg).1,(e g' hg).2,hr _ (List.mem_singleton.2 rfl), *]; exact ⟨z,h1,trivial,rfl,trivial⟩⟩)
  case nilCheck x =>
    have e:∀ g':Operand->AV,(∀ z ∈ sees (.nilCheck x),g' z=g z)->g' x=g x:=fun g' hg=>hg _ (by simp [sees,Op.operands])
    simp only [evOp] at h
    repeat' split at h
    all_goals first
      | exact h.elim
      | exact ⟨_,_,h,fun g' r' hg hr=>by simp only [evOp,e g' hg, *]; exact ⟨trivial,trivial⟩⟩
  case binOp op t x y yt =>
    have e:∀ g':Operand->AV,(∀ z ∈ sees (.binOp op t x y yt),g' z=g z)->g' x=g x/\g' y=g y:=fun g' hg=>⟨hg _ (by simp [sees,Op.operands]),hg _ (by simp [sees,Op.operands])⟩
    obtain ⟨v,h1,h2⟩:=a6o h
    refine ⟨_,_,h1,fun g' r' hg hr => ?_⟩
    simp only [evOp,(e g' hg).1,(e g' hg).2]
    simpa using h2
  case unOp op t x =>
    have e:∀ g':Operand->AV,(∀ z ∈ sees (.unOp op t x),g' z=g z)->g' x=g x:=fun g' hg=>hg _ (by simp [sees,Op.operands])
    simp only [evOp] at h
    obtain ⟨v,h1,h2⟩:=a8f h
    refine ⟨_,_,h1,fun g' r' hg hr => ?_⟩
    simp only [evOp,e g' hg]
    simpa using h2
  case convert src t x =>
    have e:∀ g':Operand->AV,(∀ z ∈ sees (.convert src t x),g' z=g z)->g' x=g x:=fun g' hg=>hg _ (by simp [sees,Op.operands])
    simp only [evOp] at h
    repeat' split at h
    all_goals first
      | exact h.elim
      | exact ⟨_,_,h,fun g' r' hg hr=>by simp only [evOp,e g' hg, *]; exact ⟨trivial,trivial⟩⟩
  case makeFunc f xs ys =>
    have e1:∀ g':Operand->AV,(∀ z ∈ sees (.makeFunc f xs ys),g' z=g z)->xs.toList.map g'=xs.toList.map g:=fun g' hg=>List.map_congr_left fun p hp=>hg p (by simp only [sees,Op.operands,Array.toList_append]; exact List.mem_append_left _ hp)
    have e2:∀ g':Operand->AV,(∀ z ∈ sees (.makeFunc f xs ys),g' z=g z)->ys.toList.map g'=ys.toList.map g:=fun g' hg=>List.map_congr_left fun p hp=>hg p (by simp only [sees,Op.operands,Array.toList_append]; exact List.mem_append_right _ hp)
    exact ⟨_,_,h,fun g' r' hg hr=>by simp only [evOp,e1 g' hg,e2 g' hg]; exact ⟨trivial,trivial⟩⟩
  case makeSlice t x y =>
    have e:∀ g':Operand->AV,(∀ z ∈ sees (.makeSlice t x y),g' z=g z)->g' x=g x/\g' y=g y:=fun g' hg=>⟨hg _ (by simp [sees,Op.operands]),hg _ (by simp [sees,Op.operands])⟩
    simp only [evOp] at h
    repeat' split at h
    all_goals first
      | exact h.elim
      | (obtain ⟨α,z,enc,h1,h2,h3,h4,h5,h6⟩:=h
         subst h2
         exact ⟨_,_,h6,fun g' r' hg hr=>by simp only [evOp,(e g' hg).1,(e g' hg).2, *]; exact ⟨α,z,enc,h1,trivial,trivial,trivial,trivial,rfl,trivial⟩⟩)
  case slice t x lo hi mx =>
    have e:∀ g':Operand->AV,(∀ z ∈ sees (.slice t x lo hi mx),g' z=g z)->g' x=g x/\(∀ l:AV,bnd g' lo l=bnd g lo l)/\∀ l:AV,bnd g' hi l=bnd g hi l:=fun g' hg=>by
      refine ⟨hg _ (by simp [sees,Op.operands]),fun l => ?_,fun l => ?_⟩
      · cases lo with
        | none=>rfl
        | some y=>exact hg y (by simp [sees,Op.operands])
      · cases hi with
        | none=>rfl
        | some y=>exact hg y (by simp [sees,Op.operands])
    by_cases hmx:mx=none
    case neg =>
      obtain ⟨m,rfl⟩:∃ m,mx=some m:=by cases mx with
        | none=>exact absurd rfl hmx
        | some m=>exact ⟨m,rfl⟩
      simp only [evOp] at h
      split at h
      case h_2=>exact h.elim
      rename_i hh
      split at h
      case h_2=>exact h.elim
      rename_i e' hu
      split at h
      case h_2=>exact h.elim
      rename_i inf hi'
      split at h
      case h_2=>exact h.elim
      rename_i α sz d enc l hg
      split at h
      case h_2=>exact h.elim
      rename_i hsz
      split at h
      case h_2=>exact h.elim
      rename_i kb q kc c hhi hmx'
      obtain ⟨hob,hK⟩:=(m0 _ _ _).1 h
      refine ⟨_,_,hK,fun g' r' hg' hr => ?_⟩
      have e1:=hg' x (by simp [sees,Op.operands])
      have e2:=hg' hh (by simp [sees,Op.operands])
      have e3:=hg' m (by simp [sees,Op.operands])
      simp only [evOp,hu,hi',e1,e2,e3,hg,hsz,hhi,hmx']
      exact (m0 _ _ _).2 ⟨hob,by simp⟩
    subst hmx
    simp only [evOp] at h
    split at h
    case h_2=>exact h.elim
    rename_i e' hu
    split at h
    case h_2=>exact h.elim
    rename_i inf hi'
    split at h
    case h_2=>exact h.elim
    rename_i α sz d enc l hgx
    split at h
    case h_2=>exact h.elim
    rename_i hsz
    split at h
    case h_2=>exact h.elim
    rename_i ka p kb q hlo hhi
    obtain ⟨h1,hK⟩:=(m0 _ _ _).1 h
    refine ⟨_,_,hK,fun g' r' hg hr => ?_⟩
    obtain ⟨e1,e2,e3⟩:=e g' hg
    simp only [evOp,hu,hi',e1,hgx,hsz,e2,e3,hlo,hhi]
    exact (m0 _ _ _).2 ⟨h1,by simp⟩
  case fieldAddr s x f =>
    have e:∀ g':Operand->AV,(∀ z ∈ sees (.fieldAddr s x f),g' z=g z)->g' x=g x:=fun g' hg=>hg _ (by simp [sees,Op.operands])
    simp only [evOp] at h
    repeat' split at h
    all_goals first
      | exact h.elim
      | exact ⟨_,_,h,fun g' r' hg hr=>by simp only [evOp,e g' hg, *]; exact ⟨trivial,trivial⟩⟩
  case extract x i =>
    have e:∀ g':Operand->AV,(∀ z ∈ sees (.extract x i),g' z=g z)->g' x=g x:=fun g' hg=>hg _ (by simp [sees,Op.operands])
    simp only [evOp] at h
    repeat' split at h
    all_goals first
      | exact h.elim
      | exact ⟨_,_,h,fun g' r' hg hr=>by simp only [evOp,e g' hg, *]; exact ⟨trivial,trivial⟩⟩
  case index t x i =>
    have e:∀ g':Operand->AV,(∀ z ∈ sees (.index t x i),g' z=g z)->g' x=g x/\g' i=g i:=fun g' hg=>⟨hg _ (by simp [sees,Op.operands]),hg _ (by simp [sees,Op.operands])⟩
    simp only [evOp] at h
    split at h
    case h_2=>exact h.elim
    rename_i k n hn
    split at h
    · rename_i s hgx
      split at h
      case h_2=>exact h.elim
      rename_i hu
      obtain ⟨h1,h2⟩:=(m0 _ _ _).1 h
      refine ⟨_,_,h2,fun g' r' hg hr => ?_⟩
      simp only [evOp,(e g' hg).1,(e g' hg).2,hn,hu,hgx]
      exact (m0 _ _ _).2 ⟨h1,by simp⟩
    · rename_i l hgx
      split at h
      case h_2=>exact h.elim
      rename_i len e' hu
      split at h
      case h_2=>exact h.elim
      rename_i inf d hi hd
      split at h
      case h_2=>exact h.elim
      rename_i hc
      obtain ⟨h1,h2⟩:=(m0 _ _ _).1 h
      refine ⟨_,_,h2,fun g' r' hg hr => ?_⟩
      simp only [evOp,(e g' hg).1,(e g' hg).2,hn,hu,hgx,hi,hd,hc]
      exact (m0 _ _ _).2 ⟨h1,by simp⟩
    · exact h.elim
  case indexAddr t x i =>
    have e:∀ g':Operand->AV,(∀ z ∈ sees (.indexAddr t x i),g' z=g z)->g' x=g x/\g' i=g i:=fun g' hg=>⟨hg _ (by simp [sees,Op.operands]),hg _ (by simp [sees,Op.operands])⟩
    simp only [evOp] at h
    split at h
    case h_2=>exact h.elim
    rename_i k n hn
    split at h
    · rename_i e' hu
      split at h
      case h_2=>exact h.elim
      rename_i inf hi
      split at h
      · rename_i hgx
        split at h
        case h_2=>exact h.elim
        rename_i hsz
        obtain ⟨h1,h2⟩:=(m0 _ _ _).1 h
        split at h2
        case h_2=>exact h2.elim
        rename_i hlen
        refine ⟨_,_,h2,fun g' r' hg hr => ?_⟩
        simp only [evOp,(e g' hg).1,(e g' hg).2,hn,hu,hi,hgx,hsz,hlen]
        exact (m0 _ _ _).2 ⟨h1,by simp⟩
      · rename_i hgx
        split at h
        case h_2=>exact h.elim
        rename_i hsz
        obtain ⟨h1,h2⟩:=(m0 _ _ _).1 h
        split at h2
        case h_2=>exact h2.elim
        rename_i hlen
        refine ⟨_,_,h2,fun g' r' hg hr => ?_⟩
        simp only [evOp,(e g' hg).1,(e g' hg).2,hn,hu,hi,hgx,hsz,hlen]
        exact (m0 _ _ _).2 ⟨h1,by simp⟩
      · rename_i id hgx
        split at h
        case h_3=>exact h.elim
        all_goals
          rename_i hr0
          split at h
          case h_2=>exact h.elim
          rename_i hsz
          obtain ⟨h1,h2⟩:=(m0 _ _ _).1 h
          refine ⟨_,_,h2,fun g' r' hg hr => ?_⟩
          simp only [evOp,(e g' hg).1,(e g' hg).2,hn,hu,hi,hgx,hr id (List.mem_singleton.2 rfl),hr0,hsz]
          exact (m0 _ _ _).2 ⟨h1,by simp⟩
      · exact h.elim
    · rename_i len e' hu
      split at h
      case h_2=>exact h.elim
      rename_i inf hi
      obtain ⟨h1,h2⟩:=(m0 _ _ _).1 h
      split at h2
      case h_3=>exact h2.elim
      all_goals
        rename_i hgx
        refine ⟨_,_,h2,fun g' r' hg hr => ?_⟩
        simp only [evOp,(e g' hg).1,(e g' hg).2,hn,hu,hi,hgx]
        exact (m0 _ _ _).2 ⟨h1,by simp⟩
    · exact h.elim
  case call c =>
    have eargs:∀ g':Operand->AV,(∀ z ∈ sees (.call c),g' z=g z)->∀ x ∈ c.args.toList,g' x=g x:=fun g' hg x hx=>hg x (by simp only [sees,Op.operands,Call.operands,Array.toList_append]; exact List.mem_append_right _ hx)
    have emap:∀ g':Operand->AV,(∀ z ∈ sees (.call c),g' z=g z)->c.args.toList.map g'=c.args.toList.map g:=fun g' hg=>List.map_congr_left (eargs g' hg)
    cases hc:c.callee with
    | invoke r m=>simp [evOp,hc] at h
    | value f =>
      have ef:∀ g':Operand->AV,(∀ z ∈ sees (.call c),g' z=g z)->g' f=g f:=fun g' hg=>hg f (by simp [sees,Op.operands,Call.operands,hc])
      simp only [evOp,hc] at h
      split at h
      case h_2=>exact h.elim
      rename_i fid first caps hgf
      split at h
      · rename_i hcl
        rw [H8] at h
        obtain ⟨v,h1,h2⟩:=h
        refine ⟨_,_,h2,fun g' r' hg hr => ?_⟩
        simp only [evOp,hc,ef g' hg,hgf,emap g' hg,hcl]
        rw [H8]
        exact ⟨v,h1,by simp⟩
      · rename_i hcl
        rw [H8] at h
        obtain ⟨v,h1,h2⟩:=h
        split at h2
        case h_2=>exact h2.elim
        rename_i hfl
        refine ⟨_,_,h2,fun g' r' hg hr => ?_⟩
        simp only [evOp,hc,ef g' hg,hgf,emap g' hg,hcl]
        rw [H8]
        have:(first++c.args.toList.map g++caps).map (o7 4 r')=(first++c.args.toList.map g++caps).map (o7 4 r):=List.map_congr_left fun x hx=>a0K 4 x fun i hi=>hr i (List.mem_flatMap.2 ⟨x,hx,hi⟩)
        have hids:(first++c.args.toList.map g++caps).flatMap (idsN 4 r')=(first++c.args.toList.map g++caps).flatMap (idsN 4 r):=by
          have key:∀ n (x:AV),(∀ i ∈ idsN n r x,r' i=r i)->idsN n r' x=idsN n r x:=by
            intro n
            induction n with
            | zero=>intro x _; rfl
            | succ n ih =>
              intro x hx
              have hl:∀ l:List AV,(∀ i ∈ l.flatMap (idsN n r),r' i=r i)->l.flatMap (idsN n r')=l.flatMap (idsN n r):=fun l hl=>by
                induction l with
                | nil=>rfl
                | cons y l ihl =>
                  simp only [List.flatMap_cons]
                  rw [ih y fun i hi=>hl i (by simp only [List.flatMap_cons]; exact List.mem_append_left _ hi),ihl fun i hi=>hl i (by simp only [List.flatMap_cons]; exact List.mem_append_right _ hi)]
              have hll:∀ l:List (List AV),(∀ i ∈ l.flatMap (fun cs=>cs.flatMap (idsN n r)),r' i=r i)->l.flatMap (fun cs=>cs.flatMap (idsN n r'))=l.flatMap (fun cs=>cs.flatMap (idsN n r)):=fun l h2=>by
                induction l with
                | nil=>rfl
                | cons y l ihl =>
                  simp only [List.flatMap_cons]
                  rw [hl y fun i hi=>h2 i (by simp only [List.flatMap_cons]; exact List.mem_append_left _ hi),ihl fun i hi=>h2 i (by simp only [List.flatMap_cons]; exact List.mem_append_right _ hi)]
              cases x with
              | ptr id sz i off =>
                have e:=hx id (by simp [idsN])
                simp only [idsN,e]
                cases hr:r id with
                | cells ty cs=>simp only [hl cs fun i hi=>hx i (by simp only [idsN,hr]; exact List.mem_cons_of_mem _ hi)]
                | _=>rfl
              | own id =>
                have e:=hx id (by simp [idsN])
                simp only [idsN,e]
                cases hr:r id with
                | lit ty sz css=>simp only [hll css fun i hi=>hx i (by simp only [idsN,hr]; exact List.mem_cons_of_mem _ hi)]
                | _=>rfl
              | agg l=>simp only [idsN]; exact hl l fun i hi=>hx i (by simpa only [idsN] using hi)
              | tup l=>simp only [idsN]; exact hl l fun i hi=>hx i (by simpa only [idsN] using hi)
              | fn f a b =>
                simp only [idsN]
                rw [hl a fun i hi=>hx i (by simp only [idsN]; exact List.mem_append_left _ hi),hl b fun i hi=>hx i (by simp only [idsN]; exact List.mem_append_right _ hi)]
              | _=>rfl
          generalize first++c.args.toList.map g++caps=A at hr
          induction A with
          | nil=>rfl
          | cons x A ih =>
            simp only [List.flatMap_cons] at hr ⊢
            rw [key 4 x fun i hi=>hr i (List.mem_append_left _ hi),ih fun i hi=>hr i (List.mem_append_right _ hi)]
        rw [this]
        refine ⟨v,h1,?_⟩
        simp only [hfl,hids]
        exact ⟨trivial,trivial⟩
    | builtin b =>
      cases b
      case len =>
        simp only [evOp,hc] at h
        split at h
        case h_2=>exact h.elim
        rename_i x t hx ht
        have ex:∀ g':Operand->AV,(∀ z ∈ sees (.call c),g' z=g z)->g' x=g x:=fun g' hg=>eargs g' hg x (by rw [hx]; simp)
        repeat' split at h
        all_goals first
          | exact h.elim
          | exact ⟨_,_,h,fun g' r' hg hr=>by simp only [evOp,hc,ex g' hg, *]; exact ⟨trivial,trivial⟩⟩
          | exact ⟨_,_,h,fun g' r' hg hr=>by simp only [evOp,hc,ex g' hg,hr _ (List.mem_singleton.2 rfl), *]; exact ⟨trivial,trivial⟩⟩
      case max =>
        simp only [evOp,hc] at h
        split at h
        case h_2=>exact h.elim
        rename_i x y hx
        have ex:∀ g':Operand->AV,(∀ z ∈ sees (.call c),g' z=g z)->g' x=g x/\g' y=g y:=fun g' hg=>⟨eargs g' hg x (by rw [hx]; simp),eargs g' hg y (by rw [hx]; simp)⟩
        split at h
        · exact ⟨_,_,h,fun g' r' hg hr=>by simp only [evOp,hc,(ex g' hg).1,(ex g' hg).2, *]; exact ⟨trivial,trivial⟩⟩
        · exact h.elim
      case min =>
        simp only [evOp,hc] at h
        split at h
        case h_2=>exact h.elim
        rename_i x y hx
        have ex:∀ g':Operand->AV,(∀ z ∈ sees (.call c),g' z=g z)->g' x=g x/\g' y=g y:=fun g' hg=>⟨eargs g' hg x (by rw [hx]; simp),eargs g' hg y (by rw [hx]; simp)⟩
        split at h
        · exact ⟨_,_,h,fun g' r' hg hr=>by simp only [evOp,hc,(ex g' hg).1,(ex g' hg).2, *]; exact ⟨trivial,trivial⟩⟩
        · exact h.elim
      case append =>
        simp only [evOp,hc] at h
        split at h
        case h_2=>exact h.elim
        rename_i x y t t' hx ht
        have ex:∀ g':Operand->AV,(∀ z ∈ sees (.call c),g' z=g z)->g' x=g x/\g' y=g y:=fun g' hg=>⟨eargs g' hg x (by rw [hx]; simp),eargs g' hg y (by rw [hx]; simp)⟩
        split at h
        case h_2=>exact h.elim
        rename_i dd e hd hu ht'
        split at h
        case h_2=>exact h.elim
        rename_i inf z hi hz
        split at h
        case h_2=>exact h.elim
        rename_i hzs
        split at h
        case h_2=>exact h.elim
        rename_i hpos
        split at h
        case h_2=>exact h.elim
        rename_i hbase
        obtain ⟨D,l',h1,h2,h3,h4,h5,h6,h7⟩:=h
        refine ⟨_,_,h7,fun g' r' hg hr => ?_⟩
        have hb':(a1f r' hd (g x) || P7 r' (g x) (g y))=true:=by
          rw [Bool.or_eq_true] at hbase ⊢
          rcases hbase with hbase | hbase
          · exact .inl (a43 hbase fun i hi=>hr i (List.mem_append_left _ hi))
          · exact .inr (a44 hbase fun i hi=>hr i (List.mem_append_right _ hi))
        have h2':=a2k h2 fun i hi=>hr i (List.mem_append_left _ hi)
        have h3':=a2k h3 fun i hi=>hr i (List.mem_append_right _ hi)
        simp only [evOp,hc,(ex g' hg).1,(ex g' hg).2,hx,ht,hu,ht',hi,hz,hzs,hpos,hb']
        exact ⟨D,l',h1,h2',h3',h4,h5,h6,by simp⟩
      all_goals simp [evOp,hc] at h
  all_goals simp [evOp] at h
end
/- Rows whose elements hold slices of their own: what is read of them, and append. A helper text: it speaks of no program. -/
def a2l (id i j0:Nat) (ho:Option Nat) (cs:List AV):List AV:=cs.set j0 (match ho with
 | none => .mem id i
 | some _ => .any)
section
variable {P:Program} {B:Nat->Prop} {w0:World} {F0:Env P} {S:St} {β:Nat->Option Hd} {F:Nat->Prop} {a:Act} {w:World}
theorem C1 (l:List AV) (t:Nat) (x:AV) (i:Nat):(l.set t x).getD i .any=if t=i/\i < l.length then x else l.getD i .any:=by
 have:=G1 l (some t) x i
 simpa [P3] using this
theorem E3 (hR:Rel B w0 F0 S β F a w) {id:Nat} {ty:TypeId} {α:Type} {sz j0:Nat} {ty':TypeId} {d:α} {enc:α->List AV} {ys:α->List Int} {ho:Option Nat} {l:List α} (hr:S.row id = .nest ty sz j0 ty' d enc ys ho l) {hd:Hd} (hb:β id=some hd) :
  hd.len=l.length/\((l=[]/\hd.b=none/\hd.cap=0/\hd.m=noM)∨∃ b vs,hd.b=some b/\w.heap[b]? = some (.cells vs ty (0,0)) /\
   l.length<=hd.cap/\hd.cap<=maxLen/\vs.size=hd.cap * sz /\
   (∀ i j,i < l.length->j < sz->j≠j0->RepI F w ((enc (l.getD i d)).getD j .any) (vs.getD (i * sz + j) undef)) /\
   (∀ i,Memb w ty' (hd.m i) (nYs ys d ho l i) (vs.getD (i * sz + j0) undef))/\(∀ i k c,(hd.m i).1=some c->(hd.m k).1=some c->i=k)/\∀ i c,(hd.m i).1=some c->c≠b):=by
 have:=hR.rows id
 rw [hr] at this
 obtain ⟨hd',e1,e2,e3⟩:=this
 rw [hb] at e1; cases e1
 exact ⟨e2,e3⟩
theorem b0b (hR:Rel B w0 F0 S β F a w) {o:Oper} {t:TypeId} {x:Operand} (ho':o.op = .load t x) {id sz j off:Nat} (hg:S.get x = .ptr id sz j off) {α:Type} {ty:TypeId} {sz' j0:Nat} {ty':TypeId} {d:α} {enc:α->List AV} {ys:α->List Int} {ho:Option Nat} {l:List α}
  (hr:S.row id = .nest ty sz' j0 ty' d enc ys ho l) {i:TypeInfo} {dd:TypeDesc} (hi:P.info? t=some i) (hu:P.underlying t=some dd) (e0:sz=sz') (e00:(enc (l.getD j d)).length=sz) {v:AV}
  (hl:a0g (G7 dd) i.size (a2l id j j0 ho (enc (l.getD j d))) off=some v) (hj:j < l.length) {K:Out->List Nat->Prop} {rd:List Nat} (hK:K ⟨v,[]⟩ rd) {Q:Exit->Act->World->Prop}:o.wp P a w (i7 B w0 F0 S β o.dst K) Q:=by
 have hx:=hR.get x
 have ho2:execOp a.eval o=(do pure (.value (<- Instr.loadAt t (a.eval x)))):=by simp [execOp,ho']
 rw [hg] at hx
 obtain ⟨hd,b,hb,hh,hv⟩:=hx.ptr_inv
 obtain ⟨hlen,hv2⟩:=E3 hR hr hb
 rcases hv2 with ⟨h1,h2,_⟩ | ⟨b',vs,e1,e2,e3,e4,e5,e6,e7,e8⟩
 ·rw [h1] at hj; simp at hj
 rw [hh] at e1; cases e1
 have hln:(a2l id j j0 ho (enc (l.getD j d))).length=sz:=by unfold a2l; rw [List.length_set]; exact e00
 obtain ⟨u,h1,h2⟩:=M7 (P:=P) (β:=β) (F:=F) (w:=w) (o:=j * sz) (b:=b) (g:=fun k=>vs.getD (j * sz + k) undef) hi hu
  (fun k hk=>t7 e2 (by
   rw [e5,<- e0]
   have:=i8 (Nat.lt_of_lt_of_le hj e3) (show k < sz by omega)
   omega))
  (fun k hk=>by
   have hk':k < sz:=by omega
   unfold a2l
   rw [C1]
   split
   ·rename_i hc
    obtain ⟨hc,_⟩:=hc
    subst hc
    cases ho with
    | some h=>exact .imm (.any _)
    | none =>
     have hm:=e7 j
     rw [nYs,if_pos ⟨hj,by simp⟩] at hm
     rw [<- e0] at hm
     have:=Rep.mem (F:=F) (w:=w) hb (i:=j) (by omega)
     rw [<- hm.1] at this
     exact this
   ·rename_i hc
    have hne:k≠j0:=fun e=>hc ⟨e.symm,by omega⟩
    have:=e6 j k hj (by omega) hne
    rw [<- e0] at this
    exact .imm this) hl
 rw [hv] at ho2
 exact v7 ho2 h1 (i7.still hR h2 hK)
theorem a45 {xs ys:List AV} {j0:Nat} (h:xs.set j0 .any=ys.set j0 .any):xs.length=ys.length/\∀ k,k≠j0->xs.getD k .any=ys.getD k .any:=by
 refine ⟨by simpa using congrArg List.length h,fun k hk => ?_⟩
 have:=congrArg (fun l=>List.getD l k .any) h
 simp only [C1] at this
 have hk':¬ (j0=k/\k < xs.length):=fun e=>hk e.1.symm
 have hk2:¬ (j0=k/\k < ys.length):=fun e=>hk e.1.symm
 rwa [if_neg hk',if_neg hk2] at this
theorem a1K {hd:Hd} {ty':TypeId} {zs:List Int} {v:Value} (hl:hd.len=zs.length) (h:(zs=[]/\hd.b=none/\hd.cap=0)∨∃ b vs,hd.b=some b/\w.heap[b]? = some (.cells vs ty' (0,0)) /\
      zs.length<=hd.cap/\hd.cap<=maxLen/\vs.size=hd.cap * 1/\∀ i j,i < zs.length->j < 1->RepI F w ((encI (zs.getD i 0)).getD j .any) (vs.getD (i * 1 + j) undef)) (hv:v = .slice (hd.b.map fun b=>⟨b,0,none⟩) hd.len hd.cap) :
    Memb w ty' (hd.b,hd.len,hd.cap) (some zs) v:=by
  refine ⟨hv,hl,?_⟩
  rcases h with h | ⟨b,vs,h1,h2,h3,h4,h5,h6⟩
  · exact .inl h
  · refine .inr ⟨b,vs,h1,h2,h3,h4,by simpa using h5,fun k hk => ?_⟩
    have:=h6 k 0 hk (by omega)
    rw [Nat.mul_one,Nat.add_zero] at this
    generalize vs.getD k undef=u at this
    have e:(encI (zs.getD k 0)).getD 0 .any = .int .i64 (zs.getD k 0):=rfl
    rw [e] at this
    cases this; rfl
theorem a1L {n m sz:Nat} {go gn:Nat->Nat->Value} {rest:List Value} {vs:Array Value} (hvs:vs.toList=d9 go n sz++d9 gn m sz++rest) :
  (∀ i j,i < n->j < sz->vs.getD (i * sz + j) undef=go i j)/\∀ i j,i < m->j < sz->vs.getD ((n + i) * sz + j) undef=gn i j:=by
 have hget:∀ k v,(d9 go n sz++d9 gn m sz++rest)[k]? = some v->vs.getD k undef=v:=fun k v h=>by
  rw [<- hvs] at h
  have:vs[k]? = some v:=by simpa using h
  simp [Array.getD_eq_getD_getElem?,this]
 refine ⟨fun i j hi hj=>hget _ _ ?_,fun i j hi hj=>hget _ _ ?_⟩
 ·have:=i8 hi hj
  rw [List.append_assoc,List.getElem?_append_left (by rw [d7]; exact this)]
  exact D6 hi hj
 ·have e:(n + i) * sz + j - n * sz=i * sz + j:=by rw [Nat.add_mul]; omega
  have h2:n * sz<=(n + i) * sz + j:=by rw [Nat.add_mul]; omega
  have h3:=i8 hi hj
  rw [List.append_assoc,List.getElem?_append_right (by rw [d7]; omega),d7,e,List.getElem?_append_left (by rw [d7]; exact h3)]
  exact D6 hi hj
theorem a2m {α:Type} {ty:TypeId} {sz j0:Nat} {ty':TypeId} {d:α} {enc:α->List AV} {ys:α->List Int} {l:List α} {y:α} {m:Nat->Option Nat×Nat×Nat} {mm:Option Nat×Nat×Nat} {go:Nat->Nat->Value} {gn:Nat->Value} {w':World} {bnew cap:Nat} {vs:Array Value} {β':Nat->Option Hd} {i:Nat} {cs:List AV}
  (hk:n4 F w w') (hj0:j0 < sz) (hβ:β' i=some ⟨some bnew,l.length + 1,cap,fun p=>if p=l.length then mm else m p⟩) (hh:w'.heap[bnew]? = some (.cells vs ty (0,0))) (hc:l.length + 1<=cap) (hcm:cap<=maxLen) (hsz:vs.size=cap * sz)
  (v1:∀ p q,p < l.length->q < sz->vs.getD (p * sz + q) undef=go p q) (v2:∀ q,q < sz->vs.getD (l.length * sz + q) undef=gn q)
  (e6:∀ p q,p < l.length->q < sz->q≠j0->RepI F w ((enc (l.getD p d)).getD q .any) (go p q)) (e7:∀ p,p < l.length->Memb w ty' (m p) (some (ys (l.getD p d))) (go p j0)) (e70:∀ p,l.length<=p->m p=(none,0,0))
  (e8:∀ i k c,(m i).1=some c->(m k).1=some c->i=k) (e9:∀ p c,(m p).1=some c->c≠bnew/\w'.heap[c]? = w.heap[c]?)
  (l6:∀ q,q < sz->q≠j0->RepI F w (cs.getD q .any) (gn q)) (hy:∀ q,q≠j0->(enc y).getD q .any=cs.getD q .any) (l7:Memb w ty' mm (some (ys y)) (gn j0)) (l8:∀ c,mm.1=some c->c≠bnew/\w'.heap[c]? = w.heap[c]? /\ ∀ p,(m p).1≠some c) :
  j8 β' F w' i (.nest ty sz j0 ty' d enc ys none (l++[y])):=by
 have gl:∀ p,p < l.length->(l++[y]).getD p d=l.getD p d:=fun p hp=>Q9 hp
 have gr:(l++[y]).getD l.length d=y:=by rw [O0 (Nat.le_refl _)]; simp
 refine ⟨_,hβ,by simp,.inr ⟨bnew,vs,rfl,hh,by simpa using hc,hcm,hsz,fun p q hp hq hq0 => ?_,fun p => ?_,fun p q c hp hq => ?_,fun p c hp => ?_⟩⟩
 ·have hp2:p < l.length + 1:=by simpa using hp
  by_cases e:p < l.length
  ·rw [gl p e,v1 p q e hq]; exact (e6 p q e hq hq0).mono (fun _ h=>h) hk
  ·have:p=l.length:=by omega
   subst this
   rw [gr,v2 q hq,hy q hq0]; exact (l6 q hq hq0).mono (fun _ h=>h) hk
 ·show Memb w' ty' (if p=l.length then mm else m p) (if p < (l++[y]).length/\(none:Option Nat)≠some p then some (ys ((l++[y]).getD p d)) else none) _
  have h0:(none:Option Nat)≠some p:=by simp
  by_cases e:p < l.length
  ·have e2:p < (l++[y]).length:=by simp; omega
   have e3:p≠l.length:=by omega
   rw [if_neg e3,if_pos ⟨e2,h0⟩,gl p e,v1 p j0 e hj0]
   exact (e7 p e).same fun c hc=>(e9 p c hc).2
  ·by_cases e4:p=l.length
   ·subst e4
    rw [if_pos rfl,if_pos ⟨by simp,h0⟩,gr,v2 j0 hj0]
    exact l7.same fun c hc=>(l8 c hc).2.1
   ·rw [if_neg e4,if_neg (by simp; omega),e70 p (by omega)]; rfl
 ·by_cases e1:p=l.length
  ·by_cases e2:q=l.length
   ·rw [e1,e2]
   ·simp only [e1,if_true] at hp
    simp only [e2,if_false] at hq
    exact absurd hq ((l8 c hp).2.2 q)
  ·by_cases e2:q=l.length
   ·simp only [e2,if_true] at hq
    simp only [e1,if_false] at hp
    exact absurd hp ((l8 c hq).2.2 p)
   ·simp only [e1,if_false] at hp
    simp only [e2,if_false] at hq
    exact e8 p q c hp hq
 ·by_cases e1:p=l.length
  ·simp only [e1,if_true] at hp; exact (l8 c hp).1
  ·simp only [e1,if_false] at hp; exact (e9 p c hp).1
theorem a1M (hR:Rel B w0 F0 S β F a w) {o:Oper} {c:Call} (ho':o.op = .call c) (hb':c.callee = .builtin .append) {s x:Operand} {t e:TypeId} (hsx:c.args.toList=[s,x]) (htt:c.argTypes.toList=[t,t]) {d:Nat} (hd:o.dst=some d) (hfree:β d=none) (hu:P.underlying t=some (.slice e))
  {id q:Nat} (hgs:S.get s = .own id) (hgx:S.get x = .own q) {α:Type} {sz j0:Nat} {ty':TypeId} {d0:α} {enc:α->List AV} {ys:α->List Int} {l:List α} (hr:S.row id = .nest e sz j0 ty' d0 enc ys none l) {i:TypeInfo} {z:List AV} (hi:P.info? e=some i) (hz:K0 P e=some z)
  {tyq:TypeId} {cs:List AV} (hq:S.row q = .lit tyq sz [cs]) (hzs:z.length=i.size) (hpos:0 < i.size) (hsz:sz=i.size) (hcs:cs.length=sz) (hj0:j0 < sz) (h1:I2 cs=true) (hcl:s9 (cs.set j0 .any)=true) {y:α} (hy:(enc y).set j0 .any=(cs.set j0 .any).map B3)
  (hbytes:(l.length + 1) * i.bytes<=1099511627776) (hlen:l.length + 1<=1099511627776) {cons:List Nat} {mm:Option Nat×Nat×Nat} (hcons:id ∉ cons) (hmm:∀ v,Rep β F w (cs.getD j0 .any) v->Memb w ty' mm (some (ys y)) v) (hmb:∀ b,mm.1=some b->∃ r ∈ cons,S.row r ≠ .none/\occ β r b)
  {K:Out->List Nat->Prop} {rd:List Nat} (hK:K ⟨.own d,(id :: cons).map (fun i=>(i,.none))++[(d,.nest e sz j0 ty' d0 enc ys none (l++[y]))]⟩ rd) {Q:Exit->Act->World->Prop}:o.wp P a w (i7 B w0 F0 S β o.dst K) Q:=by
 have e1:=a0i hsx
 have e2:=a0i htt
 obtain ⟨i',zv,hi',hzv,_,hzr⟩:=F5 (β:=β) (F:=F) (w:=w) hz
 rw [hi] at hi'; cases hi'
 have hzsz:zv.cells.size=i.size:=by rw [<- hzr.1]; exact hzs
 have hs:∀ cs',builtin .append c.argTypes o.type cs' (c.args.map a.eval)=(do pure (.value (<- Builtin.append_ #[t,t] o.type #[a.eval s,a.eval x]))):=fun cs'=>by
  rw [e1,e2]; simp [builtin]
 have hlive:S.row id ≠ .none:=by rw [hr]; simp
 have hsv:=hR.get s
 have hxv:=hR.get x
 rw [hgs] at hsv
 rw [hgx] at hxv
 obtain ⟨hd0,hβ,hv0⟩:=hsv.own_inv
 obtain ⟨hdq,hβq,hvq⟩:=hxv.own_inv
 obtain ⟨bq,vq,p1,p2,p3,p4,p5⟩:=a4Z hR hq hβq
 have hlq:hdq.len=1:=by simpa using p3
 have hvx:a.eval x = .slice (some ⟨bq,0,none⟩) 1 hdq.cap:=by rw [hvq,p1,hlq]; rfl
 let gn:Nat->Nat->Value:=fun _ k=>vq.getD k undef
 have hgn:∀ i' j,i' < 1->j < sz->w.cell? ⟨bq,0 + i' * sz + j,none⟩=some (gn i' j):=fun i' j hi' hj=>by
  have:i'=0:=by omega
  subst this
  rw [Nat.zero_mul,Nat.add_zero,Nat.zero_add]
  exact t7 p2 (by rw [p4]; simpa using hj)
 have hrep:∀ j,j < sz->Rep β F w (cs.getD j .any) (vq.getD j undef):=fun j hj=>by
  have:=p5 0 j (by simp) hj
  simpa using this
 have hone:∀ u ∈ d9 gn 1 sz,u.oneCell'=true:=fun u hu'=>by
  obtain ⟨k,hk,rfl⟩:=List.mem_map.1 hu'
  have hk:k < sz:=by simpa using hk
  have:k % sz=k:=Nat.mod_eq_of_lt hk
  show (vq.getD (k % sz) undef).oneCell'=true
  rw [this]
  exact ((hrep k hk).one_cell (N8 h1 k (by omega))).1
 have l6:∀ q,q < sz->q≠j0->RepI F w ((cs.map B3).getD q .any) (gn 0 q):=fun q hq' hq0=>by
  have h:=hrep q hq'
  have hc:(cs.getD q .any).closed=true:=by
   have:=t9 hcl q
   rwa [C1,if_neg (fun h=>hq0 h.1.symm)] at this
  rw [Q6]
  exact (h.shut hc).tts
 obtain ⟨_,hy2⟩:=a45 (hy.trans (by rw [List.map_set]; rfl:(cs.set j0 .any).map B3=(cs.map B3).set j0 .any))
 have l7:Memb w ty' mm (some (ys y)) (gn 0 j0):=hmm _ (hrep j0 hj0)
 have fin:∀ (hd':Hd) (w':World),(Builtin.append_ #[t,t] o.type #[a.eval s,a.eval x]).run P w = .ok (.slice (hd'.b.map fun b=>⟨b,0,none⟩) hd'.len hd'.cap) w'->w.heap.size<=w'.heap.size ->
   (w'.os=w.os/\w'.tape=w.tape/\w'.output=w.output)->(∀ k,k < w.heap.size->(∀ c ∈ id :: cons,S.row c ≠ .none->¬ occ β c k)->w'.heap[k]? = w.heap[k]?) ->
   (∀ b,hasB (some hd') b->b < w'.heap.size/\((∃ c ∈ id :: cons,S.row c ≠ .none/\occ β c b)∨w.heap.size<=b)) ->
   (∀ β',β' d=some hd'->(∀ j,β j≠none->β' j=β j)->n4 F w w'->j8 β' F w' d (.nest e sz j0 ty' d0 enc ys none (l++[y])))->o.wp P a w (i7 B w0 F0 S β o.dst K) Q:=by
  intro hd' w' hrun g1 g2 g3 g4 g5
  obtain ⟨β',F',q1,q2⟩:=hR.retie hfree (cons:=id :: cons) (dst:=o.dst) (hd':=hd') g1 g2 g3 g4 g5 (fun _ _ _ _ h=>by cases h)
  exact v6 ho' hb' hs hrun ⟨_,_,hK,β',F',fun j hj=>q1 j (fun e=>hj (by rw [e]; exact hd)),q2⟩
 have mlt:∀ b,mm.1=some b->b < w.heap.size:=fun b hb=>by
  obtain ⟨r,_,_,hr2⟩:=hmb b hb
  exact (hR.bB r b hr2).2
 have mne:∀ b,mm.1=some b->¬ occ β id b:=fun b hb h=>by
  obtain ⟨r,hr1,hr2,hr3⟩:=hmb b hb
  exact hcons (hR.inj r id b hr2 hlive hr3 h ▸ hr1)
 obtain ⟨hl1,hv2⟩:=E3 hR hr hβ
 have hmx:l.length + 1<=maxLen:=by simp only [maxLen]; omega
 -- a new block
 have fresh:∀ (go:Nat->Nat->Value) (m:Nat->Option Nat×Nat×Nat) (cap:Nat),l.length + 1<=cap->cap<=maxLen ->
   (∀ p q,p < l.length->q < sz->q≠j0->RepI F w ((enc (l.getD p d0)).getD q .any) (go p q))->(∀ p,p < l.length->Memb w ty' (m p) (some (ys (l.getD p d0))) (go p j0))->(∀ p,l.length<=p->m p=(none,0,0)) ->
   (∀ i k c,(m i).1=some c->(m k).1=some c->i=k)->(∀ p c,(m p).1=some c->occ β id c) ->
   (Builtin.append_ #[t,t] o.type #[a.eval s,a.eval x]).run P w = .ok (.slice (some ⟨w.heap.size,0,none⟩) (l.length + 1) cap)
    (w.drew.alloc (.cells ((d9 go l.length sz).toArray++(d9 gn 1 sz).toArray++Builtin.zeroCells zv.cells (cap - (l.length + 1))) e)) ->
   o.wp P a w (i7 B w0 F0 S β o.dst K) Q:=by
  intro go m cap hc hcm e6 e7 e70 e8 e9 hrun
  have hp:∀ k,k < w.heap.size->(w.drew.alloc (.cells ((d9 go l.length sz).toArray++(d9 gn 1 sz).toArray++Builtin.zeroCells zv.cells (cap - (l.length + 1))) e)).heap[k]? = w.heap[k]? := fun k hk=>RowKit.Below.heap_alloc w.drew _ k hk
  have olt:∀ p c,(m p).1=some c->c < w.heap.size:=fun p c hc=>(hR.bB id c (e9 p c hc)).2
  refine fin ⟨some w.heap.size,l.length + 1,cap,fun p=>if p=l.length then mm else m p⟩ _ hrun (by simp) ⟨rfl,rfl,rfl⟩ (fun k hk _=>hp k hk) (fun b hb => ?_) (fun β' hβ' _ hk => ?_)
  ·rcases hb with hb | ⟨p,hb⟩
   ·have:b=w.heap.size:=by simpa using hb.symm
    subst this
    exact ⟨by simp,.inr (Nat.le_refl _)⟩
   ·have e3:b < w.heap.size/\∃ c ∈ id :: cons,S.row c ≠ .none/\occ β c b:=by
     by_cases ep:p=l.length
     ·simp only [ep,if_true] at hb
      obtain ⟨r,r1,r2,r3⟩:=hmb b hb
      exact ⟨mlt b hb,r,List.mem_cons_of_mem _ r1,r2,r3⟩
     ·simp only [ep,if_false] at hb
      exact ⟨olt p b hb,id,by simp,hlive,e9 p b hb⟩
    exact ⟨by simp; omega,.inl e3.2⟩
  ·obtain ⟨v1,v2⟩:=a1L (n:=l.length) (m:=1) (sz:=sz) (go:=go) (gn:=gn) (rest:=(Builtin.zeroCells zv.cells (cap - (l.length + 1))).toList) (vs:=(d9 go l.length sz).toArray++(d9 gn 1 sz).toArray++Builtin.zeroCells zv.cells (cap - (l.length + 1))) (by simp)
   refine a2m (m:=m) (go:=go) (gn:=gn 0) (cs:=cs.map B3) hk hj0 hβ' (heap_alloc_new w.drew _) hc hcm ?_ v1 (fun q hq'=>by have:=v2 0 q (by omega) hq'; simpa using this) e6 e7 e70 e8 (fun p c hc=>⟨Nat.ne_of_lt (olt p c hc),hp c (olt p c hc)⟩) l6 hy2 l7
    (fun c hc=>⟨Nat.ne_of_lt (mlt c hc),hp c (mlt c hc),fun p h=>mne c hc (e9 p c h)⟩)
   simp only [Array.size_append,List.size_toArray,d7,K2,hzsz,<- hsz,<- Nat.add_mul]
   congr 1; omega
 have hnz:∀ (g:Nat->Nat->Value),d9 g 0 sz=[]:=fun g=>by simp [d9]
 rcases hv2 with ⟨hl0,n1,n2,n3⟩ | ⟨b,vs,g1,g2,g3,g4,g5,g6,g7,g8,g9⟩
 ·have hv0':a.eval s = .slice none 0 0:=by rw [hv0,n1,n2,hl1,hl0]; rfl
  have hr2:=run_append_nil (P:=P) w t o.type e i zv hu hi hzv ⟨bq,0,none⟩ 1 hdq.cap (d9 gn 1 sz) (by rw [d7,hsz]) (u6 hgn) (by omega) (by omega)
   (by rw [hl0] at hbytes; simp only [List.length_nil,Nat.zero_add] at hbytes; omega)
  refine fresh (fun _ _=>undef) noM (grownCap w 1 0 e) ?_ ?_ (fun p q hp=>by simp [hl0] at hp) (fun p hp=>by simp [hl0] at hp) (fun _ _=>rfl) (fun i k c hc=>by cases hc) (fun p c hc=>by cases hc) ?_
  ·rw [hl0]; exact grownCap_ge w 1 0 e
  ·exact grownCap_le_maxLen w 1 0 e (by simp only [maxLen]; omega)
  ·rw [hv0',hvx,hr2]
   simp [hl0,d9]
 ·have hv0':a.eval s = .slice (some ⟨b,0,none⟩) l.length hd0.cap:=by rw [hv0,g1,hl1]; rfl
  let go:Nat->Nat->Value:=fun p q=>vs.getD (p * sz + q) undef
  have hcell0:∀ p q,p < l.length->q < sz->w.cell? ⟨b,0 + p * sz + q,none⟩=some (go p q):=fun p q hp hq'=>by
   rw [Nat.zero_add]
   exact t7 g2 (by rw [g5]; exact i8 (Nat.lt_of_lt_of_le hp g3) hq')
  have e7:∀ p,p < l.length->Memb w ty' (hd0.m p) (some (ys (l.getD p d0))) (go p j0):=fun p hp=>by
   have:=g7 p
   rwa [nYs,if_pos ⟨hp,by simp⟩] at this
  have e70:∀ p,l.length<=p->hd0.m p=(none,0,0):=fun p hp=>by
   have:=g7 p
   rw [nYs,if_neg (fun h=>by omega)] at this
   exact this
  have e9:∀ p c,(hd0.m p).1=some c->occ β id c:=fun p c hc=>by rw [occ,hβ]; exact M3 hc
  by_cases hroom:l.length + 1<=hd0.cap
  ·have hfit:l.length * i.size + (d9 gn 1 sz).length<=vs.size:=by
    rw [d7,g5,<- hsz,<- Nat.add_mul]; exact Nat.mul_le_mul_right _ hroom
   have hr2:=run_append_room (P:=P) w t o.type e i hu hi b l.length hd0.cap vs g2 ⟨bq,0,none⟩ 1 hdq.cap (d9 gn 1 sz) (by rw [d7,hsz]) (u6 hgn) hone hroom hfit
   obtain ⟨f1,f2,f3⟩:=A3 b vs (vs.toList.take (l.length * i.size)++d9 gn 1 sz++vs.toList.drop (l.length * i.size + (d9 gn 1 sz).length)).toArray e (0,0) g2
   have hoc:occ β id b:=by rw [occ,hβ]; exact n9 g1
   have hfold:d9 go l.length sz=vs.toList.take (l.length * sz):=by
    apply List.ext_getElem?
    intro k
    by_cases hk:k < l.length * sz
    ·have h1:k / sz < l.length:=(Nat.div_lt_iff_lt_mul (by omega)).2 hk
     have h2:k % sz < sz:=Nat.mod_lt _ (by omega)
     have he:k=k / sz * sz + k % sz:=by rw [Nat.mul_comm]; exact (Nat.div_add_mod k sz).symm
     have h3:=D6 (g:=go) h1 h2
     rw [<- he] at h3
     have hlt:k < vs.size:=by
      have:l.length * sz<=hd0.cap * sz:=Nat.mul_le_mul_right _ g3
      omega
     have h4:go (k / sz) (k % sz)=vs.getD k undef:=by show vs.getD (k / sz * sz + k % sz) undef=_; rw [<- he]
     rw [h3,h4,List.getElem?_take_of_lt hk]
     simp [hlt]
    ·rw [List.getElem?_eq_none (by rw [d7]; omega),List.getElem?_eq_none (by rw [List.length_take]; omega)]
   refine fin ⟨some b,l.length + 1,hd0.cap,fun p=>if p=l.length then mm else hd0.m p⟩ _ (by rw [hv0',hvx]; exact hr2) (by rw [f1.2.2.2]; exact Nat.le_refl _) ⟨f1.1,f1.2.1,f1.2.2.1⟩ (fun k hk hn=>f2 k fun ek => ?_) (fun b' hb2 => ?_) (fun β' hβ' _ hk => ?_)
   ·subst ek; exact hn id (by simp) hlive hoc
   ·rw [f1.2.2.2]
    rcases hb2 with hb2 | ⟨p,hb2⟩
    ·have:b=b':=by simpa using hb2
     subst this
     exact ⟨(hR.bB id b hoc).2,.inl ⟨id,by simp,hlive,hoc⟩⟩
    ·by_cases ep:p=l.length
     ·simp only [ep,if_true] at hb2
      obtain ⟨r,r1,r2,r3⟩:=hmb b' hb2
      exact ⟨mlt b' hb2,.inl ⟨r,List.mem_cons_of_mem _ r1,r2,r3⟩⟩
     ·simp only [ep,if_false] at hb2
      exact ⟨(hR.bB id b' (e9 p b' hb2)).2,.inl ⟨id,by simp,hlive,e9 p b' hb2⟩⟩
   ·obtain ⟨v1,v2⟩:=a1L (n:=l.length) (m:=1) (sz:=sz) (go:=go) (gn:=gn) (rest:=vs.toList.drop (l.length * i.size + (d9 gn 1 sz).length)) (vs:=(vs.toList.take (l.length * i.size)++d9 gn 1 sz++vs.toList.drop (l.length * i.size + (d9 gn 1 sz).length)).toArray) (by rw [hfold,hsz])
    refine a2m (m:=hd0.m) (go:=go) (gn:=gn 0) (cs:=cs.map B3) hk hj0 hβ' f3 hroom g4 ?_ v1 (fun q hq'=>by have:=v2 0 q (by omega) hq'; simpa using this) g6 e7 e70 g8 (fun p c hc=>⟨g9 p c hc,f2 c (g9 p c hc)⟩) l6 hy2 l7
     (fun c hc => ?_)
    ·simp only [List.size_toArray,List.length_append,List.length_take,List.length_drop,Array.length_toList]
     rw [<- g5]; omega
    ·have:c≠b:=fun ec=>mne c hc (ec ▸ hoc)
     exact ⟨this,f2 c this,fun p h=>mne c hc (e9 p c h)⟩
  ·have hr2:=run_append_grow (P:=P) w t o.type e i zv hu hi hzv ⟨b,0,none⟩ l.length hd0.cap (d9 go l.length sz) (by rw [d7,hsz]) (u6 hcell0) ⟨bq,0,none⟩ 1 hdq.cap (d9 gn 1 sz)
    (by rw [d7,hsz]) (u6 hgn) (by omega) (by omega) (growslice_fits (by omega) (by omega))
   refine fresh go hd0.m (grownCap w (l.length + 1) hd0.cap e) (grownCap_ge w _ _ e) (grownCap_le_maxLen w _ _ e hmx) g6 e7 e70 g8 e9 ?_
   rw [hv0',hvx,hr2]
theorem a2n (hR:Rel B w0 F0 S β F a w) {o:Oper} {t e:TypeId} {x ix:Operand} (ho:o.op = .indexAddr t x ix) (hu:P.underlying t=some (.slice e)) {inf:TypeInfo} (hi:P.info? e=some inf) {k:IntKind} {n:Int} (hn:S.get ix = .int k n) {y:AV} {b len cap:Nat}
  (hv:a.eval x = .slice (some ⟨b,0,none⟩) len cap) (h0:0<=n) (h1:n < (len:Nat)) (hy:Rep β F w y (.pointer (some ⟨b,n.toNat * inf.size,none⟩))) {K:Out->List Nat->Prop} {rd:List Nat} (hK:K ⟨y,[]⟩ rd) {Q:Exit->Act->World->Prop}:o.wp P a w (i7 B w0 F0 S β o.dst K) Q:=by
 have hnv:=hR.get ix
 rw [hn] at hnv
 have ho':execOp a.eval o=(do pure (.value (<- Instr.indexAt t (a.eval x) (a.eval ix)))):=by simp [execOp,ho]
 rw [hnv.int_inv,hv] at ho'
 refine v7 ho' (v := .pointer (some ⟨b,n.toNat * inf.size,none⟩)) (w':=w) ?_ (i7.still hR hy hK)
 simp [Instr.indexAt,run_underlying hu,asIntOf,h0,h1,sizeOf,typeInfo,hi,E1]
theorem a6p (hR:Rel B w0 F0 S β F a w) {o:Oper} {c:Call} (ho:o.op = .call c) (hb:c.callee = .builtin .len) {x:Operand} {t e:TypeId} (hx:c.args.toList=[x]) (ht:c.argTypes.toList=[t]) (hu:P.underlying t=some (.slice e)) {p:Option Addr} {len cap:Nat}
  (hv:a.eval x = .slice p len cap) {K:Out->List Nat->Prop} {rd:List Nat} (hK:K ⟨.int .i64 len,[]⟩ rd) {Q:Exit->Act->World->Prop}:o.wp P a w (i7 B w0 F0 S β o.dst K) Q:=by
 have e1:=a0i hx
 have e2:=a0i ht
 have hs:∀ cs,builtin .len c.argTypes o.type cs (c.args.map a.eval)=(do pure (.value (<- Builtin.len_ #[t] o.type #[a.eval x]))):=fun cs=>by
  rw [e1,e2]; simp [builtin]
 rw [hv] at hs
 refine v6 ho hb hs (v := .int .i64 len) (w':=w) ?_ (i7.still hR (.imm (.int _ _)) hK)
 simp [Builtin.len_,run_underlying hu,goInt]
theorem b4B {e:Nat} {ty:TypeId} {α:Type} {sz:Nat} {d:α} {enc:α->List AV} {l:List α} (hr:j8 β F w e (.vec ty sz d enc l)) {v:Value} (hv:Rep β F w (.own e) v):RepI (fun b=>F b∨occ β e b) w (.sl sz d enc l) v:=by
 obtain ⟨hd,hb,rfl⟩:=hv.own_inv
 obtain ⟨hd',e1,em,e2,e3⟩:=hr
 rw [hb] at e1
 cases e1
 rcases e3 with ⟨rfl,e4,e5⟩ | ⟨b,vs,e4,e5,e6,e7,e8,e9⟩
 ·simp only [List.length_nil] at e2
  rw [e2,e4,e5]; exact .slnil
 ·rw [e2,e4]
  refine .sl (o:=0) (fun i j=>vs.getD (i * sz + j) undef) e6 (fun i j hi hj=>⟨.inr (by rw [occ,hb]; exact n9 e4),?_⟩)
   (fun i j hi hj=>(e9 i j hi hj).mono (fun _ h => .inl h) (fun _ _ _ _ h=>h))
  have:=i8 (Nat.lt_of_lt_of_le hi e6) hj
  rw [Nat.zero_add]
  exact t7 e5 (by omega)
theorem a0O (S:St) (e j:Nat):(⟨S.t,S.h.set e .none,S.n⟩:St).row j=if e=j then .none else S.row j:=by
 show (S.h.set e .none).getD j .none=_
 simp only [d6]
 by_cases ej:e=j
 ·subst ej
  by_cases hl:e < S.h.length
  ·simp [hl]
  ·simp [hl,St.row,List.getD,List.getElem?_eq_none (Nat.le_of_not_lt hl)]
 ·simp [ej,St.row]
theorem Rel.coin (hR:Rel B w0 F0 S β F a w) {e:Nat} (he:S.row e ≠ .none):Rel B w0 F0 ⟨S.t,S.h.set e .none,S.n⟩ β (fun b=>F b∨occ β e b) a w:=by
  have live:∀ j,(⟨S.t,S.h.set e .none,S.n⟩:St).row j ≠ .none->e≠j/\S.row j ≠ .none:=fun j h=>by
    rw [a0O] at h
    split at h
    · exact absurd rfl h
    · rename_i hne; exact ⟨hne,h⟩
  exact { len:=hR.len,slots:=fun i hi=>(hR.slots i hi).grow (fun _ _=>rfl) (fun _ h => .inl h) (n4.refl _ _),marks:=hR.marks,
          rows:=fun j=>by
            rw [a0O]
            split
            · trivial
            · exact (hR.rows j).grow (fun _ _=>rfl) (fun _ h => .inl h) (n4.refl _ _) (fun _ _=>rfl)
          inj:=fun i j b hi hj=>hR.inj i j b (live i hi).2 (live j hj).2
          bF:=fun i b hi hbi h=>h.elim (hR.bF i b (live i hi).2 hbi) fun h=>(live i hi).1 (hR.inj e i b he (live i hi).2 h hbi)
          bB:=hR.bB
          FB:=fun b h=>h.elim (hR.FB b) fun h=>⟨(hR.bB e b h).2,.inr (hR.bB e b h).1⟩
          below:=hR.below,BW:=hR.BW,top:=hR.top,topn:=fun j hj=>hR.topn j hj,nn:=hR.nn,inc:=fun b hb => .inl (hR.inc b hb),keep:=hR.keep,sol:=hR.sol
          yl:=hR.ylOf (fun i=>i) (fun id l xs k e' h=>by rw [a0O] at h; split at h; cases h; exact h) (fun _ _ _ _ h=>h) (fun i b hi hb=>⟨i,(live i hi).2,hb⟩) (fun b hb=>hb.elim .inl fun h => .inr ⟨e,he,h⟩) }
theorem b0c (hR:Rel B w0 F0 S β F a w) {o:Oper} {t:TypeId} {x y:Operand} (ho:o.op = .store t x y) {id sz j off e:Nat} (hg:S.get x = .ptr id sz j off) (hgy:S.get y = .own e)
  {ty:TypeId} {α:Type} {d:α} {enc:α->List AV} {zs:List α} (hr:S.row id = .vec ty sz d enc zs) {ty1:TypeId} {α1:Type} {sz1:Nat} {d1:α1} {enc1:α1->List AV} {l1:List α1} (hre:S.row e = .vec ty1 sz1 d1 enc1 l1)
  {i:TypeInfo} (hi:P.info? t=some i) (hi1:i.size=1) (hlen:(enc (zs.getD j d)).length=sz) (hoff:off < sz) (hne:id≠e) {yy:α} (hy:enc yy=(enc (zs.getD j d)).set off (.sl sz1 d1 enc1 l1)) (hj:j < zs.length)
  {K:Out->List Nat->Prop} {rd:List Nat} (hK:K ⟨.any,[(e,.none),(id,.vec ty sz d enc (zs.set j yy))]⟩ rd) {Q:Exit->Act->World->Prop}:o.wp P a w (i7 B w0 F0 S β o.dst K) Q:=by
 have he:S.row e ≠ .none:=by rw [hre]; simp
 obtain ⟨c1,c2,c3⟩:=cells?_rep (hR.get y) (l:=[.own e]) (by rw [hgy]; rfl)
 simp only [List.length_cons,List.length_nil,Nat.zero_add] at c1 c2
 have cv:=c2 0 (by omega)
 simp only [List.getD_cons_zero] at cv
 obtain ⟨v0,hv0⟩:∃ v0,(a.eval y).cells.toList=[v0]:=by
  match hh:(a.eval y).cells.toList,(by simp [c1]:(a.eval y).cells.toList.length=1) with
  | [v0],_=>exact ⟨v0,rfl⟩
 have ev0:(a.eval y).cells.getD 0 undef=v0:=by
  have:(a.eval y).cells=#[v0]:=by rw [<- Array.toArray_toList (xs:=(a.eval y).cells),hv0]
  rw [this]; rfl
 rw [ev0] at cv
 have hsl:=b4B (hre ▸ hR.rows e) cv
 have hR1:=hR.coin he
 have hr1:(⟨S.t,S.h.set e .none,S.n⟩:St).row id = .vec ty sz d enc zs:=by rw [a0O,if_neg (fun h=>hne h.symm)]; exact hr
 have ho':execOp a.eval o=(do Instr.storeAt t (a.eval x) (a.eval y); pure .skip):=by simp [execOp,ho]
 have hx:=hR.get x
 rw [hg] at hx
 obtain ⟨hd,b,hb,hh,hv⟩:=hx.ptr_inv
 rw [hv] at ho'
 have hblk:occ β id b:=by rw [occ,hb]; exact n9 hh
 obtain ⟨hl1,hv2⟩:=G9 hR1 hr1 hb
 rcases hv2 with ⟨h1,h2,_⟩ | ⟨b',vs,e1,e2,e3,e4,e5,e6⟩
 ·rw [h1] at hj; simp at hj
 rw [hh] at e1; cases e1
 have hfit:j * sz + off + 1<=vs.size:=by
  have:=i8 (Nat.lt_of_lt_of_le hj e3) hoff
  rw [e5]; omega
 have hrun:=L6 (P:=P) hi e2 (v:=a.eval y) (o:=j * sz + off) (by rw [c1,hi1]) (by omega) c3
 obtain ⟨f1,f2,f3⟩:=A3 b vs (i9 vs (j * sz + off) (a.eval y).cells.toList) ty (0,0) e2
 refine Y9 ho' hrun ⟨_,_,hK,β,_,fun _ _=>rfl,hR1.write (id:=id) (r := .vec ty sz d enc (zs.set j yy)) (by rw [hr1]; simp) hblk f1 f2 (fun _ => .imm (.any _)) (fun hk => ?_) (fun _ _ _ _ h=>by cases h)⟩
 rw [hv0] at hk f3 ⊢
 obtain ⟨_,q1,q2,_⟩:=hr1 ▸ hR1.rows id
 rw [hb] at q1; cases q1
 refine ⟨hd,hb,q2,by rw [hl1]; simp,.inr ⟨b,_,hh,f3,by simpa using e3,e4,by rw [o6 (by simpa using hfit)]; exact e5,fun p q hp hq => ?_⟩⟩
 have hp':p < zs.length:=by simpa using hp
 rw [o5 (by simpa using hfit)]
 simp only [List.length_cons,List.length_nil,Nat.zero_add]
 by_cases hpj:p=j
 ·subst hpj
  have eg:(zs.set p yy).getD p d=yy:=by simp [List.getD,hp']
  rw [eg,hy]
  by_cases hq2:q=off
  ·subst hq2
   have c:p * sz + q<=p * sz + q/\p * sz + q < p * sz + q + 1:=by omega
   rw [if_pos c]
   have e0:((enc (zs.getD p d)).set q (.sl sz1 d1 enc1 l1)).getD q .any = .sl sz1 d1 enc1 l1:=by
    rw [List.getD,List.getElem?_set_self (by rw [hlen]; exact hoff)]; rfl
   rw [e0,Nat.sub_self]
   exact hsl.mono (fun _ h=>h) hk
  ·have c:¬ (p * sz + off<=p * sz + q/\p * sz + q < p * sz + off + 1):=by omega
   rw [if_neg c]
   have e0:((enc (zs.getD p d)).set off (.sl sz1 d1 enc1 l1)).getD q .any=(enc (zs.getD p d)).getD q .any:=by simp [List.getD,List.getElem?_set,Ne.symm hq2]
   rw [e0]
   exact (e6 p q hp' hq).mono (fun _ h=>h) hk
 ·have eg:(zs.set j yy).getD p d=zs.getD p d:=by simp [List.getD,List.getElem?_set,Ne.symm hpj]
  have c:¬ (j * sz + off<=p * sz + q/\p * sz + q < j * sz + off + 1):=by
   rcases Nat.lt_or_gt_of_ne hpj with hlt | hgt
   ·have:=i8 hlt hq; omega
   ·have:(j + 1) * sz<=p * sz:=Nat.mul_le_mul_right sz hgt
    rw [Nat.add_mul] at this
    omega
  rw [eg,if_neg c]
  exact (e6 p q hp' hq).mono (fun _ h=>h) hk
end
def evN (P:Program) (dst:Option Nat) (op:Op) (g:Operand->AV) (r:Nat->Row) (K:Out->List Nat->Prop):Prop :=
 match op with
 | .load t x=>match g x with
  | .ptr id sz j off=>match r id with
   | .nest _ sz' j0 _ d enc _ ho l=>match P.info? t,P.underlying t with
    | some i,some dd=>match Nat.beq sz sz' && Nat.beq (enc (l.getD j d)).length sz with
     | true=>match a0g (G7 dd) i.size (a2l id j j0 ho (enc (l.getD j d))) off with
      | some v=>j < l.length/\K ⟨v,[]⟩ [id]
      | none=>False
     | false=>False
    | _,_=>False
   | _=>evOp P dst op g r K
  | _=>evOp P dst op g r K
 | .indexAddr t x i=>match g x with
  | .own id=>match r id with
   | .nest _ sz _ _ _ _ _ _ l=>match g i,P.underlying t with
    | .int _ n,some (.slice e)=>match P.info? e with
     | some inf=>match Nat.beq sz inf.size with
      | true=>(0<=n/\n < l.length)/\K ⟨.ptr id sz n.toNat 0,[]⟩ [id]
      | false=>False
     | none=>False
    | _,_=>False
   | _=>evOp P dst op g r K
  | .mem id m=>match r id with
   | .nest _ _ _ _ d _ ys none l=>match g i,P.underlying t with
    | .int _ n,some (.slice e)=>match P.info? e with
     | some inf=>match Nat.beq 1 inf.size with
      | true=>(0<=n/\n < (ys (l.getD m d)).length)/\K ⟨.mptr id m n.toNat,[]⟩ [id]
      | false=>False
     | none=>False
    | _,_=>False
   | _=>evOp P dst op g r K
  | _=>evOp P dst op g r K
 | .call c=>match c.callee with
  | .builtin .len=>match c.args.toList,c.argTypes.toList with
   | [x],[t]=>match g x with
    | .own id=>match r id with
     | .nest _ _ _ _ _ _ _ _ l=>match P.underlying t with
      | some (.slice _)=>K ⟨.int .i64 l.length,[]⟩ [id]
      | _=>evOp P dst op g r K
     | _=>evOp P dst op g r K
    | .mem id m=>match r id with
     | .nest _ _ _ _ d _ ys none l=>match P.underlying t with
      | some (.slice _)=>K ⟨.int .i64 (ys (l.getD m d)).length,[]⟩ [id]
      | _=>evOp P dst op g r K
     | _=>evOp P dst op g r K
    | _=>evOp P dst op g r K
   | _,_=>evOp P dst op g r K
  | .builtin .append=>match c.args.toList,c.argTypes.toList with
   | [s,x],[t,t']=>match g s with
    | .own id=>match r id with
     | .nest ty sz j0 ty' d0 enc ys none l=>match dst,P.underlying t,g x with
      | some d,some (.slice e),.own q=>match P.info? e,K0 P e,r q with
       | some i,some z,.lit _ szq [cs]=>match Nat.beq t t' && (Nat.beq z.length i.size && (Nat.blt 0 i.size && (Nat.beq ty e && (Nat.beq sz i.size && (Nat.beq szq sz && (Nat.beq cs.length sz && (Nat.blt j0 sz && (I2 cs && s9 (cs.set j0 .any))))))))) with
        | true=>match cs.getD j0 .any with
         | .own m=>∃ (zs:List Int) (y:_),(r m = .vec ty' 1 0 encI zs/\ys y=zs/\(enc y).set j0 .any=(cs.set j0 .any).map B3/\(l.length + 1) * i.bytes<=1099511627776/\l.length + 1<=1099511627776) /\
           K ⟨.own d,[(id,.none),(m,.none),(d,.nest ty sz j0 ty' d0 enc ys none (l++[y]))]⟩ [id,q,m]
         | .nils=>∃ y,(ys y=[]/\(enc y).set j0 .any=(cs.set j0 .any).map B3/\(l.length + 1) * i.bytes<=1099511627776/\l.length + 1<=1099511627776) /\
           K ⟨.own d,[(id,.none),(d,.nest ty sz j0 ty' d0 enc ys none (l++[y]))]⟩ [id,q]
         | _=>False
        | false=>False
       | _,_,_=>False
      | _,_,_=>False
     | _=>evOp P dst op g r K
    | _=>evOp P dst op g r K
   | _,_=>evOp P dst op g r K
  | _=>evOp P dst op g r K
 | .store t x y=>match g x with
  | .ptr id sz j off=>match g y with
   | .own e=>match r id with
    | .vec ty sz' d enc zs=>match r e with
     | .vec _ sz1 d1 enc1 l1=>match P.info? t with
      | some i=>match Nat.beq i.size 1 && (Nat.beq sz sz' && (Nat.beq (enc (zs.getD j d)).length sz && (Nat.blt off sz && !Nat.beq id e))) with
       | true=>∃ yy,(enc yy=(enc (zs.getD j d)).set off (.sl sz1 d1 enc1 l1)/\j < zs.length)/\K ⟨.any,[(e,.none),(id,.vec ty sz d enc (zs.set j yy))]⟩ [id,e]
       | false=>False
      | none=>False
     | _=>evOp P dst op g r K
    | _=>evOp P dst op g r K
   | _=>evOp P dst op g r K
  | _=>evOp P dst op g r K
 | _=>evOp P dst op g r K
theorem a6q {P:Program} {dst:Option Nat} {op:Op} {g:Operand->AV} {r:Nat->Row} {K:Out->List Nat->Prop} (h:evOp P dst op g r K):evN P dst op g r K:=by
 unfold evN
 split
 ·split
  ·rename_i hg
   split
   ·rename_i hr
    exfalso
    simp only [evOp,hg,hr] at h
    split at h<;>exact h
   ·exact h
  ·exact h
 ·split
  ·rename_i hg
   split
   ·rename_i hr
    exfalso
    simp only [evOp,hg,hr] at h
    repeat' split at h
    all_goals first | exact h | (obtain ⟨_,h⟩:=(m0 _ _ _).1 h; exact h)
   ·exact h
  ·rename_i hg
   split
   ·rename_i hr
    exfalso
    simp only [evOp,hg] at h
    repeat' split at h
    all_goals first | exact h | (obtain ⟨_,h⟩:=(m0 _ _ _).1 h; exact h)
   ·exact h
  ·exact h
 ·split
  ·rename_i hb
   split
   ·rename_i hx ht
    split
    ·rename_i hg
     split
     ·rename_i hr
      split
      ·rename_i hu
       exfalso
       simp only [evOp,hb,hx,ht,hg,hr,hu] at h
      ·exact h
     ·exact h
    ·rename_i hg
     split
     ·rename_i hr
      split
      ·rename_i hu
       exfalso
       simp only [evOp,hb,hx,ht,hg,hu] at h
      ·exact h
     ·exact h
    ·exact h
   ·exact h
  ·rename_i hb
   split
   ·rename_i hx ht
    split
    ·rename_i hg
     split
     ·rename_i hr
      exfalso
      simp only [evOp,hb,hx,ht,hg,hr] at h
      repeat' split at h
      all_goals first | exact h | (obtain ⟨D,l',_,hD,_⟩:=h; simp only [IsSl,hr] at hD)
     ·exact h
    ·exact h
   ·exact h
  ·exact h
 ·split
  ·rename_i hg
   split
   ·rename_i hgy
    split
    ·rename_i hr
     split
     ·rename_i hre
      exfalso
      simp only [evOp,hg,hgy,hr,AV.cells?,s9,AV.closed,Bool.false_and] at h
      repeat' split at h
      all_goals exact h
     ·exact h
    ·exact h
   ·exact h
  ·exact h
 ·exact h
section
variable {P:Program} {B:Nat->Prop} {w0:World} {F0:Env P} {S:St} {β:Nat->Option Hd} {F:Nat->Prop} {a:Act} {w:World}
theorem a9g (hR:Rel B w0 F0 S β F a w) {o:Oper} (hfree:E0 o.op=true->∀ d,o.dst=some d->β d=none) {K:Out->List Nat->Prop} (h:evN P o.dst o.op S.get S.row K) {Q:Exit->Act->World->Prop} :
  o.wp P a w (i7 B w0 F0 S β o.dst K) Q:=by
 have hE:=fun h=>b1m (P:=P) hR hfree (K:=K) (Q:=Q) h
 unfold evN at h
 split at h
 ·rename_i t x ho
  split at h
  ·rename_i id sz j off hg
   split at h
   ·rename_i hr
    split at h
    ·rename_i i dd hi hu
     split at h
     ·rename_i hc
      simp only [Bool.and_eq_true] at hc
      split at h
      ·rename_i v hl
       exact b0b hR ho hg hr hi hu (Nat.eq_of_beq_eq_true hc.1) (Nat.eq_of_beq_eq_true hc.2) hl h.1 h.2
      ·exact h.elim
     ·exact h.elim
    ·exact h.elim
   ·exact hE h
  ·exact hE h
 ·rename_i t x ix ho
  have hx:=hR.get x
  split at h
  ·rename_i id hg
   rw [hg] at hx
   split at h
   ·rename_i hr
    split at h
    ·rename_i k n e hn hu
     split at h
     ·rename_i inf hi
      split at h
      ·rename_i hsz
       have hsz:=Nat.eq_of_beq_eq_true hsz
       obtain ⟨⟨h0,h1⟩,hK⟩:=h
       obtain ⟨hd,hb,hv⟩:=hx.own_inv
       obtain ⟨hl1,hv2⟩:=E3 hR hr hb
       rcases hv2 with ⟨h2,_⟩ | ⟨b,vs,e1,_⟩
       ·rw [h2] at h1; simp at h1; omega
       ·rw [e1] at hv
        refine a2n hR ho hu hi hn hv h0 (by omega) ?_ hK
        rw [<- hsz]
        exact Rep.ptr hb e1
      ·exact h.elim
     ·exact h.elim
    ·exact h.elim
   ·exact hE h
  ·rename_i id m hg
   rw [hg] at hx
   split at h
   ·rename_i hr
    split at h
    ·rename_i k n e hn hu
     split at h
     ·rename_i inf hi
      split at h
      ·rename_i hsz
       have hsz:=Nat.eq_of_beq_eq_true hsz
       obtain ⟨⟨h0,h1⟩,hK⟩:=h
       obtain ⟨hd,hb,hin,hv⟩:∃ hd,β id=some hd/\m < hd.len/\a.eval x = .slice ((hd.m m).1.map fun b=>⟨b,0,none⟩) (hd.m m).2.1 (hd.m m).2.2:=by
        generalize a.eval x=v at hx
        cases hx with
        | imm h=>cases h
        | mem hb hi=>exact ⟨_,hb,hi,rfl⟩
       obtain ⟨hl1,hv2⟩:=E3 hR hr hb
       rcases hv2 with ⟨h2,_⟩ | ⟨b,vs,e1,e2,e3,e4,e5,e6,e7,e8,e9⟩
       ·rw [hl1,h2] at hin; simp at hin
       ·have hm:=e7 m
        rw [nYs,if_pos ⟨by omega,by simp⟩] at hm
        obtain ⟨m1,m2,m3⟩:=hm
        rcases m3 with ⟨m4,_⟩ | ⟨c',us,m4,m5,m6,m7,m8,m9⟩
        ·rw [m4] at h1; simp at h1; omega
        ·rw [m4] at hv
         refine a2n hR ho hu hi hn hv h0 (by omega) ?_ hK
         rw [<- hsz,Nat.mul_one]
         exact Rep.mptr hb m4 hin (by omega)
      ·exact h.elim
     ·exact h.elim
    ·exact h.elim
   ·exact hE h
  ·exact hE h
 ·rename_i c ho
  split at h
  ·rename_i hb
   split at h
   ·rename_i x t hx ht
    have hxv:=hR.get x
    split at h
    ·rename_i id hg
     rw [hg] at hxv
     split at h
     ·rename_i hr
      split at h
      ·rename_i e hu
       obtain ⟨hd,hb2,hv⟩:=hxv.own_inv
       obtain ⟨hl1,_⟩:=E3 hR hr hb2
       rw [hl1] at hv
       exact a6p hR ho hb hx ht hu hv h
      ·exact hE h
     ·exact hE h
    ·rename_i id m hg
     rw [hg] at hxv
     split at h
     ·rename_i hr
      split at h
      ·rename_i e hu
       obtain ⟨hd,hb2,hin,hv⟩:∃ hd,β id=some hd/\m < hd.len/\a.eval x = .slice ((hd.m m).1.map fun b=>⟨b,0,none⟩) (hd.m m).2.1 (hd.m m).2.2:=by
        generalize a.eval x=v at hxv
        cases hxv with
        | imm h=>cases h
        | mem hb hi=>exact ⟨_,hb,hi,rfl⟩
       obtain ⟨hl1,hv2⟩:=E3 hR hr hb2
       rcases hv2 with ⟨h2,_⟩ | ⟨b,vs,e1,e2,e3,e4,e5,e6,e7,e8,e9⟩
       ·rw [hl1,h2] at hin; simp at hin
       ·have hm:=e7 m
        rw [nYs,if_pos ⟨by omega,by simp⟩] at hm
        rw [hm.2.1] at hv
        exact a6p hR ho hb hx ht hu hv h
      ·exact hE h
     ·exact hE h
    ·exact hE h
   ·exact hE h
  ·rename_i hb
   split at h
   ·rename_i s x t t' hsx htt
    split at h
    ·rename_i id hgs
     split at h
     ·rename_i hr
      split at h
      ·rename_i d e q hd hu hgx
       split at h
       ·rename_i i z tyq szq cs hi hz hq
        split at h
        ·rename_i hc
         simp only [Bool.and_eq_true] at hc
         obtain ⟨c1,c2,c3,c4,c5,c6,c7,c8,c9,c10⟩:=hc
         have c1:=Nat.eq_of_beq_eq_true c1
         have c2:=Nat.eq_of_beq_eq_true c2
         have c3:=Nat.lt_of_lt_of_le (Nat.lt_succ_self _) (Nat.le_of_ble_eq_true c3)
         have c4:=Nat.eq_of_beq_eq_true c4
         have c5:=Nat.eq_of_beq_eq_true c5
         have c6:=Nat.eq_of_beq_eq_true c6
         have c7:=Nat.eq_of_beq_eq_true c7
         have c8:=Nat.lt_of_lt_of_le (Nat.lt_succ_self _) (Nat.le_of_ble_eq_true c8)
         subst c1; subst c4; subst c6
         have fd:=hfree (by simp [ho,E0,hb]) d hd
         split at h
         ·rename_i m hm
          obtain ⟨zs,y,⟨q1,q2,q3,q4,q5⟩,hK⟩:=h
          have hlm:S.row m ≠ .none:=by rw [q1]; simp
          obtain ⟨hdm,hbm⟩:=(hR.rows m).some hlm
          obtain ⟨l1,l2⟩:=G9 hR q1 hbm
          refine a1M hR ho hb hsx htt hd fd hu hgs hgx hr hi hz hq c2 c3 c5 c7 c8 c9 c10 q3 q4 q5 (cons:=[m]) (mm:=(hdm.b,hdm.len,hdm.cap)) (fun h => ?_) (fun v hv => ?_) (fun b hb=>⟨m,by simp,hlm,by rw [occ,hbm]; exact n9 hb⟩) hK
          ·have:_=m:=List.mem_singleton.1 h
           subst this; rw [hr] at q1; cases q1
          ·rw [hm] at hv
           obtain ⟨hd2,hb2,hv2⟩:=hv.own_inv
           rw [hbm] at hb2; cases hb2
           rw [q2]
           exact a1K l1 l2 hv2
         ·rename_i hm
          obtain ⟨y,⟨q2,q3,q4,q5⟩,hK⟩:=h
          refine a1M hR ho hb hsx htt hd fd hu hgs hgx hr hi hz hq c2 c3 c5 c7 c8 c9 c10 q3 q4 q5 (cons:=[]) (mm:=(none,0,0)) (by simp) (fun v hv => ?_) (fun b hb=>by cases hb) hK
          rw [hm] at hv
          rw [hv.nils_inv,q2]
          exact ⟨rfl,rfl,.inl ⟨rfl,rfl,rfl⟩⟩
         ·exact h.elim
        ·exact h.elim
       ·exact h.elim
      ·exact h.elim
     ·exact hE h
    ·exact hE h
   ·exact hE h
  ·exact hE h
 ·rename_i t x y ho
  split at h
  ·rename_i id sz j off hg
   split at h
   ·rename_i e hgy
    split at h
    ·rename_i α ty sz' d enc zs hr
     split at h
     ·rename_i α1 ty1 sz1 d1 enc1 l1 hre
      split at h
      ·rename_i i hi
       split at h
       ·rename_i hc
        simp only [Bool.and_eq_true,Bool.not_eq_true'] at hc
        obtain ⟨k1,k2,k3,k4,k5⟩:=hc
        obtain ⟨yy,⟨hy,hj⟩,hK⟩:=h
        have e0:=Nat.eq_of_beq_eq_true k2
        subst e0
        exact b0c hR ho hg hgy hr hre hi (Nat.eq_of_beq_eq_true k1) (Nat.eq_of_beq_eq_true k3) (Nat.lt_of_succ_le (Nat.le_of_ble_eq_true k4)) (fun h=>by subst h; simp at k5) hy hj hK
       ·exact h.elim
      ·exact h.elim
     ·exact hE h
    ·exact hE h
   ·exact hE h
  ·exact hE h
 ·exact hE h
theorem a1h {dst:Option Nat} {op:Op} {g:Operand->AV} {r:Nat->Row} {K:Out->List Nat->Prop} (h:evN P dst op g r K) :
  ∃ out rd,K out rd/\∀ g' r',(∀ x ∈ sees op,g' x=g x)->(∀ i ∈ rd,r' i=r i)->evN P dst op g' r' (fun o d=>o=out/\d=rd):=by
 have hE:evOp P dst op g r K->∃ out rd,K out rd/\∀ g' r',(∀ x ∈ sees op,g' x=g x)->(∀ i ∈ rd,r' i=r i)->evN P dst op g' r' (fun o d=>o=out/\d=rd):=fun h=>by
  obtain ⟨out,rd,h1,h2⟩:=a8g h
  exact ⟨out,rd,h1,fun g' r' hg hr=>a6q (h2 g' r' hg hr)⟩
 have h0:=h
 unfold evN at h
 split at h
 ·rename_i t x
  have e:∀ g':Operand->AV,(∀ z ∈ sees (.load t x),g' z=g z)->g' x=g x:=fun g' hg=>hg _ (by simp [sees,Op.operands])
  split at h
  ·rename_i id sz j off hg0
   split at h
   ·rename_i hr0
    split at h
    ·rename_i i dd hi hu
     split at h
     ·rename_i hc
      split at h
      ·rename_i v hl
       exact ⟨_,_,h.2,fun g' r' hg hr=>by simp only [evN,e g' hg,hg0,hr _ (List.mem_singleton.2 rfl),hr0,hi,hu,hc,hl]; exact ⟨h.1,trivial,trivial⟩⟩
      ·exact h.elim
     ·exact h.elim
    ·exact h.elim
   ·exact hE h
  ·exact hE h
 ·rename_i t x ix
  have e:∀ g':Operand->AV,(∀ z ∈ sees (.indexAddr t x ix),g' z=g z)->g' x=g x/\g' ix=g ix:=fun g' hg=>⟨hg _ (by simp [sees,Op.operands]),hg _ (by simp [sees,Op.operands])⟩
  split at h
  ·rename_i id hg0
   split at h
   ·rename_i hr0
    split at h
    ·rename_i k n e' hn hu
     split at h
     ·rename_i inf hi
      split at h
      ·rename_i hsz
       exact ⟨_,_,h.2,fun g' r' hg hr=>by simp only [evN,(e g' hg).1,(e g' hg).2,hg0,hr _ (List.mem_singleton.2 rfl),hr0,hn,hi,hu,hsz]; exact ⟨h.1,trivial,trivial⟩⟩
      ·exact h.elim
     ·exact h.elim
    ·exact h.elim
   ·exact hE h
  ·rename_i id m hg0
   split at h
   ·rename_i hr0
    split at h
    ·rename_i k n e' hn hu
     split at h
     ·rename_i inf hi
      split at h
      ·rename_i hsz
       exact ⟨_,_,h.2,fun g' r' hg hr=>by simp only [evN,(e g' hg).1,(e g' hg).2,hg0,hr _ (List.mem_singleton.2 rfl),hr0,hn,hi,hu,hsz]; exact ⟨h.1,trivial,trivial⟩⟩
      ·exact h.elim
     ·exact h.elim
    ·exact h.elim
   ·exact hE h
  ·exact hE h
 ·rename_i c
  have eargs:∀ g':Operand->AV,(∀ z ∈ sees (.call c),g' z=g z)->∀ x ∈ c.args.toList,g' x=g x:=fun g' hg x hx=>hg x (by simp only [sees,Op.operands,Call.operands,Array.toList_append]; exact List.mem_append_right _ hx)
  split at h
  ·rename_i hb
   split at h
   ·rename_i x t hx ht
    have ex:∀ g':Operand->AV,(∀ z ∈ sees (.call c),g' z=g z)->g' x=g x:=fun g' hg=>eargs g' hg x (by rw [hx]; simp)
    split at h
    ·rename_i id hg0
     split at h
     ·rename_i hr0
      split at h
      ·rename_i e' hu
       exact ⟨_,_,h,fun g' r' hg hr=>by simp only [evN,hb,hx,ht,ex g' hg,hg0,hr _ (List.mem_singleton.2 rfl),hr0,hu]; exact ⟨trivial,trivial⟩⟩
      ·exact hE h
     ·exact hE h
    ·rename_i id m hg0
     split at h
     ·rename_i hr0
      split at h
      ·rename_i e' hu
       exact ⟨_,_,h,fun g' r' hg hr=>by simp only [evN,hb,hx,ht,ex g' hg,hg0,hr _ (List.mem_singleton.2 rfl),hr0,hu]; exact ⟨trivial,trivial⟩⟩
      ·exact hE h
     ·exact hE h
    ·exact hE h
   ·exact hE h
  ·rename_i hb
   split at h
   ·rename_i s x t t' hsx htt
    have es:∀ g':Operand->AV,(∀ z ∈ sees (.call c),g' z=g z)->g' s=g s:=fun g' hg=>eargs g' hg s (by rw [hsx]; simp)
    have ex:∀ g':Operand->AV,(∀ z ∈ sees (.call c),g' z=g z)->g' x=g x:=fun g' hg=>eargs g' hg x (by rw [hsx]; simp)
    split at h
    ·rename_i id hgs
     split at h
     ·rename_i hr0
      split at h
      ·rename_i d e' q hu hgx
       split at h
       ·rename_i i z tyq szq cs hi hz hq
        split at h
        ·rename_i hc
         split at h
         ·rename_i m hm
          obtain ⟨zs,y,⟨q1,q2,q3,q4,q5⟩,hK⟩:=h
          refine ⟨_,_,hK,fun g' r' hg hr => ?_⟩
          simp only [evN,hb,hsx,htt,es g' hg,ex g' hg,hgs,hgx,hr id (by simp),hr q (by simp),hr m (by simp),hr0,hu,hi,hz,hq,hc,hm]
          exact ⟨zs,y,⟨q1,q2,q3,q4,q5⟩,rfl,trivial⟩
         ·rename_i hm
          obtain ⟨y,⟨q2,q3,q4,q5⟩,hK⟩:=h
          refine ⟨_,_,hK,fun g' r' hg hr => ?_⟩
          simp only [evN,hb,hsx,htt,es g' hg,ex g' hg,hgs,hgx,hr id (by simp),hr q (by simp),hr0,hu,hi,hz,hq,hc,hm]
          exact ⟨y,⟨q2,q3,q4,q5⟩,rfl,trivial⟩
         ·exact h.elim
        ·exact h.elim
       ·exact h.elim
      ·exact h.elim
     ·exact hE h
    ·exact hE h
   ·exact hE h
  ·exact hE h
 ·rename_i t x y
  have e:∀ g':Operand->AV,(∀ z ∈ sees (.store t x y),g' z=g z)->g' x=g x/\g' y=g y:=fun g' hg=>⟨hg _ (by simp [sees,Op.operands]),hg _ (by simp [sees,Op.operands])⟩
  split at h
  ·rename_i id sz j off hg0
   split at h
   ·rename_i en hgy
    split at h
    ·rename_i hr0
     split at h
     ·rename_i hre
      split at h
      ·rename_i i hi
       split at h
       ·rename_i hc
        obtain ⟨yy,q,hK⟩:=h
        refine ⟨_,_,hK,fun g' r' hg hr => ?_⟩
        simp only [evN,(e g' hg).1,(e g' hg).2,hg0,hgy,hr id (by simp),hr en (by simp),hr0,hre,hi,hc]
        exact ⟨yy,q,rfl,trivial⟩
       ·exact h.elim
      ·exact h.elim
     ·exact hE h
    ·exact hE h
   ·exact hE h
  ·exact hE h
 ·exact hE h
end
/- Regions: in the order of the text, and in any order. A helper text: it speaks of no program. -/
section
variable {P:Program} {B:Nat->Prop} {w0:World} {F0:Env P} {S:St} {β:Nat->Option Hd} {F:Nat->Prop} {a:Act} {w:World} {ops:Array Oper}
def s7 (d:Nat) (x:AV):AV :=
 match x.names d with
 | true => .any
 | false=>x
def k9 (d:Nat):Row->Row
 | .none => .none
 | .cells ty cs => .cells ty (cs.map (s7 d))
 | .lit ty sz css => .lit ty sz (css.map fun cs=>cs.map (s7 d))
 | .vec ty sz e enc l => .vec ty sz e enc l
 | .ctr l xs k e => .ctr l xs k e
 | .nest ty sz j0 ty' e enc ys ho l => .nest ty sz j0 ty' e enc ys ho l
def St.kill (S:St) (d:Nat):St:=⟨S.t.map (s7 d),(S.h.map (k9 d)).set d .none,S.n⟩
def St.kills (S:St):List Nat->St
 | []=>S
 | d :: l=>(S.kill d).kills l
theorem F6 {d:Nat} {β':Nat->Option Hd} (hβ:∀ j,j≠d->β' j=β j) {x:AV} {v:Value} (h:Rep β F w x v):Rep β' F w (s7 d x) v:=by
 unfold s7
 cases hn:x.names d with
 | true=>exact .imm (.any _)
 | false=>exact h.turn hβ hn
theorem x8 (d:Nat):s7 d .any = .any:=rfl
theorem R0 (S:St) (d j:Nat):(S.kill d).row j=if j=d then .none else k9 d (S.row j):=by
 simp only [St.kill,St.row,d6,List.length_map]
 have hm:(S.h.map (k9 d)).getD j .none=k9 d (S.h.getD j .none):=by
  simp only [List.getD,List.getElem?_map]
  cases S.h[j]? <;> rfl
 rw [hm]
 by_cases h:j=d
 ·subst h
  by_cases hl:j < S.h.length
  ·simp [hl]
  ·have e:S.h.getD j .none = .none:=by simp [List.getD,List.getElem?_eq_none (Nat.le_of_not_lt hl)]
   rw [e]; simp [k9]
 ·simp [h,Ne.symm h]
theorem T1 {d:Nat} {r:Row} (h:k9 d r ≠ .none):r ≠ .none:=by rintro rfl; exact h rfl
theorem Rel.kill (hR:Rel B w0 F0 S β F a w) (d:Nat) (hd0:F0.β d=none):∃ β',β' d=none/\(∀ j,j≠d->β' j=β j)/\Rel B w0 F0 (S.kill d) β' F a w:=by
 let β':Nat->Option Hd:=fun j=>if j=d then none else β j
 have h2:∀ j,j≠d->β' j=β j:=fun j hj=>by simp [β',hj]
 have b2:∀ j b,occ β' j b->j≠d/\occ β j b:=fun j b h=>by
  by_cases e:j=d
  ·subst e; simp [occ,β'] at h
  ·exact ⟨e,by simpa [occ,β',e] using h⟩
 have live:∀ j,(S.kill d).row j ≠ .none->j≠d/\S.row j ≠ .none:=fun j h=>by
  rw [R0] at h
  by_cases e:j=d
  ·simp [e] at h
  ·rw [if_neg e] at h; exact ⟨e,T1 h⟩
 refine ⟨β',by simp [β'],h2,?_⟩
 refine { len:=by simp [St.kill,hR.len],slots:=fun i hi => ?_,marks:=hR.marks,rows:=fun j => ?_,inj:=fun i j b hi hj hbi hbj => ?_,bF:=fun i b hi hbi => ?_,bB:=fun i b hbi=>hR.bB i b (b2 i b hbi).2,FB:=hR.FB,below:=hR.below,BW:=hR.BW,top:=fun j hd h=>(h2 j fun e=>by rw [e,hd0] at h; cases h).trans (hR.top j hd h),topn:=fun j hj=>hR.topn j (by simpa [St.kill,k8] using hj),nn:=hR.nn,inc:=hR.inc,keep:=hR.keep,sol:=hR.sol,yl:=hR.ylOf (fun i=>i) (fun id l xs k e h => ?_) (fun _ _ _ _ h=>h) (fun i b hi hb=>⟨i,(live i hi).2,(b2 i b hb).2⟩) (fun b hb => .inl hb) }
 ·simp only [St.kill,List.length_map] at hi ⊢
  rw [d5 _ (x8 d)]
  exact F6 h2 (hR.slots i hi)
 ·rw [R0]
  split
  ·trivial
  ·rename_i hj
   have:=hR.rows j
   cases hr:S.row j with
   | none=>trivial
   | ctr l xs k e =>
    rw [hr] at this
    obtain ⟨hd,e1,e2⟩:=this
    exact ⟨hd,(h2 j hj).trans e1,e2⟩
   | cells ty cs =>
    rw [hr] at this
    obtain ⟨hd,b,vs,e1,em,e2,e3,e4,e5⟩:=this
    exact ⟨hd,b,vs,(h2 j hj).trans e1,em,e2,e3,by simpa using e4,fun i hi=>by rw [d5 _ (x8 d)]; exact F6 h2 (e5 i (by simpa using hi))⟩
   | lit ty sz css =>
    rw [hr] at this
    obtain ⟨hd,b,vs,e1,em,e2,e3,e4,e5,e6,e7,e8⟩:=this
    have hg:∀ i,(css.map fun cs=>cs.map (s7 d)).getD i []=(css.getD i []).map (s7 d):=by
     intro i; simp only [List.getD,List.getElem?_map]; cases css[i]? <;> simp
    exact ⟨hd,b,vs,(h2 j hj).trans e1,em,e2,e3,by simpa using e4,by simpa using e5,by simpa using e6,by simpa using e7,fun i k hi hk=>by
     rw [hg,d5 _ (x8 d)]; exact F6 h2 (e8 i k (by simpa using hi) hk)⟩
   | vec ty sz e enc l =>
    rw [hr] at this
    obtain ⟨hd,e1,e2⟩:=this
    exact ⟨hd,(h2 j hj).trans e1,e2⟩
   | nest ty sz j0 ty' e enc ys ho l =>
    rw [hr] at this
    obtain ⟨hd,e1,e2⟩:=this
    exact ⟨hd,(h2 j hj).trans e1,e2⟩
 ·exact hR.inj i j b (live i hi).2 (live j hj).2 (b2 i b hbi).2 (b2 j b hbj).2
 ·exact hR.bF i b (live i hi).2 (b2 i b hbi).2
 ·rw [R0] at h
  split at h
  ·cases h
  ·cases hr:S.row id<;>rw [hr] at h<;>simp [k9] at h
   simp [h]
theorem Rel.kills:∀ (l:List Nat) {S:St} {β:Nat->Option Hd},(∀ d ∈ l,F0.β d=none)->Rel B w0 F0 S β F a w->∃ β',(∀ d ∈ l,β' d=none)/\(∀ j,β j=none->β' j=none)/\Rel B w0 F0 (S.kills l) β' F a w
 | [],_,β,_,hR=>⟨β,by simp,fun _ h=>h,hR⟩
 | d :: l,S,β,hd0,hR=>by
  obtain ⟨β1,h1,h2,hR1⟩:=hR.kill d (hd0 d (by simp))
  obtain ⟨β2,h3,h4,hR2⟩:=Rel.kills l (fun x hx=>hd0 x (by simp [hx])) hR1
  refine ⟨β2,fun x hx => ?_,fun j hj => ?_,hR2⟩
  ·rcases List.mem_cons.1 hx with rfl | hx
   ·exact h4 _ h1
   ·exact h3 x hx
  ·by_cases e:j=d
   ·subst e; exact h4 _ h1
   ·exact h4 _ ((h2 j e).trans hj)
theorem RepI.undef {F:Nat->Prop} {w:World}:RepI F w (.tup []) undef := .tup rfl fun i hi=>absurd hi (Nat.not_lt_zero i)
theorem Rep.tup0_inv {v:Value} {l:List AV} (h:Rep β F w (.tup l) v):∃ vs,v = .tuple vs:=by
 cases h with
 | imm h=>cases h; exact ⟨_,rfl⟩
 | tup _ _=>exact ⟨_,rfl⟩
def gw (ops:Array Oper) (S:St) (o:Oper):Option Bool :=
 match o.guard with
 | none=>some true
 | some (j,want)=>match (ops[j]?).bind (·.dst) with
  | none=>none
  | some t=>match S.t.getD t .any with
   | .tt=>some (want == true)
   | .ff=>some (want == false)
   | .bool b=>some (b == want)
   | .tup []=>some false
   | _=>none
theorem L7 (hR:Rel B w0 F0 S β F a w) {o:Oper} {b:Bool} (h:gw ops S o=some b):Region.wanted o (yielded ops a.tmps)=b:=by
 unfold gw at h
 unfold Region.wanted
 cases hg:o.guard with
 | none=>simp [hg] at h; simp [h]
 | some p =>
  obtain ⟨j,want⟩:=p
  simp only [hg] at h ⊢
  cases hd:(ops[j]?).bind (·.dst) with
  | none=>simp [hd] at h
  | some t =>
   simp only [hd] at h
   have hs:=hR.get (.tmp t)
   have hv:∀ c,a.eval (.tmp t) = .bool c->yielded ops a.tmps j=some c:=fun c hc=>by
    have hlt:t < a.tmps.size:=by
     rcases Nat.lt_or_ge t a.tmps.size with h' | h'
     ·exact h'
     ·simp [Act.eval,Array.getElem?_eq_none h',undef] at hc
    have:a.tmps[t] = .bool c:=by simpa [Act.eval,hlt] using hc
    simp [yielded,hd,hlt,this]
   have hget:S.get (.tmp t)=S.t.getD t .any:=rfl
   rw [hget] at hs
   split at h
   ·rename_i e; rw [e] at hs
    rw [hv _ hs.tt_inv]; simp only [Option.some.injEq] at h; subst h; cases want<;>rfl
   ·rename_i e; rw [e] at hs
    rw [hv _ hs.ff_inv]; simp only [Option.some.injEq] at h; subst h; cases want<;>rfl
   ·rename_i c e; rw [e] at hs
    rw [hv _ hs.bool_inv]; simp only [Option.some.injEq] at h; subst h; cases want<;>cases c<;>rfl
   ·rename_i e; rw [e] at hs
    simp only [Option.some.injEq] at h; subst h
    obtain ⟨vs,hvs⟩:=hs.tup0_inv
    have:yielded ops a.tmps j=none:=by
     simp only [yielded,hd,Option.bind_some]
     by_cases hlt:t < a.tmps.size
     ·have:a.tmps[t] = .tuple vs:=by simpa [Act.eval,hlt] using hvs
      simp [hlt,this]
     ·simp [hlt]
    rw [this]; rfl
   ·cases h
inductive Fine:AV->AV->Prop
 | same (x):Fine x x
 | tt:Fine (.bool true) .tt
 | ff:Fine (.bool false) .ff
theorem Fine.rep {x y:AV} {v:Value} (h:Fine x y) (hx:Rep β F w x v):Rep β F w y v:=by
 cases h with
 | same=>exact hx
 | tt=>rw [hx.bool_inv]; exact .imm .tt
 | ff=>rw [hx.bool_inv]; exact .imm .ff
theorem Rel.fine {dst:Option Nat} {x y:AV} {rows:List (Nat×Row)} (h:Rel B w0 F0 (S.put dst ⟨x,rows⟩) β F a w) (hf:Fine x y):Rel B w0 F0 (S.put dst ⟨y,rows⟩) β F a w where
 len:=by have:=h.len; simpa [St.put,D0] using this
 slots:=by
  intro i hi
  have:=h.slots i (by simpa [St.put,D0] using hi)
  simp only [St.put,G1] at this ⊢
  split
  ·rename_i hc; rw [if_pos hc] at this; exact hf.rep this
  ·rename_i hc; rw [if_neg hc] at this; exact this
 marks:=h.marks
 rows:=h.rows
 inj:=h.inj
 bF:=h.bF
 bB:=h.bB
 FB:=h.FB
 below:=h.below
 BW:=h.BW
 top:=h.top
 topn:=fun j hj=>h.topn j (by simpa [St.put,k8,D0] using hj)
 nn:=h.nn
 inc:=h.inc
 keep:=h.keep
 sol:=h.sol
 yl:=h.yl
theorem a9h (S:St) (dst:Option Nat) (out:Out) (x:Operand) (h:∀ d,dst=some d->x ≠ .tmp d):(S.put dst out).get x=S.get x:=by
 cases x with
 | tmp t =>
  simp only [St.get,St.put,G1]
  rw [if_neg]
  rintro ⟨h1,_⟩
  exact h t h1 rfl
 | _=>rfl
theorem a46 (h:List Row) (l:List (Nat×Row)) (i:Nat) (hi:i ∉ l.map (·.1)):(d8 h l).getD i .none=h.getD i .none:=by
 induction l generalizing h with
 | nil=>rfl
 | cons x l ih =>
  obtain ⟨j,r⟩:=x
  simp only [List.map_cons,List.mem_cons,not_or] at hi
  simp only [d8]
  rw [ih _ hi.2,d6,if_neg fun h=>hi.1 h.1.symm]
theorem a9i (S:St) (dst:Option Nat) (out:Out) (i:Nat) (hi:i ∉ out.rows.map (·.1)):(S.put dst out).row i=S.row i:=a46 _ _ _ hi
theorem a6r (h:List Row) (i:Nat) (r:Row) (l:List (Nat×Row)) (hi:i ∉ l.map (·.1)):(d8 h l).set i r=d8 (h.set i r) l:=by
 induction l generalizing h with
 | nil=>rfl
 | cons x l ih =>
  obtain ⟨j,r'⟩:=x
  simp only [List.map_cons,List.mem_cons,not_or] at hi
  simp only [d8]
  rw [ih _ hi.2,List.set_comm _ _ (fun e=>hi.1 e.symm)]
theorem a47 (h:List Row) (l m:List (Nat×Row)) (hd:∀ x ∈ l.map (·.1),x ∉ m.map (·.1)):d8 (d8 h l) m=d8 (d8 h m) l:=by
 induction l generalizing h with
 | nil=>rfl
 | cons x l ih =>
  obtain ⟨i,r⟩:=x
  simp only [d8]
  rw [ih _ fun x hx=>hd x (by simp only [List.map_cons]; exact List.mem_cons_of_mem _ hx)]
  rw [<- a6r h i r m (hd i (by simp))]
theorem b1n (S:St) {x y:Option Nat} (o p:Out) (h:∀ d,x=some d->y≠some d) (hr:∀ i ∈ o.rows.map (·.1),i ∉ p.rows.map (·.1)):(S.put x o).put y p=(S.put y p).put x o:=by
 simp only [St.put]
 congr 1
 ·cases x with
  | none=>rfl
  | some d =>
   cases y with
   | none=>rfl
   | some e=>exact List.set_comm _ _ (fun he=>h d rfl (by rw [he]))
 ·exact a47 _ _ _ hr
end
/- The executor, and why it is right. A helper text: it speaks of no program. -/
section
variable {P:Program} {B:Nat->Prop} {w0:World} {F0:Env P} {S:St} {β:Nat->Option Hd} {F:Nat->Prop} {a:Act} {w:World} {ops:Array Oper}
def a0j (s:Nat->Bool) (r:Nat->Row) (i:Nat):Row :=
 match s i with
 | true=>r i
 | false => .none
def frzN:Nat->(Nat->Bool)->(Nat->Row)->AV->AV
 | 0,_,_,x=>x
 | n + 1,s,r,x=>match x with
  | .ptr id sz i off=>match s id with
   | true=>o7 4 (a0j s r) (.ptr id sz i off)
   | false => .ptr id sz i off
  | .own id=>match s id with
   | true=>o7 4 (a0j s r) (.own id)
   | false => .own id
  | .mem id i=>match s id with
   | true=>o7 4 (a0j s r) (.mem id i)
   | false => .mem id i
  | .mptr id i k=>match s id with
   | true => .any
   | false => .mptr id i k
  | .agg l => .agg (l.map (frzN n s r))
  | .tup l => .tup (l.map (frzN n s r))
  | .fn f a b => .fn f (a.map (frzN n s r)) (b.map (frzN n s r))
  | x=>x
theorem N0 (n:Nat) (s r):frzN n s r .any = .any:=by cases n<;>rfl
def a2o (s:Nat->Bool) (r:Nat->Row):Row->Row
 | .none => .none
 | .cells ty cs => .cells ty (cs.map (frzN 4 s r))
 | .lit ty sz css => .lit ty sz (css.map fun cs=>cs.map (frzN 4 s r))
 | .vec ty sz e enc l => .vec ty sz e enc l
 | .ctr l xs k e => .ctr l xs k e
 | .nest ty sz j0 ty' e enc ys ho l => .nest ty sz j0 ty' e enc ys ho l
def T2 (s:Nat->Bool) (r:Nat->Row):Nat->List Row->List Row
 | _,[]=>[]
 | i,x :: l=>(match s i with
  | true => .none
  | false=>a2o s r x) :: T2 s r (i + 1) l
def St.freeze (S:St) (s:Nat->Bool):St:=⟨S.t.map (frzN 4 s S.row),T2 s S.row 0 S.h,S.n⟩
theorem a0P (s:Nat->Bool) (r:Nat->Row):∀ (h:List Row) (k j:Nat),(T2 s r k h).getD j .none=if s (k + j)=true then .none else a2o s r (h.getD j .none)
 | [],k,j=>by simp [T2,a2o]
 | x :: l,k,0=>by
  simp only [T2,List.getD_cons_zero,Nat.add_zero]
  cases s k<;>simp
 | x :: l,k,j + 1=>by
  simp only [T2,List.getD_cons_succ]
  rw [a0P s r l (k + 1) j,show k + 1 + j=k + (j + 1) by omega]
theorem Rel.forget (hR:Rel B w0 F0 S β F a w) {S':St} (ht:S'.t=S.t) (hn:S'.n=S.n) (hr:∀ i,S'.row i=S.row i∨S'.row i = .none):Rel B w0 F0 S' β F a w:=by
  have live:∀ i,S'.row i ≠ .none->S.row i ≠ .none:=fun i h=>by
    rcases hr i with e | e
    · rw [<- e]; exact h
    · exact absurd e h
  exact { len:=by rw [ht]; exact hR.len,slots:=fun i hi=>by rw [ht] at hi ⊢; exact hR.slots i hi,marks:=hR.marks,
          rows:=fun i=>by
            rcases hr i with e | e
            · rw [e]; exact hR.rows i
            · rw [e]; trivial
          inj:=fun i j b hi hj=>hR.inj i j b (live i hi) (live j hj),bF:=fun i b hi=>hR.bF i b (live i hi),bB:=hR.bB,FB:=hR.FB,below:=hR.below,BW:=hR.BW,top:=hR.top,topn:=fun j hj=>hR.topn j (by simpa [k8,ht,hn] using hj),nn:=hn.trans hR.nn,inc:=hR.inc,keep:=hR.keep,sol:=hR.sol,yl:=hR.ylOf (fun i=>i) (fun id l xs k e h=>by rcases hr id with e' | e'<;>rw [e'] at h; exact h; cases h) (fun _ _ _ _ h=>h) (fun i b hi hb=>⟨i,live i hi,hb⟩) (fun b hb => .inl hb) }
def a2p (s:Nat->Bool):Nat->List Row->List Row
 | _,[]=>[]
 | i,x :: l=>(match s i with
  | true=>x
  | false => .none) :: a2p s (i + 1) l
theorem a2q (s:Nat->Bool):∀ (h:List Row) (k j:Nat),(a2p s k h).getD j .none=if s (k + j)=true then h.getD j .none else .none
 | [],k,j=>by simp [a2p]
 | x :: l,k,0=>by
  simp only [a2p,List.getD_cons_zero,Nat.add_zero]
  cases s k<;>simp
 | x :: l,k,j + 1=>by
  simp only [a2p,List.getD_cons_succ]
  rw [a2q s l (k + 1) j,show k + 1 + j=k + (j + 1) by omega]
theorem a3G (hR:Rel B w0 F0 S β F a w) (s:Nat->Bool) (n:Nat) {x:AV} {v:Value} (h:Rep β F w x v) :
  RepI (fun b=>F b∨∃ i,s i=true/\S.row i ≠ .none/\occ β i b) w (o7 n (a0j s S.row) x) v:=by
 let S':St:=⟨S.t,a2p s 0 S.h,S.n⟩
 have hrow:∀ i,S'.row i=a0j s S.row i:=fun i=>by
  show (a2p s 0 S.h).getD i .none=_
  rw [a2q,Nat.zero_add]
  unfold a0j St.row
  cases s i<;>simp
 have hR':Rel B w0 F0 S' β F a w:=hR.forget rfl rfl fun i=>by
  rw [hrow]; unfold a0j
  cases s i
  ·exact .inr rfl
  ·exact .inl rfl
 have:=r9 hR' n h
 rw [show S'.row=a0j s S.row from funext hrow] at this
 refine this.mono (fun b hb => ?_) (fun _ _ _ _ h=>h)
 rcases hb with hb | ⟨i,h1,h2⟩
 ·exact .inl hb
 ·refine .inr ⟨i,?_,?_,h2⟩
  ·rw [hrow] at h1; unfold a0j at h1
   cases hs:s i with
   | true=>rfl
   | false=>simp [hs] at h1
  ·rw [hrow] at h1; unfold a0j at h1
   cases hs:s i with
   | true=>simpa [hs] using h1
   | false=>simp [hs] at h1
theorem Rel.freeze (hR:Rel B w0 F0 S β F a w) (s:Nat->Bool):∃ F',Rel B w0 F0 (S.freeze s) β F' a w:=by
 let F':Nat->Prop:=fun b=>F b∨∃ i,s i=true/\S.row i ≠ .none/\occ β i b
 have hF:∀ b,F b->F' b:=fun b h => .inl h
 have up:∀ {x v},Rep β F w x v->Rep β F' w x v:=fun h=>h.grow (fun _ _=>rfl) hF (n4.refl _ _)
 have frz:∀ (n:Nat) {x:AV} {v:Value},Rep β F w x v->Rep β F' w (frzN n s S.row x) v:=by
  intro n
  induction n with
  | zero=>intro x v h; exact up h
  | succ n ih =>
   intro x v h
   have cl:=a3G hR s 4 h
   cases x with
   | ptr id sz i off =>
    simp only [frzN]
    cases s id
    ·exact up h
    ·exact .imm cl
   | own id =>
    simp only [frzN]
    cases s id
    ·exact up h
    ·exact .imm cl
   | mem id i =>
    simp only [frzN]
    cases s id
    ·exact up h
    ·exact .imm cl
   | mptr id i k =>
    simp only [frzN]
    cases s id
    ·exact up h
    ·exact .imm (.any _)
   | agg l =>
    obtain ⟨vs,rfl,hl,hr⟩:=h.agg_inv
    exact .agg (by simpa using hl) fun i hi=>by rw [d5 _ (N0 _ _ _)]; exact ih (hr i (by simpa using hi))
   | tup l =>
    obtain ⟨vs,rfl,hl,hr⟩:=h.tup_inv
    exact .tup (by simpa using hl) fun i hi=>by rw [d5 _ (N0 _ _ _)]; exact ih (hr i (by simpa using hi))
   | fn f xs ys =>
    obtain ⟨vs,us,rfl,hl,hm,hr,hk⟩:=h.fn_inv
    exact .fn (by simpa using hl) (fun i hi=>by rw [d5 _ (N0 _ _ _)]; exact ih (hr i (by simpa using hi))) (by simpa using hm) (fun i hi=>by rw [d5 _ (N0 _ _ _)]; exact ih (hk i (by simpa using hi)))
   | _=>exact up h
 have hrow:∀ i,(S.freeze s).row i=if s i=true then .none else a2o s S.row (S.row i):=fun i=>by
  show (T2 s S.row 0 S.h).getD i .none=_
  rw [a0P,Nat.zero_add]; rfl
 have live:∀ i,(S.freeze s).row i ≠ .none->s i=false/\S.row i ≠ .none:=fun i h=>by
  rw [hrow] at h
  cases hs:s i with
  | true=>simp [hs] at h
  | false=>simp only [hs,Bool.false_eq_true,if_false] at h; exact ⟨rfl,fun e=>h (by rw [e]; rfl)⟩
 refine ⟨F',{ len:=by simp [St.freeze,hR.len],slots:=fun i hi => ?_,marks:=hR.marks,rows:=fun j => ?_,inj:=fun i j b hi hj=>hR.inj i j b (live i hi).2 (live j hj).2,bF:=fun i b hi hbi h => ?_,bB:=hR.bB,FB:=fun b h => ?_,below:=hR.below,BW:=hR.BW,top:=hR.top,topn:=fun j hj=>hR.topn j (by simpa [St.freeze,k8] using hj),nn:=hR.nn,inc:=fun b hb=>hF b (hR.inc b hb),keep:=hR.keep,sol:=hR.sol,yl:=hR.ylOf (fun i=>i) (fun id l xs k e h => ?_) (fun _ _ _ _ h=>h) (fun i b hi hb=>⟨i,(live i hi).2,hb⟩) (fun b hb=>hb.elim .inl fun ⟨i,_,h1,h2⟩ => .inr ⟨i,h1,h2⟩) }⟩
 ·simp only [St.freeze,List.length_map] at hi ⊢
  rw [d5 _ (N0 _ _ _)]
  exact frz 4 (hR.slots i hi)
 ·rw [hrow]
  split
  ·trivial
  ·have:=hR.rows j
   cases hr:S.row j with
   | none=>trivial
   | ctr l xs k e=>rw [hr] at this; exact this
   | cells ty cs =>
    rw [hr] at this
    obtain ⟨hd,b,vs,e1,em,e2,e3,e4,e5⟩:=this
    exact ⟨hd,b,vs,e1,em,e2,e3,by simpa using e4,fun i hi=>by rw [d5 _ (N0 _ _ _)]; exact frz 4 (e5 i (by simpa using hi))⟩
   | lit ty sz css =>
    rw [hr] at this
    obtain ⟨hd,b,vs,e1,em,e2,e3,e4,e5,e6,e7,e8⟩:=this
    have hg:∀ i,(css.map fun cs=>cs.map (frzN 4 s S.row)).getD i []=(css.getD i []).map (frzN 4 s S.row):=by
     intro i; simp only [List.getD,List.getElem?_map]; cases css[i]? <;> simp
    exact ⟨hd,b,vs,e1,em,e2,e3,by simpa using e4,by simpa using e5,by simpa using e6,by simpa using e7,fun i k hi hk=>by
     rw [hg,d5 _ (N0 _ _ _)]; exact frz 4 (e8 i k (by simpa using hi) hk)⟩
   | vec ty sz e enc l =>
    rw [hr] at this
    obtain ⟨hd,e1,em,e2,e3⟩:=this
    refine ⟨hd,e1,em,e2,?_⟩
    rcases e3 with e3 | ⟨b,vs,q1,q2,q3,q4,q5,q6⟩
    ·exact .inl e3
    ·exact .inr ⟨b,vs,q1,q2,q3,q4,q5,fun i k hi hk=>(q6 i k hi hk).mono hF (fun _ _ _ _ h=>h)⟩
   | nest ty sz j0 ty' e enc ys ho l =>
    rw [hr] at this
    exact this.grow (fun _ _=>rfl) hF (n4.refl _ _) (fun _ _=>rfl)
 ·obtain ⟨h1,h2⟩:=live i hi
  rcases h with h | ⟨k,h3,h4,h5⟩
  ·exact hR.bF i b h2 hbi h
  ·have:=hR.inj i k b h2 h4 hbi h5
   subst this
   rw [h1] at h3; cases h3
 ·rcases h with h | ⟨i,h1,h2,h3⟩
  ·exact hR.FB b h
  ·have:=hR.bB i b h3; exact ⟨this.2,.inr this.1⟩
 ·rw [hrow] at h
  split at h
  ·cases h
  ·cases hr:S.row id<;>rw [hr] at h<;>simp [a2o] at h
   simp [h]
def a0k:List AV->List AV->Option (List AV)
 | [],[]=>some []
 | a :: l,b :: m=>match a0k l m with
  | some n=>match a with
   | .any=>some (.any :: n)
   | _=>some (b :: n)
  | none=>none
 | _,_=>none
def V2:List Row->List Row->Option (List Row)
 | [],[]=>some []
 | a :: l,b :: m=>match V2 l m with
  | some n=>match a with
   | .none=>some (.none :: n)
   | _=>some (b :: n)
  | none=>none
 | _,_=>none
theorem a2r:∀ {t s n:List AV},a0k t s=some n->t.length=s.length/\n.length=s.length/\∀ i,n.getD i .any = .any∨n.getD i .any=s.getD i .any
 | [],[],n,h=>by simp [a0k] at h; subst h; exact ⟨rfl,rfl,fun i => .inl rfl⟩
 | a :: l,b :: m,n,h=>by
  simp only [a0k] at h
  cases hm:a0k l m with
  | none=>simp [hm] at h
  | some k =>
   obtain ⟨h0,h1,h2⟩:=a2r hm
   simp only [hm] at h
   have:∃ c,n=c :: k/\(c = .any∨c=b):=by
    split at h
    ·cases h; exact ⟨_,rfl,.inl rfl⟩
    ·cases h; exact ⟨_,rfl,.inr rfl⟩
   obtain ⟨c,rfl,hc⟩:=this
   refine ⟨by simp [h0],by simp [h1],fun i => ?_⟩
   cases i with
   | zero=>simpa using hc
   | succ i=>simpa using h2 i
 | [],_ :: _,_,h=>by simp [a0k] at h
 | _ :: _,[],_,h=>by simp [a0k] at h
theorem a0u:∀ {t s n:List Row},V2 t s=some n->∀ i,n.getD i .none = .none∨n.getD i .none=s.getD i .none
 | [],[],n,h=>by simp [V2] at h; subst h; exact fun i => .inl rfl
 | a :: l,b :: m,n,h=>by
  simp only [V2] at h
  cases hm:V2 l m with
  | none=>simp [hm] at h
  | some k =>
   have h2:=a0u hm
   simp only [hm] at h
   have:∃ c,n=c :: k/\(c = .none∨c=b):=by
    split at h
    ·cases h; exact ⟨_,rfl,.inl rfl⟩
    ·cases h; exact ⟨_,rfl,.inr rfl⟩
   obtain ⟨c,rfl,hc⟩:=this
   intro i
   cases i with
   | zero=>simpa using hc
   | succ i=>simpa using h2 i
 | [],_ :: _,_,h=>by simp [V2] at h
 | _ :: _,[],_,h=>by simp [V2] at h
theorem Rel.mask (hR:Rel B w0 F0 S β F a w) {T:St} (hn:T.n=S.n) (h1:a0k T.t S.t=some T.t) (h2:V2 T.h S.h=some T.h):Rel B w0 F0 T β F a w:=by
 obtain ⟨_,l1,m1⟩:=a2r h1
 have m2:=a0u h2
 have hR':Rel B w0 F0 ⟨S.t,T.h,S.n⟩ β F a w:=hR.forget rfl rfl fun i=>(m2 i).symm
 exact { hR' with
  len:=by rw [l1]; exact hR.len
  slots:=fun i hi=>by
   rcases m1 i with e | e
   ·rw [e]; exact .imm (.any _)
   ·rw [e]; exact hR.slots i (by rw [<- l1]; exact hi)
  topn:=fun j hj=>hR.topn j (by simpa [k8,l1,hn] using hj)
  nn:=hn.trans hR.nn }
end
/- The executor, and why it is right (second part). A helper text: it speaks of no program. -/
section
variable {P:Program} {B:Nat->Prop} {w0:World} {F0:Env P} {S:St} {β:Nat->Option Hd} {F:Nat->Prop} {a:Act} {w:World} {ops:Array Oper}
structure VT:Type 1 where
 α:Type
 ty:TypeId
 sz:Nat
 d:α
 enc:α->List AV
mutual
def mvAV (id t:Nat):AV->AV
 | .ptr k sz i off => .ptr (match Nat.beq k id with
  | true=>t
  | false=>k) sz i off
 | .own k => .own (match Nat.beq k id with
  | true=>t
  | false=>k)
 | .mem k i => .mem (match Nat.beq k id with
  | true=>t
  | false=>k) i
 | .mptr k i j => .mptr (match Nat.beq k id with
  | true=>t
  | false=>k) i j
 | .agg l => .agg (mvL id t l)
 | .tup l => .tup (mvL id t l)
 | .fn f a b => .fn f (mvL id t a) (mvL id t b)
 | x=>x
def mvL (id t:Nat):List AV->List AV
 | []=>[]
 | a :: l=>mvAV id t a :: mvL id t l
end
def O1 (id t:Nat):Row->Row
 | .cells ty cs => .cells ty (mvL id t cs)
 | .lit ty sz css => .lit ty sz (css.map (mvL id t))
 | r=>r
def mvSt (id t:Nat) (S:St):St:=⟨mvL id t S.t,((S.h.map (O1 id t)).set t (O1 id t (S.row id))).set id .none,S.n⟩
def canonB (t b c:Nat) (V:VT) (S:St):St :=
 match k8 S t && !(Nat.beq b t) with
 | false=>S
 | true=>match S.row b with
  | .cells _ cs=>match cs.getD c .any with
   | .own id=>match Nat.beq id t with
    | true=>S
    | false=>match k8 S id && !(Nat.beq id b) with
     | false=>S
     | true=>mvSt id t (S.kill t)
   | .nils=>match (S.kill t).row b with
    | .cells ty' cs'=>⟨(S.kill t).t,((S.kill t).h.set t (.vec V.ty V.sz V.d V.enc [])).set b (.cells ty' (cs'.set c (.own t))),S.n⟩
    | _=>S
   | _=>S
  | _=>S
def canonS (t:Nat) (V:VT) (S:St):St :=
 match S.t.getD t .any with
 | .own id=>match Nat.beq id t with
  | true=>S
  | false=>match k8 S id && k8 S t with
   | false=>S
   | true=>⟨(((S.kill t).kill id).t).set t (.own t),(((S.kill t).kill id).h).set t (k9 id ((S.kill t).row id)),S.n⟩
 | .nils=>match k8 S t with
  | false=>S
  | true=>⟨(S.kill t).t.set t (.own t),(S.kill t).h.set t (.vec V.ty V.sz V.d V.enc []),S.n⟩
 | _=>S
def canon1 (t:Nat) (V:VT) (S:St):St :=
 match Nat.blt t 65536 with
 | true=>canonS t V S
 | false=>canonB (t % 65536) ((t / 65536 - 1) % 4096) ((t / 65536 - 1) / 4096) V S
def canonV:List (Nat×VT)->St->St
 | [],S=>S
 | (t,V) :: l,S=>canonV l (canon1 t V S)
theorem j8.kill {β β':Nat->Option Hd} {id t:Nat} (hβ:∀ j,j≠id->β j≠none->β' j=β j) (hid:β' t=β id) {r:Row} (h:j8 β F w id r):j8 β' F w t (k9 id r):=by
 have up:∀ {x v},Rep β F w x v->Rep β' F w (s7 id x) v:=fun {x v} h=>by
  have h1:Rep (fun j=>if j=id then none else β j) F w (s7 id x) v:=F6 (fun j hj=>by simp [hj]) h
  exact h1.grow (fun j hj=>by
   by_cases e:j=id
   ·simp [e] at hj
   ·simp only [e,if_false] at hj ⊢; exact hβ j e hj) (fun _ h=>h) (n4.refl _ _)
 cases r with
 | none=>trivial
 | ctr l xs k e=>obtain ⟨hd,e1,e2⟩:=h; exact ⟨hd,hid.trans e1,e2⟩
 | cells ty cs =>
  obtain ⟨hd,b,vs,e1,em,e2,e3,e4,e5⟩:=h
  exact ⟨hd,b,vs,hid.trans e1,em,e2,e3,by simpa using e4,fun i hi=>by rw [d5 _ (x8 id)]; exact up (e5 i (by simpa using hi))⟩
 | lit ty sz css =>
  obtain ⟨hd,b,vs,e1,em,e2,e3,e4,e5,e6,e7,e8⟩:=h
  have hg:∀ i,(css.map fun cs=>cs.map (s7 id)).getD i []=(css.getD i []).map (s7 id):=by
   intro i; simp only [List.getD,List.getElem?_map]; cases css[i]? <;> simp
  exact ⟨hd,b,vs,hid.trans e1,em,e2,e3,by simpa using e4,by simpa using e5,by simpa using e6,by simpa using e7,fun i k hi hk=>by
   rw [hg,d5 _ (x8 id)]; exact up (e8 i k (by simpa using hi) hk)⟩
 | vec ty sz e enc l =>
  obtain ⟨hd,e1,e2⟩:=h
  exact ⟨hd,hid.trans e1,e2⟩
 | nest ty sz j0 ty' d enc ys ho l =>
  obtain ⟨hd,e1,e2⟩:=h
  exact ⟨hd,hid.trans e1,e2⟩
theorem Rel.rename (hR:Rel B w0 F0 S β F a w) {t id:Nat} (ht:β t=none) (hid:id≠t) (hs:S.t.getD t .any = .own id) (hd0:F0.β id=none) :
  ∃ β',Rel B w0 F0 ⟨((S.kill id).t).set t (.own t),((S.kill id).h).set t (k9 id (S.row id)),S.n⟩ β' F a w:=by
 obtain ⟨hd,hβ,hv⟩:∃ hd,β id=some hd/\a.tmps.getD t undef = .slice (hd.b.map fun b=>⟨b,0,none⟩) hd.len hd.cap:=by
  have:=hR.get (.tmp t)
  have e:S.get (.tmp t) = .own id:=hs
  rw [e] at this
  have he:a.eval (.tmp t)=a.tmps.getD t undef:=rfl
  rw [he] at this
  exact this.own_inv
 let β':Nat->Option Hd:=fun j=>if j=t then some hd else if j=id then none else β j
 have b1:β' t=some hd:=by simp [β']
 have b2:∀ j,j≠t->j≠id->β' j=β j:=fun j h1 h2=>by simp [β',h1,h2]
 have b3:β' id=none:=by simp [β',hid]
 have hkeep:∀ j,j≠id->β j≠none->β' j=β j:=fun j h1 h2=>b2 j (fun e=>h2 (e ▸ ht)) h1
 have up:∀ {x v},Rep β F w x v->Rep β' F w (s7 id x) v:=fun {x v} h=>by
  have h1:Rep (fun j=>if j=id then none else β j) F w (s7 id x) v:=F6 (fun j hj=>by simp [hj]) h
  exact h1.grow (fun j hj=>by
   by_cases e:j=id
   ·simp [e] at hj
   ·simp only [e,if_false] at hj ⊢; exact hkeep j e hj) (fun _ h=>h) (n4.refl _ _)
 let S':St:=⟨((S.kill id).t).set t (.own t),((S.kill id).h).set t (k9 id (S.row id)),S.n⟩
 have hrow:∀ j,S'.row j=if t=j/\j < (S.kill id).h.length then k9 id (S.row id) else if j=id then .none else k9 id (S.row j):=fun j=>by
  show (((S.kill id).h).set t (k9 id (S.row id))).getD j .none=_
  rw [d6]
  by_cases h:t=j
  ·subst h
   by_cases h2:t < (S.kill id).h.length
   ·simp [h2]
   ·simp only [h2,and_false,if_false]
    have:=R0 S id t
    exact this
  ·simp only [h,false_and,if_false]
   exact R0 S id j
 have bl:∀ j b,occ β' j b->(j=t/\hasB (some hd) b)∨(j≠t/\j≠id/\occ β j b):=fun j b h=>by
  by_cases e:j=t
  ·subst e; exact .inl ⟨rfl,by simpa [occ,b1] using h⟩
  ·by_cases e2:j=id
   ·subst e2; simp [occ,b3] at h
   ·exact .inr ⟨e,e2,by simpa [occ,b2 j e e2] using h⟩
 have lv:∀ j,S'.row j ≠ .none->(j=t/\S.row id ≠ .none)∨(j≠id/\S.row j ≠ .none):=fun j h=>by
  rw [hrow] at h
  split at h
  ·rename_i hc; exact .inl ⟨hc.1.symm,T1 h⟩
  ·split at h
   ·exact absurd rfl h
   ·rename_i hn; exact .inr ⟨hn,T1 h⟩
 have tnone:∀ {r},j8 β F w t r->r = .none:=fun {r} h=>by
  cases r with
  | none=>rfl
  | ctr l xs k e'=>obtain ⟨_,e,_⟩:=h; rw [ht] at e; cases e
  | cells ty cs=>obtain ⟨_,_,_,e,_⟩:=h; rw [ht] at e; cases e
  | lit ty sz css=>obtain ⟨_,_,_,e,_⟩:=h; rw [ht] at e; cases e
  | vec ty sz d enc l=>obtain ⟨_,e,_⟩:=h; rw [ht] at e; cases e
  | nest ty sz j0 ty' d enc ys ho l=>obtain ⟨_,e,_⟩:=h; rw [ht] at e; cases e
 have ht0:S.row t = .none:=tnone (hR.rows t)
 have lv':∀ j b,S'.row j ≠ .none->occ β' j b->(j=t/\S.row id ≠ .none/\occ β id b)∨(j≠t/\j≠id/\S.row j ≠ .none/\occ β j b):=fun j b h1 h2=>by
  rcases bl j b h2 with ⟨e,h3⟩ | ⟨e1,e2,h3⟩
  ·refine .inl ⟨e,?_,by rw [occ,hβ]; exact h3⟩
   rcases lv j h1 with ⟨_,h⟩ | ⟨_,h⟩
   ·exact h
   ·rw [e] at h; exact absurd ht0 h
  ·rcases lv j h1 with ⟨e,_⟩ | ⟨_,h⟩
   ·exact absurd e e1
   ·exact .inr ⟨e1,e2,h,h3⟩
 refine ⟨β',{ len:=by simp [St.kill,hR.len],slots:=fun i hi => ?_,marks:=hR.marks,rows:=fun j => ?_,inj:=fun i j b hi hj hbi hbj => ?_,bF:=fun i b hi hbi => ?_,bB:=fun i b hbi => ?_,FB:=hR.FB,below:=hR.below,BW:=hR.BW,top:=fun j hd h=>(hkeep j (fun e=>by rw [e,hd0] at h; cases h) (by rw [hR.top j hd h]; simp)).trans (hR.top j hd h),topn:=fun j hj=>hR.topn j (by simpa [St.kill,k8] using hj),nn:=hR.nn,inc:=hR.inc,keep:=hR.keep,sol:=hR.sol,yl:=hR.ylOf (fun j=>if j=t then id else j) (fun j l xs k e h => ?_) (fun i j hi hj e => ?_) (fun i b hi hb=>by rcases lv' i b hi hb with ⟨_,l1,k1⟩ | ⟨_,_,l1,k1⟩; exact ⟨id,l1,k1⟩; exact ⟨i,l1,k1⟩) (fun b hb => .inl hb) }⟩
 ·simp only [List.length_set] at hi
  rw [C1]
  split
  ·rename_i hc
   rw [<- hc.1,hv]
   exact .own b1
  ·simp only [St.kill,List.length_map] at hi ⊢
   rw [d5 _ (x8 id)]
   exact up (hR.slots i hi)
 ·show j8 β' F w j (S'.row j)
  rw [hrow]
  split
  ·rename_i hc
   rw [<- hc.1]
   exact j8.kill hkeep (b1.trans hβ.symm) (hR.rows id)
  ·split
   ·trivial
   ·rename_i h1 h2
    by_cases e:j=t
    ·subst e; rw [ht0]; trivial
    ·have hj:=hR.rows j
     have key:j8 (fun i=>if i=id then none else β i) F w j (k9 id (S.row j)):=by
      cases hr:S.row j with
      | none=>trivial
      | ctr l xs k e =>
       rw [hr] at hj
       obtain ⟨hd',e1,e2⟩:=hj
       exact ⟨hd',by simp [h2,e1],e2⟩
      | cells ty cs =>
       rw [hr] at hj
       obtain ⟨hd',b,vs,e1,em,e2,e3,e4,e5⟩:=hj
       exact ⟨hd',b,vs,by simp [h2,e1],em,e2,e3,by simpa using e4,fun i hi=>by rw [d5 _ (x8 id)]; exact F6 (fun k hk=>by simp [hk]) (e5 i (by simpa using hi))⟩
      | lit ty sz css =>
       rw [hr] at hj
       obtain ⟨hd',b,vs,e1,em,e2,e3,e4,e5,e6,e7,e8⟩:=hj
       have hg:∀ i,(css.map fun cs=>cs.map (s7 id)).getD i []=(css.getD i []).map (s7 id):=by
        intro i; simp only [List.getD,List.getElem?_map]; cases css[i]? <;> simp
       exact ⟨hd',b,vs,by simp [h2,e1],em,e2,e3,by simpa using e4,by simpa using e5,by simpa using e6,by simpa using e7,fun i k hi hk=>by
        rw [hg,d5 _ (x8 id)]; exact F6 (fun k hk=>by simp [hk]) (e8 i k (by simpa using hi) hk)⟩
      | vec ty sz e enc l =>
       rw [hr] at hj
       obtain ⟨hd',e1,e2⟩:=hj
       exact ⟨hd',by simp [h2,e1],e2⟩
      | nest ty sz j0 ty' d enc ys ho l =>
       rw [hr] at hj
       obtain ⟨hd',e1,e2⟩:=hj
       exact ⟨hd',by simp [h2,e1],e2⟩
     exact key.grow (fun i hi=>by
      by_cases ei:i=id
      ·simp [ei] at hi
      ·simp only [ei,if_false] at hi ⊢; exact hkeep i ei hi) (fun _ h=>h) (n4.refl _ _) (fun _ _=>rfl)
 ·rcases lv' i b hi hbi with ⟨e1,l1,k1⟩ | ⟨e1,e1',l1,k1⟩<;>rcases lv' j b hj hbj with ⟨e2,l2,k2⟩ | ⟨e2,e2',l2,k2⟩
  ·rw [e1,e2]
  ·exact absurd (hR.inj id j b l1 l2 k1 k2).symm e2'
  ·exact absurd (hR.inj i id b l1 l2 k1 k2) e1'
  ·exact hR.inj i j b l1 l2 k1 k2
 ·rcases lv' i b hi hbi with ⟨_,l1,k1⟩ | ⟨_,_,l1,k1⟩
  ·exact hR.bF id b l1 k1
  ·exact hR.bF i b l1 k1
 ·rcases bl i b hbi with ⟨_,h⟩ | ⟨_,_,h⟩
  ·exact hR.bB id b (by rw [occ,hβ]; exact h)
  ·exact hR.bB i b h
 ·replace h:S'.row j = .ctr l xs k e:=h
  rw [hrow] at h
  have inv:∀ {r},k9 id r = .ctr l xs k e->r = .ctr l xs k e:=fun {r} h=>by cases r<;>simp [k9] at h; simp [h]
  split at h
  ·rename_i hc; rw [if_pos hc.1.symm]; exact inv h
  ·split at h
   ·cases h
   ·rename_i h1 h2
    by_cases e:j=t
    ·subst e; rw [ht0] at h; simp [k9] at h
    ·rw [if_neg e]; exact inv h
 ·have hi':S'.row i ≠ .none:=hi
  have hj':S'.row j ≠ .none:=hj
  have key:∀ j,S'.row j ≠ .none->j=t∨j≠id:=fun j h=>by
   rcases lv j h with ⟨e,_⟩ | ⟨e,_⟩
   ·exact .inl e
   ·exact .inr e
  by_cases e1:i=t
  ·by_cases e2:j=t
   ·rw [e1,e2]
   ·rw [if_pos e1,if_neg e2] at e
    rcases key j hj' with h | h
    ·exact absurd h e2
    ·exact absurd e.symm h
  ·by_cases e2:j=t
   ·rw [if_neg e1,if_pos e2] at e
    rcases key i hi' with h | h
    ·exact absurd h e1
    ·exact absurd e h
   ·rw [if_neg e1,if_neg e2] at e; exact e
theorem Rel.nilVec (hR:Rel B w0 F0 S β F a w) {t:Nat} (ht:β t=none) (hs:S.t.getD t .any = .nils) (V:VT):∃ β',Rel B w0 F0 ⟨S.t.set t (.own t),S.h.set t (.vec V.ty V.sz V.d V.enc []),S.n⟩ β' F a w:=by
 have hv:a.tmps.getD t undef = .slice none 0 0:=by
  have:=hR.get (.tmp t)
  have e:S.get (.tmp t) = .nils:=hs
  rw [e] at this
  exact this.nils_inv
 let β':Nat->Option Hd:=fun j=>if j=t then some ⟨none,0,0,noM⟩ else β j
 have b1:β' t=some ⟨none,0,0,noM⟩:=by simp [β']
 have b2:∀ j,j≠t->β' j=β j:=fun j h1=>by simp [β',h1]
 have b3:∀ j,β j≠none->β' j=β j:=fun j hj=>b2 j fun e=>hj (e ▸ ht)
 have bl:∀ j b,occ β' j b->j≠t/\occ β j b:=fun j b h=>by
  by_cases e:j=t
  ·subst e; simp [occ,b1] at h
  ·exact ⟨e,by simpa [occ,b2 j e] using h⟩
 have lv:∀ j,j≠t->(S.h.set t (.vec V.ty V.sz V.d V.enc [])).getD j .none=S.row j:=fun j hj=>by
  rw [d6,if_neg fun h=>hj h.1.symm]; rfl
 refine ⟨β',{ len:=by simp [hR.len],slots:=fun i hi => ?_,marks:=hR.marks,rows:=fun j => ?_,inj:=fun i j b hi hj hbi hbj => ?_,bF:=fun i b hi hbi => ?_,bB:=fun i b hbi=>hR.bB i b (bl i b hbi).2,FB:=hR.FB,below:=hR.below,BW:=hR.BW,top:=fun j hd h=>(b3 j (by rw [hR.top j hd h]; simp)).trans (hR.top j hd h),topn:=fun j hj=>hR.topn j (by simpa [k8] using hj),nn:=hR.nn,inc:=hR.inc,keep:=hR.keep,sol:=hR.sol,yl:=hR.ylOf (fun i=>i) (fun j l xs k e h => ?_) (fun _ _ _ _ h=>h) (fun i b hi hb=>by obtain ⟨e1,k1⟩:=bl i b hb; exact ⟨i,by rw [<- lv i e1]; exact hi,k1⟩) (fun b hb => .inl hb) }⟩
 ·simp only [List.length_set] at hi
  rw [C1]
  split
  ·rename_i hc
   rw [<- hc.1,hv]
   have:=Rep.own (F:=F) (w:=w) b1
   simpa using this
  ·exact (hR.slots i hi).grow b3 (fun _ h=>h) (n4.refl _ _)
 ·show j8 β' F w j ((S.h.set t (.vec V.ty V.sz V.d V.enc [])).getD j .none)
  rw [d6]
  split
  ·rename_i hc
   rw [<- hc.1]
   exact ⟨_,b1,rfl,rfl,.inl ⟨rfl,rfl,rfl⟩⟩
  ·exact (hR.rows j).grow b3 (fun _ h=>h) (n4.refl _ _) (fun _ _=>rfl)
 ·obtain ⟨e1,k1⟩:=bl i b hbi
  obtain ⟨e2,k2⟩:=bl j b hbj
  have hi':S.row i ≠ .none:=by rw [<- lv i e1]; exact hi
  have hj':S.row j ≠ .none:=by rw [<- lv j e2]; exact hj
  exact hR.inj i j b hi' hj' k1 k2
 ·obtain ⟨e1,k1⟩:=bl i b hbi
  have hi':S.row i ≠ .none:=by rw [<- lv i e1]; exact hi
  exact hR.bF i b hi' k1
 ·have h:(S.h.set t (.vec V.ty V.sz V.d V.enc [])).getD j .none = .ctr l xs k e:=h
  rw [d6] at h
  split at h
  ·cases h
  ·exact h
theorem n7 (id t:Nat):∀ l,(mvL id t l).length=l.length
 | []=>rfl
 | a :: l=>by simp [mvL,n7 id t l]
theorem C8 (id t:Nat):∀ l i,(mvL id t l).getD i .any=mvAV id t (l.getD i .any)
 | [],i=>by simp [mvL,mvAV]
 | a :: l,0=>rfl
 | a :: l,i + 1=>by
  have:=C8 id t l i
  simpa [mvL] using this
theorem a48 {xs ys:List AV} (hl:xs.length=ys.length) (h:∀ i,i < xs.length->xs.getD i .any=ys.getD i .any):xs=ys:=by
 refine List.ext_getElem hl fun i h1 h2 => ?_
 have:=h i h1
 simpa [List.getD,h1,h2] using this
theorem RepI.mv_eq {x:AV} {v:Value} (h:RepI F w x v) (id t:Nat):mvAV id t x=x:=by
 induction h with
 | agg hl _ ih=>simp only [mvAV]; rw [a48 (n7 _ _ _) fun i hi=>by rw [C8]; exact ih i (by rwa [n7] at hi)]
 | tup hl _ ih=>simp only [mvAV]; rw [a48 (n7 _ _ _) fun i hi=>by rw [C8]; exact ih i (by rwa [n7] at hi)]
 | fn hl _ hm _ ih ik =>
  simp only [mvAV]
  rw [a48 (n7 id t _) fun i hi=>by rw [C8]; exact ih i (by rwa [n7] at hi),a48 (n7 id t _) fun i hi=>by rw [C8]; exact ik i (by rwa [n7] at hi)]
 | _=>simp only [mvAV]
theorem Rep.move {β':Nat->Option Hd} {id t:Nat} (ht:β t=none) (h1:β' t=β id) (h2:∀ j,j≠t->j≠id->β' j=β j) {x:AV} {v:Value} (h:Rep β F w x v):Rep β' F w (mvAV id t x) v:=by
 have key:∀ {k:Nat} {hd:Hd},β k=some hd->β' (match Nat.beq k id with | true=>t | false=>k)=some hd:=fun {k hd} hk=>by
  cases hb:Nat.beq k id with
  | true=>have:=Nat.eq_of_beq_eq_true hb; subst this; exact h1.trans hk
  | false=>exact (h2 k (fun e=>by subst e; rw [ht] at hk; cases hk) (fun e=>by subst e; simp at hb)).trans hk
 induction h with
 | imm h=>rw [h.mv_eq]; exact .imm h
 | ptr hb hh=>simp only [mvAV]; exact .ptr (key hb) hh
 | own hb=>simp only [mvAV]; exact .own (key hb)
 | mem hb hi=>simp only [mvAV]; exact .mem (key hb) hi
 | mptr hb hh hi hk=>simp only [mvAV]; exact .mptr (key hb) hh hi hk
 | agg hl _ ih=>simp only [mvAV]; exact .agg (by rw [n7]; exact hl) fun i hi=>by rw [C8]; exact ih i (by rwa [n7] at hi)
 | tup hl _ ih=>simp only [mvAV]; exact .tup (by rw [n7]; exact hl) fun i hi=>by rw [C8]; exact ih i (by rwa [n7] at hi)
 | fn hl _ hm _ ih ik =>
  simp only [mvAV]
  exact .fn (by rw [n7]; exact hl) (fun i hi=>by rw [C8]; exact ih i (by rwa [n7] at hi)) (by rw [n7]; exact hm) fun i hi=>by rw [C8]; exact ik i (by rwa [n7] at hi)
theorem j8.move {β':Nat->Option Hd} {id t:Nat} (ht:β t=none) (h1:β' t=β id) (h2:∀ j,j≠t->j≠id->β' j=β j) {i i':Nat} (hi:β' i'=β i) {r:Row} (h:j8 β F w i r):j8 β' F w i' (O1 id t r):=by
 cases r with
 | none=>trivial
 | ctr l xs k e=>obtain ⟨hd,e1,e2⟩:=h; exact ⟨hd,hi.trans e1,e2⟩
 | cells ty cs =>
  obtain ⟨hd,b,vs,e1,em,e2,e3,e4,e5⟩:=h
  exact ⟨hd,b,vs,hi.trans e1,em,e2,e3,by rw [n7]; exact e4,fun i hi=>by rw [C8]; exact (e5 i (by rwa [n7] at hi)).move ht h1 h2⟩
 | lit ty sz css =>
  obtain ⟨hd,b,vs,e1,em,e2,e3,e4,e5,e6,e7,e8⟩:=h
  have hg:∀ i,(css.map (mvL id t)).getD i []=mvL id t (css.getD i []):=by
   intro i; simp only [List.getD,List.getElem?_map]; cases css[i]? <;> simp [mvL]
  exact ⟨hd,b,vs,hi.trans e1,em,e2,e3,by simpa using e4,by simpa using e5,by simpa using e6,by simpa using e7,fun i k hi hk=>by
   rw [hg,C8]; exact (e8 i k (by simpa using hi) hk).move ht h1 h2⟩
 | vec ty sz e enc l =>
  obtain ⟨hd,e1,e2⟩:=h
  exact ⟨hd,hi.trans e1,e2⟩
 | nest ty sz j0 ty' d enc ys ho l =>
  obtain ⟨hd,e1,e2⟩:=h
  exact ⟨hd,hi.trans e1,e2⟩
theorem a2s {id t:Nat} {r:Row} (h:O1 id t r ≠ .none):r ≠ .none:=by rintro rfl; exact h rfl
theorem a2t (S:St) (id t j:Nat):(mvSt id t S).row j=if j=id then .none else if t=j/\j < S.h.length then O1 id t (S.row id) else O1 id t (S.row j):=by
 show (((S.h.map (O1 id t)).set t (O1 id t (S.row id))).set id .none).getD j .none=_
 have hm:(S.h.map (O1 id t)).getD j .none=O1 id t (S.row j):=by
  simp only [St.row,List.getD,List.getElem?_map]
  cases S.h[j]? <;> rfl
 rw [d6,d6,hm]
 simp only [List.length_set,List.length_map]
 by_cases e:j=id
 ·subst e
  by_cases hl:j < S.h.length
  ·simp [hl]
  ·have e0:S.row j = .none:=by simp [St.row,List.getD,List.getElem?_eq_none (Nat.le_of_not_lt hl)]
   simp [hl,e0,O1]
 ·rw [if_neg e,if_neg fun h=>e h.1.symm]
  by_cases e2:t=j
  ·subst e2; rfl
  ·rw [if_neg fun h=>e2 h.1,if_neg fun h=>e2 h.1]
theorem Rel.moved (hR:Rel B w0 F0 S β F a w) {t id:Nat} {hd:Hd} (ht:β t=none) (hid:id≠t) (hβ:β id=some hd) (hd0:F0.β id=none):∃ β',Rel B w0 F0 (mvSt id t S) β' F a w:=by
 let β':Nat->Option Hd:=fun j=>if j=t then some hd else if j=id then none else β j
 have b1:β' t=β id:=by simp [β',hβ]
 have b2:∀ j,j≠t->j≠id->β' j=β j:=fun j h1 h2=>by simp [β',h1,h2]
 have b3:β' id=none:=by simp [β',hid]
 have bl:∀ j b,occ β' j b->(j=t/\hasB (some hd) b)∨(j≠t/\j≠id/\occ β j b):=fun j b h=>by
  by_cases e:j=t
  ·subst e; exact .inl ⟨rfl,by simpa [occ,b1,hβ] using h⟩
  ·by_cases e2:j=id
   ·subst e2; simp [occ,b3] at h
   ·exact .inr ⟨e,e2,by simpa [occ,b2 j e e2] using h⟩
 have tnone:∀ {r},j8 β F w t r->r = .none:=fun {r} h=>by
  cases r with
  | none=>rfl
  | ctr l xs k e'=>obtain ⟨_,e,_⟩:=h; rw [ht] at e; cases e
  | cells ty cs=>obtain ⟨_,_,_,e,_⟩:=h; rw [ht] at e; cases e
  | lit ty sz css=>obtain ⟨_,_,_,e,_⟩:=h; rw [ht] at e; cases e
  | vec ty sz d enc l=>obtain ⟨_,e,_⟩:=h; rw [ht] at e; cases e
  | nest ty sz j0 ty' d enc ys ho l=>obtain ⟨_,e,_⟩:=h; rw [ht] at e; cases e
 have ht0:S.row t = .none:=tnone (hR.rows t)
 have lv:∀ j,(mvSt id t S).row j ≠ .none->(j=t/\S.row id ≠ .none)∨(j≠t/\j≠id/\S.row j ≠ .none):=fun j h=>by
  rw [a2t] at h
  split at h
  ·exact absurd rfl h
  ·rename_i hn
   split at h
   ·rename_i hc; exact .inl ⟨hc.1.symm,a2s h⟩
   ·by_cases e:j=t
    ·subst e; rw [ht0] at h; exact absurd rfl h
    ·exact .inr ⟨e,hn,a2s h⟩
 have lv':∀ j b,(mvSt id t S).row j ≠ .none->occ β' j b->(j=t/\S.row id ≠ .none/\occ β id b)∨(j≠t/\j≠id/\S.row j ≠ .none/\occ β j b):=fun j b h1 h2=>by
  rcases bl j b h2 with ⟨e,h3⟩ | ⟨e1,e2,h3⟩
  ·refine .inl ⟨e,?_,by rw [occ,hβ]; exact h3⟩
   rcases lv j h1 with ⟨_,h⟩ | ⟨h,_⟩
   ·exact h
   ·exact absurd e h
  ·rcases lv j h1 with ⟨e,_⟩ | ⟨_,_,h⟩
   ·exact absurd e e1
   ·exact .inr ⟨e1,e2,h,h3⟩
 refine ⟨β',{ len:=by simp only [mvSt,n7]; exact hR.len,slots:=fun i hi => ?_,marks:=hR.marks,rows:=fun j => ?_,inj:=fun i j b hi hj hbi hbj => ?_,bF:=fun i b hi hbi => ?_,bB:=fun i b hbi => ?_,FB:=hR.FB,below:=hR.below,BW:=hR.BW,top:=fun j hd' h => ?_,topn:=fun j hj=>hR.topn j (by simpa [mvSt,k8,n7] using hj),nn:=hR.nn,inc:=hR.inc,keep:=hR.keep,sol:=hR.sol,yl:=hR.ylOf (fun j=>if j=t then id else j) (fun j l xs k e h => ?_) (fun i j hi hj e => ?_) (fun i b hi hb=>by rcases lv' i b hi hb with ⟨_,l1,k1⟩ | ⟨_,_,l1,k1⟩; exact ⟨id,l1,k1⟩; exact ⟨i,l1,k1⟩) (fun b hb => .inl hb) }⟩
 ·simp only [mvSt,n7] at hi
  show Rep β' F w ((mvL id t S.t).getD i .any) _
  rw [C8]
  exact (hR.slots i hi).move ht b1 b2
 ·rw [a2t]
  split
  ·trivial
  ·rename_i hn
   split
   ·rename_i hc; exact (hR.rows id).move ht b1 b2 (by rw [<- hc.1]; exact b1)
   ·by_cases e:j=t
    ·subst e; rw [ht0]; trivial
    ·exact (hR.rows j).move ht b1 b2 (b2 j e hn)
 ·rcases lv' i b hi hbi with ⟨e1,l1,k1⟩ | ⟨e1,e1',l1,k1⟩<;>rcases lv' j b hj hbj with ⟨e2,l2,k2⟩ | ⟨e2,e2',l2,k2⟩
  ·rw [e1,e2]
  ·exact absurd (hR.inj id j b l1 l2 k1 k2).symm e2'
  ·exact absurd (hR.inj i id b l1 l2 k1 k2) e1'
  ·exact hR.inj i j b l1 l2 k1 k2
 ·rcases lv' i b hi hbi with ⟨_,l1,k1⟩ | ⟨_,_,l1,k1⟩
  ·exact hR.bF id b l1 k1
  ·exact hR.bF i b l1 k1
 ·rcases bl i b hbi with ⟨_,h⟩ | ⟨_,_,h⟩
  ·exact hR.bB id b (by rw [occ,hβ]; exact h)
  ·exact hR.bB i b h
 ·have:=hR.top j hd' h
  exact (b2 j (fun e=>by subst e; rw [ht] at this; cases this) (fun e=>by subst e; rw [hd0] at h; cases h)).trans this
 ·have inv:∀ {r},O1 id t r = .ctr l xs k e->r = .ctr l xs k e:=fun {r} h=>by cases r<;>simp [O1] at h; simp [h]
  rw [a2t] at h
  split at h
  ·cases h
  ·split at h
   ·rename_i hc; rw [if_pos hc.1.symm]; exact inv h
   ·by_cases e':j=t
    ·subst e'; rw [ht0] at h; simp [O1] at h
    ·rw [if_neg e']; exact inv h
 ·by_cases e1:i=t
  ·by_cases e2:j=t
   ·rw [e1,e2]
   ·rw [if_pos e1,if_neg e2] at e
    rcases lv j hj with ⟨h,_⟩ | ⟨_,h,_⟩
    ·exact absurd h e2
    ·exact absurd e.symm h
  ·by_cases e2:j=t
   ·rw [if_neg e1,if_pos e2] at e
    rcases lv i hi with ⟨h,_⟩ | ⟨_,h,_⟩
    ·exact absurd h e1
    ·exact absurd e h
   ·rw [if_neg e1,if_neg e2] at e; exact e
theorem Rel.nilBox (hR:Rel B w0 F0 S β F a w) {t b c:Nat} {ty:TypeId} {cs:List AV} (ht:β t=none) (hbt:b≠t) (hb:S.row b = .cells ty cs) (hs:cs.getD c .any = .nils) (V:VT):∃ β',Rel B w0 F0 ⟨S.t,(S.h.set t (.vec V.ty V.sz V.d V.enc [])).set b (.cells ty (cs.set c (.own t))),S.n⟩ β' F a w:=by
 let β':Nat->Option Hd:=fun j=>if j=t then some ⟨none,0,0,noM⟩ else β j
 have b1:β' t=some ⟨none,0,0,noM⟩:=by simp [β']
 have b2:∀ j,j≠t->β' j=β j:=fun j h1=>by simp [β',h1]
 have b3:∀ j,β j≠none->β' j=β j:=fun j hj=>b2 j fun e=>hj (e ▸ ht)
 have bl:∀ j b,occ β' j b->j≠t/\occ β j b:=fun j b h=>by
  by_cases e:j=t
  ·subst e; simp [occ,b1] at h
  ·exact ⟨e,by simpa [occ,b2 j e] using h⟩
 have lb:b < S.h.length:=P4 (by rw [hb]; simp)
 have row:∀ j,((S.h.set t (.vec V.ty V.sz V.d V.enc [])).set b (.cells ty (cs.set c (.own t)))).getD j .none=if b=j then .cells ty (cs.set c (.own t)) else if t=j/\j < S.h.length then .vec V.ty V.sz V.d V.enc [] else S.row j:=fun j=>by
  rw [d6,d6]
  simp only [List.length_set]
  by_cases e:b=j
  ·subst e; simp [lb]
  ·simp only [e,false_and,if_false]
   by_cases e2:t=j
   ·subst e2; rfl
   ·simp only [e2,false_and,if_false]; rfl
 have lv:∀ j,j≠t->((S.h.set t (.vec V.ty V.sz V.d V.enc [])).set b (.cells ty (cs.set c (.own t)))).getD j .none ≠ .none->S.row j ≠ .none:=fun j hj h=>by
  rw [row] at h
  split at h
  ·rename_i e; subst e; rw [hb]; simp
  ·rw [if_neg fun h=>hj h.1.symm] at h; exact h
 refine ⟨β',{ len:=hR.len,slots:=fun i hi=>(hR.slots i hi).grow b3 (fun _ h=>h) (n4.refl _ _),marks:=hR.marks,rows:=fun j => ?_,inj:=fun i j b' hi hj hbi hbj => ?_,bF:=fun i b' hi hbi => ?_,bB:=fun i b' hbi=>hR.bB i b' (bl i b' hbi).2,FB:=hR.FB,below:=hR.below,BW:=hR.BW,top:=fun j hd h=>(b3 j (by rw [hR.top j hd h]; simp)).trans (hR.top j hd h),topn:=fun j hj=>hR.topn j (by simpa [k8] using hj),nn:=hR.nn,inc:=hR.inc,keep:=hR.keep,sol:=hR.sol,yl:=hR.ylOf (fun i=>i) (fun j l xs k e h => ?_) (fun _ _ _ _ h=>h) (fun i b' hi hb'=>by obtain ⟨e1,k1⟩:=bl i b' hb'; exact ⟨i,lv i e1 hi,k1⟩) (fun b hb => .inl hb) }⟩
 ·show j8 β' F w j (List.getD _ j .none)
  rw [row]
  split
  ·rename_i e
   subst e
   have:=hR.rows b
   rw [hb] at this
   obtain ⟨hd,bb,vs,e1,em,e2,e3,e4,e5⟩:=this
   refine ⟨hd,bb,vs,(b3 b (by rw [e1]; simp)).trans e1,em,e2,e3,by simpa using e4,fun i hi => ?_⟩
   simp only [List.length_set] at hi
   rw [C1]
   split
   ·rename_i hc
    have h5:=e5 i hi
    rw [<- hc.1,hs] at h5
    rw [<- hc.1,h5.nils_inv]
    have:=Rep.own (F:=F) (w:=w) b1
    simpa using this
   ·exact (e5 i hi).grow b3 (fun _ h=>h) (n4.refl _ _)
  ·split
   ·rename_i hc
    rw [<- hc.1]
    exact ⟨_,b1,rfl,rfl,.inl ⟨rfl,rfl,rfl⟩⟩
   ·exact (hR.rows j).grow b3 (fun _ h=>h) (n4.refl _ _) (fun _ _=>rfl)
 ·obtain ⟨e1,k1⟩:=bl i b' hbi
  obtain ⟨e2,k2⟩:=bl j b' hbj
  exact hR.inj i j b' (lv i e1 hi) (lv j e2 hj) k1 k2
 ·obtain ⟨e1,k1⟩:=bl i b' hbi
  exact hR.bF i b' (lv i e1 hi) k1
 ·have h:((S.h.set t (.vec V.ty V.sz V.d V.enc [])).set b (.cells ty (cs.set c (.own t)))).getD j .none = .ctr l xs k e:=h
  rw [row] at h
  split at h
  ·cases h
  ·split at h
   ·cases h
   ·exact h
theorem Rel.canonB (hR:Rel B w0 F0 S β F a w) (t b c:Nat) (V:VT):∃ β',Rel B w0 F0 (Ev.canonB t b c V S) β' F a w:=by
 unfold Ev.canonB
 split
 ·exact ⟨β,hR⟩
 rename_i hk
 simp only [Bool.and_eq_true,Bool.not_eq_true'] at hk
 have hbt:b≠t:=fun e=>by have:=hk.2; rw [e] at this; simp at this
 split
 case h_2=>exact ⟨β,hR⟩
 rename_i ty cs hrow
 have hkr:(S.kill t).row b=k9 t (S.row b):=by rw [R0,if_neg hbt]
 obtain ⟨β1,h1,h2,hR1⟩:=hR.kill t (hR.topn t hk.1)
 split
 ·rename_i id hs
  split
  ·exact ⟨β,hR⟩
  rename_i hb
  have hne:id≠t:=fun e=>by rw [e] at hb; simp at hb
  split
  ·exact ⟨β,hR⟩
  rename_i hlt
  simp only [Bool.and_eq_true] at hlt
  have hrb:=hR1.rows b
  rw [hkr,hrow] at hrb
  obtain ⟨hd,bb,vs,e1,em,e2,e3,e4,e5⟩:=hrb
  have hc:c < cs.length:=by
   rcases Nat.lt_or_ge c cs.length with h | h
   ·exact h
   ·simp [List.getD,List.getElem?_eq_none h] at hs
  have h5:=e5 c (by simpa using hc)
  rw [d5 _ (x8 t),hs] at h5
  have hkv:s7 t (.own id) = .own id:=by
   show (match Nat.beq id t with | true=>AV.any | false=>AV.own id)=AV.own id
   rw [hb]
  rw [hkv] at h5
  obtain ⟨hd',g1,_⟩:=h5.own_inv
  exact hR1.moved h1 hne g1 (hR.topn id hlt.1)
 ·rename_i hs
  split
  ·rename_i ty' cs' hrow'
   refine hR1.nilBox h1 hbt hrow' ?_ V
   rw [hkr,hrow] at hrow'
   simp only [k9,Row.cells.injEq] at hrow'
   rw [<- hrow'.2,d5 _ (x8 t),hs]
   rfl
  ·exact ⟨β,hR⟩
 ·exact ⟨β,hR⟩
theorem Rel.canonS (hR:Rel B w0 F0 S β F a w) (t:Nat) (V:VT):∃ β',Rel B w0 F0 (Ev.canonS t V S) β' F a w:=by
 unfold Ev.canonS
 split
 ·rename_i id hs
  split
  ·exact ⟨β,hR⟩
  ·rename_i hb
   have hne:id≠t:=fun e=>by rw [e] at hb; simp at hb
   split
   ·exact ⟨β,hR⟩
   ·rename_i hlt
    simp only [Bool.and_eq_true] at hlt
    obtain ⟨β1,h1,h2,hR1⟩:=hR.kill t (hR.topn t hlt.2)
    have hs1:(S.kill t).t.getD t .any = .own id:=by
     simp only [St.kill]
     rw [d5 _ (x8 t),hs]
     show (match Nat.beq id t with | true=>AV.any | false=>AV.own id)=AV.own id
     rw [hb]
    exact hR1.rename h1 hne hs1 (hR.topn id hlt.1)
 ·rename_i hs
  split
  ·exact ⟨β,hR⟩
  ·rename_i hlt
   obtain ⟨β1,h1,h2,hR1⟩:=hR.kill t (hR.topn t hlt)
   have hs1:(S.kill t).t.getD t .any = .nils:=by
    simp only [St.kill]
    rw [d5 _ (x8 t),hs]
    rfl
   exact hR1.nilVec h1 hs1 V
 ·exact ⟨β,hR⟩
theorem Rel.canon1 (hR:Rel B w0 F0 S β F a w) (t:Nat) (V:VT):∃ β',Rel B w0 F0 (Ev.canon1 t V S) β' F a w:=by
 unfold Ev.canon1
 split
 ·exact hR.canonS t V
 ·exact hR.canonB _ _ _ V
theorem Rel.canonV:∀ (l:List (Nat×VT)) {S:St} {β:Nat->Option Hd},Rel B w0 F0 S β F a w->∃ β',Rel B w0 F0 (Ev.canonV l S) β' F a w
 | [],S,β,hR=>⟨β,hR⟩
 | (t,V) :: l,S,β,hR=>by
  obtain ⟨β1,hR1⟩:=hR.canon1 t V
  exact Rel.canonV l hR1
end
/- Calls that write: rows that are handed over and handed back. A helper text: it speaks of no program. -/
mutual
def AV.ren (ids:List Nat):AV->AV
 | .ptr k sz i off => .ptr (ids.getD k 0) sz i off
 | .own k => .own (ids.getD k 0)
 | .agg l => .agg (renL ids l)
 | .tup l => .tup (renL ids l)
 | .fn f a b => .fn f (renL ids a) (renL ids b)
 | x=>x
def renL (ids:List Nat):List AV->List AV
 | []=>[]
 | a :: l=>a.ren ids :: renL ids l
end
def l9 (ids:List Nat):Row->Row
 | .cells ty cs => .cells ty (renL ids cs)
 | .lit ty sz css => .lit ty sz (css.map (renL ids))
 | r=>r
mutual
def AV.under (n:Nat):AV->Bool
 | .ptr k _ _ _=>Nat.blt k n
 | .own k=>Nat.blt k n
 | .mem _ _=>false
 | .mptr _ _ _=>false
 | .agg l=>F7 n l
 | .tup l=>F7 n l
 | .fn _ a b=>F7 n a && F7 n b
 | _=>true
def F7 (n:Nat):List AV->Bool
 | []=>true
 | a :: l=>a.under n && F7 n l
end
def r5 (n:Nat):Row->Bool
 | .cells _ cs=>F7 n cs
 | .lit _ _ css=>css.all (F7 n)
 | .ctr _ _ _ _=>false
 | _=>true
theorem f9 (ids:List Nat):∀ l,(renL ids l).length=l.length
 | []=>rfl
 | a :: l=>by simp [renL,f9 ids l]
theorem o8 (ids:List Nat):∀ l i,(renL ids l).getD i .any=(l.getD i .any).ren ids
 | [],i=>by simp [renL,AV.ren]
 | a :: l,0=>rfl
 | a :: l,i + 1=>by
  have:=o8 ids l i
  simpa [renL] using this
theorem r7 {n:Nat}:∀ {l:List AV},F7 n l=true->∀ i,(l.getD i .any).under n=true
 | [],_,i=>by simp [AV.under]
 | a :: l,h,0=>by simp [F7] at h; exact h.1
 | a :: l,h,i + 1=>by
  simp [F7] at h
  have:=r7 h.2 i
  simpa using this
section
variable {F:Nat->Prop} {w:World}
theorem a0Q {xs ys:List AV} (hl:xs.length=ys.length) (h:∀ i,i < xs.length->xs.getD i .any=ys.getD i .any):xs=ys:=by
 refine List.ext_getElem hl fun i h1 h2 => ?_
 have:=h i h1
 simpa [List.getD,h1,h2] using this
theorem RepI.ren_eq {x:AV} {v:Value} (h:RepI F w x v) (ids:List Nat):x.ren ids=x:=by
 induction h with
 | agg hl _ ih=>simp only [AV.ren]; rw [a0Q (f9 _ _) fun i hi=>by rw [o8]; exact ih i (by rwa [f9] at hi)]
 | tup hl _ ih=>simp only [AV.ren]; rw [a0Q (f9 _ _) fun i hi=>by rw [o8]; exact ih i (by rwa [f9] at hi)]
 | fn hl _ hm _ ih ik =>
  simp only [AV.ren]
  rw [a0Q (f9 ids _) fun i hi=>by rw [o8]; exact ih i (by rwa [f9] at hi),a0Q (f9 ids _) fun i hi=>by rw [o8]; exact ik i (by rwa [f9] at hi)]
 | _=>rfl
theorem Rep.unren {β β':Nat->Option Hd} {ids:List Nat} {n:Nat} (hβ:∀ k,k < n->β' k=β (ids.getD k 0)) {y:AV} {v:Value} (h:Rep β F w y v):∀ {x:AV},x.under n=true->x.ren ids=y->Rep β' F w x v:=by
 have imm:∀ {y v},RepI F w y v->∀ {x:AV},x.ren ids=y->RepI F w x v:=by
  intro y v h
  induction h with
  | agg hl _ ih =>
   intro x hx
   cases x<;>simp only [AV.ren,reduceCtorEq,AV.agg.injEq] at hx
   subst hx
   rw [f9] at hl ih
   exact .agg hl fun i hi=>ih i hi (by rw [o8])
  | tup hl _ ih =>
   intro x hx
   cases x<;>simp only [AV.ren,reduceCtorEq,AV.tup.injEq] at hx
   subst hx
   rw [f9] at hl ih
   exact .tup hl fun i hi=>ih i hi (by rw [o8])
  | fn hl _ hm _ ih ik =>
   intro x hx
   cases x<;>simp only [AV.ren,reduceCtorEq,AV.fn.injEq] at hx
   obtain ⟨e0,e1,e2⟩:=hx
   subst e0; subst e1; subst e2
   rw [f9] at hl hm ih ik
   exact .fn hl (fun i hi=>ih i hi (by rw [o8])) hm (fun i hi=>ik i hi (by rw [o8]))
  | any v=>intro x hx; cases x<;>simp only [AV.ren,reduceCtorEq] at hx; exact .any _
  | tt=>intro x hx; cases x<;>simp only [AV.ren,reduceCtorEq] at hx; exact .tt
  | ff=>intro x hx; cases x<;>simp only [AV.ren,reduceCtorEq] at hx; exact .ff
  | bool b=>intro x hx; cases x<;>simp only [AV.ren,reduceCtorEq] at hx; rw [hx]; exact .bool b
  | int k m=>intro x hx; cases x<;>simp only [AV.ren,reduceCtorEq] at hx; rw [hx]; exact .int k m
  | str s=>intro x hx; cases x<;>simp only [AV.ren,reduceCtorEq] at hx; rw [hx]; exact .str s
  | nilp=>intro x hx; cases x<;>simp only [AV.ren,reduceCtorEq] at hx; exact .nilp
  | nils=>intro x hx; cases x<;>simp only [AV.ren,reduceCtorEq] at hx; exact .nils
  | nilf=>intro x hx; cases x<;>simp only [AV.ren,reduceCtorEq] at hx; exact .nilf
  | slnil=>intro x hx; cases x<;>simp only [AV.ren,reduceCtorEq] at hx; rw [hx]; exact .slnil
  | sl g hc hb h _=>intro x hx; cases x<;>simp only [AV.ren,reduceCtorEq] at hx; rw [hx]; exact .sl g hc hb h
  | sfnil=>intro x hx; cases x<;>simp only [AV.ren,reduceCtorEq] at hx; rw [hx]; exact .sfnil
  | sf g hb h _=>intro x hx; cases x<;>simp only [AV.ren,reduceCtorEq] at hx; rw [hx]; exact .sf g hb h
  | slcnil=>intro x hx; cases x<;>simp only [AV.ren,reduceCtorEq] at hx; rw [hx]; exact .slcnil
  | slc g hc hb h _=>intro x hx; cases x<;>simp only [AV.ren,reduceCtorEq] at hx; rw [hx]; exact .slc g hc hb h
  | pt g hb h _=>intro x hx; cases x<;>simp only [AV.ren,reduceCtorEq] at hx; rw [hx]; exact .pt g hb h
 induction h with
 | imm h=>intro x _ hx; exact .imm (imm h hx)
 | @ptr id sz i off b hd hb hh =>
  intro x hu hx
  cases x<;>simp only [AV.ren,reduceCtorEq,AV.ptr.injEq] at hx
  obtain ⟨rfl,rfl,rfl,rfl⟩:=hx
  simp only [AV.under,Nat.blt_eq] at hu
  exact .ptr ((hβ _ hu).trans hb) hh
 | @own id hd hb =>
  intro x hu hx
  cases x<;>simp only [AV.ren,reduceCtorEq,AV.own.injEq] at hx
  subst hx
  simp only [AV.under,Nat.blt_eq] at hu
  exact .own ((hβ _ hu).trans hb)
 | mem hb hi =>
  intro x hu hx
  cases x<;>simp only [AV.ren,reduceCtorEq] at hx
  cases hu
 | mptr hb hh hi hk =>
  intro x hu hx
  cases x<;>simp only [AV.ren,reduceCtorEq] at hx
  cases hu
 | agg hl _ ih =>
  intro x hu hx
  cases x<;>simp only [AV.ren,reduceCtorEq,AV.agg.injEq] at hx
  subst hx
  rw [f9] at hl ih
  simp only [AV.under] at hu
  exact .agg hl fun i hi=>ih i hi (r7 hu i) (by rw [o8])
 | tup hl _ ih =>
  intro x hu hx
  cases x<;>simp only [AV.ren,reduceCtorEq,AV.tup.injEq] at hx
  subst hx
  rw [f9] at hl ih
  simp only [AV.under] at hu
  exact .tup hl fun i hi=>ih i hi (r7 hu i) (by rw [o8])
 | fn hl _ hm _ ih ik =>
  intro x hu hx
  cases x<;>simp only [AV.ren,reduceCtorEq,AV.fn.injEq] at hx
  obtain ⟨e0,e1,e2⟩:=hx
  subst e0; subst e1; subst e2
  rw [f9] at hl hm ih ik
  simp only [AV.under,Bool.and_eq_true] at hu
  exact .fn hl (fun i hi=>ih i hi (r7 hu.1 i) (by rw [o8])) hm (fun i hi=>ik i hi (r7 hu.2 i) (by rw [o8]))
theorem Rep.ren {β β':Nat->Option Hd} {ids:List Nat} {n:Nat} (hβ:∀ k,k < n->∀ hd,β k=some hd->β' (ids.getD k 0)=some hd) {x:AV} {v:Value} (h:Rep β F w x v):x.under n=true->Rep β' F w (x.ren ids) v:=by
 induction h with
 | imm h=>intro _; rw [h.ren_eq]; exact .imm h
 | ptr hb hh=>intro hu; simp only [AV.under,Nat.blt_eq] at hu; exact .ptr (hβ _ hu _ hb) hh
 | own hb=>intro hu; simp only [AV.under,Nat.blt_eq] at hu; exact .own (hβ _ hu _ hb)
 | mem=>intro hu; cases hu
 | mptr=>intro hu; cases hu
 | agg hl _ ih=>intro hu; simp only [AV.under] at hu; exact .agg (by rw [f9]; exact hl) fun i hi=>by rw [o8]; exact ih i (by rwa [f9] at hi) (r7 hu i)
 | tup hl _ ih=>intro hu; simp only [AV.under] at hu; exact .tup (by rw [f9]; exact hl) fun i hi=>by rw [o8]; exact ih i (by rwa [f9] at hi) (r7 hu i)
 | fn hl _ hm _ ih ik =>
  intro hu
  simp only [AV.under,Bool.and_eq_true] at hu
  exact .fn (by rw [f9]; exact hl) (fun i hi=>by rw [o8]; exact ih i (by rwa [f9] at hi) (r7 hu.1 i)) (by rw [f9]; exact hm) (fun i hi=>by rw [o8]; exact ik i (by rwa [f9] at hi) (r7 hu.2 i))
theorem a0R (ids:List Nat) (css:List (List AV)) (i:Nat):(css.map (renL ids)).getD i []=renL ids (css.getD i []):=by
 simp only [List.getD,List.getElem?_map]
 cases css[i]? <;> rfl
theorem T3 {β β':Nat->Option Hd} {ids:List Nat} {n k:Nat} (hβ:∀ k,k < n->β' k=β (ids.getD k 0)) (hk:k < n) {r:Row} (hu:r5 n r=true) (h:j8 β F w (ids.getD k 0) (l9 ids r)):j8 β' F w k r:=by
 cases r with
 | none=>trivial
 | ctr l xs k e=>simp [r5] at hu
 | cells ty cs =>
  obtain ⟨hd,b,vs,e1,em,e2,e3,e4,e5⟩:=h
  rw [f9] at e4 e5
  refine ⟨hd,b,vs,(hβ k hk).trans e1,em,e2,e3,e4,fun i hi=>(e5 i hi).unren hβ (r7 hu i) (by rw [o8])⟩
 | lit ty sz css =>
  obtain ⟨hd,b,vs,e1,em,e2,e3,e4,e5,e6,e7,e8⟩:=h
  rw [List.length_map] at e4 e5 e6 e7 e8
  refine ⟨hd,b,vs,(hβ k hk).trans e1,em,e2,e3,e4,e5,e6,e7,fun i j hi hj=>(e8 i j hi hj).unren hβ (r7 ?_ j) (by rw [a0R,o8])⟩
  have hm:css.getD i [] ∈ css:=by simp [List.getD,hi]
  exact List.all_eq_true.1 hu _ hm
 | vec ty sz d enc l =>
  obtain ⟨hd,e1,e2⟩:=h
  exact ⟨hd,(hβ k hk).trans e1,e2⟩
 | nest ty sz j0 ty' d enc ys ho l =>
  obtain ⟨hd,e1,e2⟩:=h
  exact ⟨hd,(hβ k hk).trans e1,e2⟩
theorem a0v {β β':Nat->Option Hd} {ids:List Nat} {n k:Nat} (hβ:∀ k,k < n->∀ hd,β k=some hd->β' (ids.getD k 0)=some hd) (hk:k < n) {r:Row} (h:j8 β F w k r) (hu:r5 n r=true):j8 β' F w (ids.getD k 0) (l9 ids r):=by
 cases r with
 | none=>trivial
 | ctr l xs k e=>simp [r5] at hu
 | cells ty cs =>
  obtain ⟨hd,b,vs,e1,em,e2,e3,e4,e5⟩:=h
  exact ⟨hd,b,vs,hβ _ hk _ e1,em,e2,e3,by rw [f9]; exact e4,fun i hi=>by rw [o8]; exact (e5 i (by rwa [f9] at hi)).ren hβ (r7 hu i)⟩
 | lit ty sz css =>
  obtain ⟨hd,b,vs,e1,em,e2,e3,e4,e5,e6,e7,e8⟩:=h
  refine ⟨hd,b,vs,hβ _ hk _ e1,em,e2,e3,by rw [List.length_map]; exact e4,by rw [List.length_map]; exact e5,by rw [List.length_map]; exact e6,by rw [List.length_map]; exact e7,fun i j hi hj => ?_⟩
  rw [a0R,o8]
  rw [List.length_map] at hi
  have hm:css.getD i [] ∈ css:=by simp [List.getD,hi]
  exact (e8 i j hi hj).ren hβ (r7 (List.all_eq_true.1 hu _ hm) j)
 | vec ty sz d enc l =>
  obtain ⟨hd,e1,e2⟩:=h
  exact ⟨hd,hβ _ hk _ e1,e2⟩
 | nest ty sz j0 ty' d enc ys ho l =>
  obtain ⟨hd,e1,e2⟩:=h
  exact ⟨hd,hβ _ hk _ e1,e2⟩
end
theorem A4 {ids:List Nat} {r:Row}:l9 ids r = .none↔r = .none:=by cases r<;>simp [l9]
structure Owned (β:Nat->Option Hd) (F:Nat->Prop) (w:World) (rs:List Row):Prop where
 rows:∀ k,j8 β F w k (rs.getD k .none)
 inj:∀ i j b,rs.getD i .none ≠ .none->rs.getD j .none ≠ .none->occ β i b->occ β j b->i=j
 bF:∀ i b,rs.getD i .none ≠ .none->occ β i b->¬ F b
 bB:∀ i b,occ β i b->b < w.heap.size
 dead:∀ i,rs.getD i .none = .none->β i=none
def inB (β:Nat->Option Hd) (b:Nat):Prop:=∃ k,occ β k b
def PW (P:Program) (f:FuncId) (args:List AV) (ins:List Row) (res:AV) (outs:List Row):Prop :=
 ∀ (F:Nat->Prop) (w:World) (vs:Array Value) (β:Nat->Option Hd),(∀ b,F b->b < w.heap.size)->vs.size=args.length->(∀ i,i < args.length->Rep β F w (args.getD i .any) (vs.getD i undef))->Owned β F w ins ->
  (callFunc f vs).run P w = .ok (.enter f vs) w/\Calls P f vs w fun e w'=>∃ v β' F',e = .returned v/\BelowO (fun b=>w.heap.size<=b∨inB β b) w w'/\(∀ k hd,β k=some hd->β' k=some hd)/\(∀ b,F b->F' b) /\
   (∀ b,F' b->b < w'.heap.size/\(F b∨w.heap.size<=b∨inB β b))/\Rep β' F' w' res v/\(∀ k,j8 β' F' w' k (outs.getD k .none)) /\
   (∀ i j b,outs.getD i .none ≠ .none->outs.getD j .none ≠ .none->occ β' i b->occ β' j b->i=j)/\(∀ i b,outs.getD i .none ≠ .none->occ β' i b->¬ F' b) /\
   (∀ i b,occ β' i b->b < w'.heap.size/\(w.heap.size<=b∨inB β b))
section
variable {P:Program} {B:Nat->Prop} {w0:World} {F0:Env P} {S:St} {β:Nat->Option Hd} {F:Nat->Prop} {a:Act} {w:World}
theorem R2 (h:List Row):∀ (ids:List Nat) (rs:List Row),ids.Nodup->ids.length=rs.length->∀ j,
  (∃ k,k < ids.length/\ids.getD k 0=j/\(d8 h (ids.zip rs)).getD j .none=if j < h.length then rs.getD k .none else .none)∨(j ∉ ids/\(d8 h (ids.zip rs)).getD j .none=h.getD j .none)
 | [],[],_,_,j => .inr ⟨by simp,rfl⟩
 | i :: ids,r :: rs,hn,hl,j=>by
  obtain ⟨hn1,hn2⟩:=List.nodup_cons.1 hn
  simp only [List.zip_cons_cons,d8]
  rcases R2 (h.set i r) ids rs hn2 (by simpa using hl) j with ⟨k,h1,h2,h3⟩ | ⟨h1,h2⟩
  ·exact .inl ⟨k + 1,by simpa using h1,by simpa using h2,by rw [h3,List.length_set]; simp⟩
  ·by_cases e:j=i
   ·subst e
    refine .inl ⟨0,by simp,by simp,?_⟩
    rw [h2,d6]
    by_cases hlt:j < h.length
    ·simp [hlt]
    ·simp [hlt,List.getElem?_eq_none (Nat.le_of_not_lt hlt)]
   ·refine .inr ⟨by simp [e,h1],?_⟩
    rw [h2,d6,if_neg fun hc=>e hc.1.symm]
theorem Rel.calledW (hR:Rel B w0 F0 S β F a w) {ids news:List Nat} (hn:(ids++news).Nodup) (hfree:∀ d ∈ news,β d=none) {w':World} {βi β':Nat->Option Hd} {F':Nat->Prop} {outs:List Row} {res:AV} {v:Value} {dst:Option Nat}
  (hβi:∀ k,k < ids.length->βi k=β (ids.getD k 0)/\S.row (ids.getD k 0) ≠ .none) (hβo:∀ k,ids.length<=k->βi k=none)
  (hbel:BelowO (fun b=>w.heap.size<=b∨inB βi b) w w') (hβ':∀ k hd,βi k=some hd->β' k=some hd) (hF:∀ b,F b->F' b) (hF':∀ b,F' b->b < w'.heap.size/\(F b∨w.heap.size<=b∨inB βi b))
  (hres:Rep β' F' w' res v) (hund:res.under (ids++news).length=true) (hrows:∀ k,j8 β' F' w' k (outs.getD k .none)) (hundr:∀ k,r5 (ids++news).length (outs.getD k .none)=true) (hol:outs.length=(ids++news).length)
  (hinj:∀ i j b,outs.getD i .none ≠ .none->outs.getD j .none ≠ .none->occ β' i b->occ β' j b->i=j) (hbF:∀ i b,outs.getD i .none ≠ .none->occ β' i b->¬ F' b)
  (hbB:∀ i b,occ β' i b->b < w'.heap.size/\(w.heap.size<=b∨inB βi b)) :
  ∃ β'' F'',Rel B w0 F0 (S.put dst ⟨res.ren (ids++news),(ids++news).zip (outs.map (l9 (ids++news)))⟩) β'' F'' (a.put dst v) w'/\∀ j,(j ∉ ids++news∨β j≠none)->β'' j=β j:=by
 classical
 generalize hall:ids++news=all at *
 let β'':Nat->Option Hd:=fun j=>if β j=none then (if h:∃ k,k < all.length/\all.getD k 0=j then β' (Classical.choose h) else none) else β j
 have uniq:∀ k k',k < all.length->k' < all.length->all.getD k 0=all.getD k' 0->k=k':=fun k k' h h' e=>by
  have e':all[k]=all[k']:=by simpa [List.getD,h,h'] using e
  have hp:=List.pairwise_iff_getElem.1 hn
  rcases Nat.lt_trichotomy k k' with hlt | rfl | hgt
  ·exact absurd e' (hp k k' h h' hlt)
  ·rfl
  ·exact absurd e'.symm (hp k' k h' h hgt)
 have f1:∀ j,β j≠none->β'' j=β j:=fun j hj=>by simp [β'',hj]
 have f0:∀ k,k < all.length->β (all.getD k 0)=none->β'' (all.getD k 0)=β' k:=fun k hk h0=>by
  have hex:∃ k',k' < all.length/\all.getD k' 0=all.getD k 0:=⟨k,hk,rfl⟩
  simp only [β'',h0,if_true,dif_pos hex]
  exact congrArg β' (uniq _ _ (Classical.choose_spec hex).1 hk (Classical.choose_spec hex).2)
 have idk:∀ k,k < ids.length->all.getD k 0=ids.getD k 0:=fun k hk=>by rw [<- hall]; simp [List.getD,List.getElem?_append,hk]
 have live:∀ k,k < ids.length->∃ hd,β (ids.getD k 0)=some hd/\β' k=some hd:=fun k hk=>by
  obtain ⟨hd,h⟩:=(hR.rows (ids.getD k 0)).some (hβi k hk).2
  exact ⟨hd,h,hβ' k hd ((hβi k hk).1.trans h)⟩
 have f2:∀ k,k < all.length->∀ hd,β' k=some hd->β'' (all.getD k 0)=some hd:=fun k hk hd h=>by
  by_cases hki:k < ids.length
  ·obtain ⟨hd',h1,h2⟩:=live k hki
   rw [idk k hki,f1 _ (by rw [h1]; simp),h1,<- h2,h]
  ·rw [f0 k hk,h]
   refine hfree _ ?_
   rw [<- hall]
   have:k - ids.length < news.length:=by rw [<- hall] at hk; simp at hk; omega
   simp [List.getD,List.getElem?_append,hki,this]
 have inX:∀ b,inB βi b->∃ k,k < ids.length/\occ β (ids.getD k 0) b:=fun b ⟨k,h⟩=>by
  by_cases hki:k < ids.length
  ·exact ⟨k,hki,by have:=(hβi k hki).1; simpa [occ,this] using h⟩
  ·have:=hβo k (Nat.le_of_not_lt hki); simp [occ,this] at h
 have memall:∀ k,k < ids.length->ids.getD k 0 ∈ all:=fun k hk=>by rw [<- hall]; simp [List.getD,hk]
 have notX:∀ j b,j ∉ all->S.row j ≠ .none->occ β j b->¬ inB βi b:=fun j b hj hl hb hx=>by
  obtain ⟨k,hk,hkb⟩:=inX b hx
  exact hj (hR.inj j _ b hl (hβi k hk).2 hb hkb ▸ memall k hk)
 have hk:n4 F w w':=fun b o u hFb hc=>by
  have hb:=hbel.block b (by
   rintro (h | h)
   ·have:=(hR.FB b hFb).1; omega
   ·obtain ⟨k,hk,hkb⟩:=inX b h
    exact hR.bF _ b (hβi k hk).2 hkb hFb)
  rw [World.cell?_of_block (w:=w) hb]; exact hc
 have hg:∀ k,(outs.map (l9 all)).getD k .none=l9 all (outs.getD k .none):=fun k=>by
  simp only [List.getD,List.getElem?_map]
  cases outs[k]? <;> rfl
 have hz:=R2 S.h all (outs.map (l9 all)) hn (by rw [List.length_map,hol])
 have same:∀ j b,j ∉ all->S.row j ≠ .none->occ β j b->w'.heap[b]? = w.heap[b]? := fun j b hj hl hb=>hbel.block b (by
  rintro (h | h)
  ·have:=(hR.bB j b hb).2; omega
  ·exact notX j b hj hl hb h)
 -- the rows that live behind the call
 have lv:∀ i b,(d8 S.h (all.zip (outs.map (l9 all)))).getD i .none ≠ .none->occ β'' i b ->
   (∃ k,k < all.length/\all.getD k 0=i/\outs.getD k .none ≠ .none/\occ β' k b)∨(i ∉ all/\S.row i ≠ .none/\occ β i b):=fun i b hi hb=>by
  rcases hz i with ⟨k,h1,h2,h3⟩ | ⟨h1,h2⟩
  ·rw [h3] at hi
   split at hi
   ·rw [hg] at hi
    have ho:outs.getD k .none ≠ .none:=fun e=>hi (by rw [e]; rfl)
    obtain ⟨hd,hb1⟩:=(hrows k).some ho
    refine .inl ⟨k,h1,h2,ho,?_⟩
    have:=f2 k h1 hd hb1
    rw [h2] at this
    simp only [occ,this] at hb
    simpa [occ,hb1] using hb
   ·exact absurd rfl hi
  ·rw [h2] at hi
   obtain ⟨hd,hb1⟩:=(hR.rows i).some hi
   refine .inr ⟨h1,hi,?_⟩
   have:=f1 i (by rw [hb1]; simp)
   simpa [occ,this] using hb
 have hout:∀ j,(j ∉ all∨β j≠none)->β'' j=β j:=fun j hj=>by
  by_cases h0:β j=none
  ·have hj:j ∉ all:=hj.resolve_right fun h=>h h0
   have:¬ ∃ k,k < all.length/\all.getD k 0=j:=fun ⟨k,hk,e⟩=>hj (by rw [<- e]; simp [List.getD,hk])
   simp only [β'',h0,if_true,dif_neg this]
  ·exact f1 j h0
 refine ⟨β'',F',hR.step f1 hF (fun b hb => ?_) hk ⟨hbel.os,hbel.tape,hbel.output⟩ hbel.size (hres.ren f2 hund) (fun j => ?_) (fun i j b hi hj hbi hbj => ?_) (fun i b hi hbi => ?_) (fun i b hbi => ?_) (fun b hb hn=>hbel.block b ?_) (fun i b hi hbi => ?_) (fun b hb => ?_) (fun id l xs k e h => ?_),hout⟩
 ·obtain ⟨h1,h2⟩:=hF' b hb
  refine ⟨h1,?_⟩
  rcases h2 with h | h | h
  ·exact (hR.FB b h).2
  ·exact .inr (hR.BW b h)
  ·obtain ⟨k,_,hkb⟩:=inX b h
   exact .inr (hR.bB _ b hkb).1
 ·rcases hz j with ⟨k,h1,h2,h3⟩ | ⟨h1,h2⟩
  ·rw [h3]
   split
   ·rw [hg,<- h2]
    exact a0v f2 h1 (hrows k) (hundr k)
   ·trivial
  ·rw [h2]
   by_cases hn:S.row j = .none
   ·have:S.h.getD j .none = .none:=hn
    rw [this]; trivial
   ·exact (hR.rows j).grow f1 hF hk fun b hb=>same j b h1 hn hb
 ·rcases lv i b hi hbi with ⟨k,l1,l2,l3,l4⟩ | ⟨l1,l2,l3⟩<;>rcases lv j b hj hbj with ⟨k',m1,m2,m3,m4⟩ | ⟨m1,m2,m3⟩
  ·rw [<- l2,<- m2,hinj k k' b l3 m3 l4 m4]
  ·rcases (hbB k b l4).2 with h | h
   ·have:=(hR.bB j b m3).2; omega
   ·exact absurd h (notX j b m1 m2 m3)
  ·rcases (hbB k' b m4).2 with h | h
   ·have:=(hR.bB i b l3).2; omega
   ·exact absurd h (notX i b l1 l2 l3)
  ·exact hR.inj i j b l2 m2 l3 m3
 ·intro hFb
  rcases lv i b hi hbi with ⟨k,l1,l2,l3,l4⟩ | ⟨l1,l2,l3⟩
  ·exact hbF k b l3 l4 hFb
  ·rcases (hF' b hFb).2 with h | h | h
   ·exact hR.bF i b l2 l3 h
   ·have:=(hR.bB i b l3).2; omega
   ·exact notX i b l1 l2 l3 h
 ·by_cases h0:β i=none
  ·simp only [occ,β'',h0,if_true] at hbi
   split at hbi
   ·rename_i hex
    obtain ⟨h1,h2⟩:=hbB _ b hbi
    refine ⟨?_,h1⟩
    rcases h2 with h | h
    ·exact hR.BW b h
    ·obtain ⟨k,_,hkb⟩:=inX b h
     exact (hR.bB _ b hkb).1
   ·simp at hbi
  ·have:=f1 i h0
   simp only [occ,this] at hbi
   have:=hR.bB i b hbi
   exact ⟨this.1,Nat.lt_of_lt_of_le this.2 hbel.size⟩
 ·rintro (h | h)
  ·omega
  ·obtain ⟨k,hk,hkb⟩:=inX b h
   exact hn _ (hβi k hk).2 hkb
 ·rcases lv i b hi hbi with ⟨k,l1,l2,l3,l4⟩ | ⟨l1,l2,l3⟩
  ·rcases (hbB k b l4).2 with h | h
   ·exact .inr h
   ·obtain ⟨k',hk',hkb⟩:=inX b h
    exact .inl ⟨_,(hβi k' hk').2,hkb⟩
  ·exact .inl ⟨i,l2,l3⟩
 ·rcases (hF' b hb).2 with h | h | h
  ·exact .inl h
  ·exact .inr (.inr h)
  ·obtain ⟨k',hk',hkb⟩:=inX b h
   exact .inr (.inl ⟨_,(hβi k' hk').2,hkb⟩)
 ·rcases hz id with ⟨k',h1,h2,h3⟩ | ⟨h1,h2⟩
  ·rw [h3] at h
   split at h
   ·rw [hg] at h
    have hu:=hundr k'
    cases ho:outs.getD k' .none<;>rw [ho] at h hu<;>simp [l9,r5] at h hu
   ·cases h
  ·rw [h2] at h; exact h
end

end Go.Ev
