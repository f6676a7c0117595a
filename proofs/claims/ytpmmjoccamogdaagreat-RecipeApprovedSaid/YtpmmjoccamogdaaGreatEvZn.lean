/- Rows of which laws of their own speak. A helper text: it speaks of no program. -/
import Derived.Test.YtpmmjoccamogdaaGreatEvZm
set_option linter.unusedVariables false
set_option linter.unusedSimpArgs false
namespace Go.Ev
section
variable {P:Program} {B:Nat->Prop} {w0:World} {F0:Env P} {S:St} {β:Nat->Option Hd} {F:Nat->Prop} {a:Act} {w:World}
theorem Rel.retieV (hR:Rel B w0 F0 S β F a w) {d:Nat} (hd:β d=none) {cons:List Nat} {dst:Option Nat} {hd':Hd} {r:Row} {w':World} {v:Value} {x:AV}
  (C1:w.heap.size<=w'.heap.size) (cR:w'.os=w.os/\w'.tape=w.tape/\w'.output=w.output)
  (J9:∀ k,k < w.heap.size->(∀ c ∈ cons,S.row c ≠ .none->¬ o7 β c k)->w'.heap[k]? = w.heap[k]?)
  (hb:∀ b,N4 (some hd') b->b < w'.heap.size/\((∃ c ∈ cons,S.row c ≠ .none/\o7 β c b)∨w.heap.size<=b))
  (hr:∀ β',β' d=some hd'->(∀ j,β j≠none->β' j=β j)->y0 F w w'->s9 β' F w' d r) (iU:∀ l xs k e,r ≠ .ctr l xs k e) (hx:∀ β',β' d=some hd'->v7 β' F w' x v) :
  ∃ β' F',(∀ j,j≠d->β' j=β j)/\Rel B w0 F0 (S.put dst ⟨x,cons.map (fun i=>(i,.none))++[(d,r)]⟩) β' F' (a.put dst v) w':=by
 let β':Nat->Option Hd:=fun j=>if j=d then some hd' else β j
 have h1:β' d=some hd':=by simp [β']
 have h2:∀ j,j≠d->β' j=β j:=fun j hj=>by simp [β',hj]
 have h3:∀ j,β j≠none->β' j=β j:=fun j hj=>h2 j (fun e=>hj (e ▸ hd))
 have b1:∀ b,o7 β' d b↔N4 (some hd') b:=fun b=>by rw [o7,h1]
 have b2:∀ j b,j≠d->(o7 β' j b↔o7 β j b):=fun j b hj=>by rw [o7,o7,h2 j hj]
 have hk:y0 F w w':=fun k o u hF hc=>by
  rw [World.cell?_of_block (w:=w) (J9 k (hR.FB k hF).1 fun c _ hc hb=>hR.bF c k hc hb hF)];exact hc
 have o9:∀ j,(m0 S.h (cons.map (fun i=>(i,.none))++[(d,r)])).getD j .none=if d=j/\d < S.h.length then r else if j ∈ cons then .none else S.row j:=fun j=>by
  rw [Q7]
  simp only [m0,l9,L7,Q8]
  rfl
 have live:∀ j,j≠d->(m0 S.h (cons.map (fun i=>(i,.none))++[(d,r)])).getD j .none ≠ .none->j ∉ cons/\S.row j ≠ .none:=fun j hj hl=>by
  rw [o9,if_neg (fun h=>hj h.1.symm)] at hl
  split at hl
  ·exact absurd rfl hl
  ·rename_i hc;exact ⟨hc,hl⟩
 refine ⟨β',F,h2,hR.step h3 (fun _ h=>h) (fun b hb=>⟨Nat.lt_of_lt_of_le (hR.FB b hb).1 C1,(hR.FB b hb).2⟩) hk cR C1 (hx β' h1) ?_ ?_ ?_ ?_ (fun k hk hn=>J9 k hk fun c _ hc=>hn c hc) ?_ (fun b hb => .inl hb) ?_⟩
 ·intro j
  rw [o9]
  split
  ·rename_i h;obtain ⟨rfl,_⟩:=h;exact hr β' h1 h3 hk
  ·split
   ·trivial
   ·rename_i Y6 iU
    by_cases hn:S.row j = .none
    ·rw [hn];trivial
    ·refine (hR.rows j).grow h3 (fun _ h=>h) hk fun b J5=>J9 b (hR.bB j b J5).2 fun c hc N0 dE=>?_
     exact iU (hR.inj j c b hn N0 J5 dE ▸ hc)
 ·intro i j b hi hj u9 J5
  by_cases e:i=d
  ·by_cases e':j=d
   ·exact e.trans e'.symm
   ·exfalso
    subst e
    rw [b1] at u9;rw [b2 j _ e'] at J5
    obtain ⟨Ab,Ee⟩:=live j e' hj
    rcases (hb b u9).2 with ⟨c,hc,N0,dE⟩|h
    ·exact Ab (hR.inj c j b N0 Ee dE J5 ▸ hc)
    ·have:=(hR.bB j b J5).2;omega
  ·by_cases e':j=d
   ·exfalso
    subst e'
    rw [b1] at J5;rw [b2 i _ e] at u9
    obtain ⟨wa,Cy⟩:=live i e hi
    rcases (hb b J5).2 with ⟨c,hc,N0,dE⟩|h
    ·exact wa (hR.inj c i b N0 Cy dE u9 ▸ hc)
    ·have:=(hR.bB i b u9).2;omega
   ·rw [b2 i _ e] at u9;rw [b2 j _ e'] at J5
    exact hR.inj i j b (live i e hi).2 (live j e' hj).2 u9 J5
 ·intro i b hi u9 hF
  by_cases e:i=d
  ·subst e
   rw [b1] at u9
   rcases (hb b u9).2 with ⟨c,hc,N0,dE⟩|h
   ·exact hR.bF c b N0 dE hF
   ·have:=(hR.FB b hF).1;omega
  ·rw [b2 i _ e] at u9
   exact hR.bF i b (live i e hi).2 u9 hF
 ·intro i b u9
  by_cases e:i=d
  ·subst e
   rw [b1] at u9
   refine ⟨?_,(hb b u9).1⟩
   rcases (hb b u9).2 with ⟨c,hc,N0,dE⟩|h
   ·exact (hR.bB c b dE).1
   ·exact hR.BW b h
  ·rw [b2 i _ e] at u9
   have:=hR.bB i b u9
   exact ⟨this.1,Nat.lt_of_lt_of_le this.2 C1⟩
 ·intro i b hi u9
  by_cases e:i=d
  ·subst e
   rw [b1] at u9
   rcases (hb b u9).2 with ⟨c,_,N0,dE⟩|h
   ·exact .inl ⟨c,N0,dE⟩
   ·exact .inr h
  ·rw [b2 i _ e] at u9
   exact .inl ⟨i,(live i e hi).2,u9⟩
 ·intro id l xs k e h
  rw [o9] at h
  split at h
  ·exact absurd h (iU l xs k e)
  ·split at h
   ·cases h
   ·exact h
theorem Rel.redo (hR:Rel B w0 F0 S β F a w) {id:Nat} {hd:Hd} (hβ:β id=some hd) (v5:S.row id ≠ .none) {dst:Option Nat} {v:Value} {x:AV} {r:Row} {w':World} (C1:w'.heap.size=w.heap.size) (cR:w'.os=w.os/\w'.tape=w.tape/\w'.output=w.output)
  (J9:∀ k,¬ N4 (some hd) k->w'.heap[k]? = w.heap[k]?) (hr:s9 β F w' id r) (iU:∀ l xs k e,r ≠ .ctr l xs k e) (hv:v7 β F w' x v):Rel B w0 F0 (S.put dst ⟨x,[(id,r)]⟩) β F (a.put dst v) w':=by
 have hk:y0 F w w':=fun k o u hF hc=>by
  rw [World.cell?_of_block (w:=w) (J9 k fun h=>hR.bF id k v5 (by rw [o7,hβ];exact h) hF)];exact hc
 have o9:∀ j,(m0 S.h [(id,r)]).getD j .none=if id=j/\id < S.h.length then r else S.row j:=fun j=>by
  show (S.h.set id r).getD j .none=_
  rw [l9];rfl
 have live:∀ j,(m0 S.h [(id,r)]).getD j .none ≠ .none->S.row j ≠ .none:=fun j h=>by
  rw [o9] at h
  split at h
  ·rename_i e;rw [<- e.1];exact v5
  ·exact h
 refine hR.step (fun _ _=>rfl) (fun _ h=>h) (fun b hb=>⟨by rw [C1];exact (hR.FB b hb).1,(hR.FB b hb).2⟩) hk cR (Nat.le_of_eq C1.symm) hv (fun j=>?_) (fun i j b hi hj=>hR.inj i j b (live i hi) (live j hj)) (fun i b hi=>hR.bF i b (live i hi))
  (fun i b hb=>⟨(hR.bB i b hb).1,by rw [C1];exact (hR.bB i b hb).2⟩) (fun b _ hn=>J9 b fun h=>hn id v5 (by rw [o7,hβ];exact h)) (fun i b hi hb => .inl ⟨i,live i hi,hb⟩) (fun b hb => .inl hb) (fun fM l xs k e h=>?_)
 ·rw [o9]
  split
  ·rename_i e;rw [<- e.1];exact hr
  ·rename_i e
   by_cases hj:id=j
   ·have:S.row j = .none:=by
     have hl:¬ id < S.h.length:=fun h=>e ⟨hj,h⟩
     rw [<- hj]
     show S.h.getD id .none = .none
     simp [List.getD,List.getElem?_eq_none (Nat.le_of_not_lt hl)]
    rw [this];trivial
   ·by_cases hn:S.row j = .none
    ·rw [hn];trivial
    ·exact (hR.rows j).grow (fun _ _=>rfl) (fun _ h=>h) hk fun b hb=>J9 b fun h=>hj (hR.inj id j b v5 hn (by rw [o7,hβ];exact h) hb)
 ·rw [o9] at h
  split at h
  ·exact absurd h (iU l xs k e)
  ·exact h
theorem PW.exo {f:FuncId} {args:List AV} {ins l5:List Row} {res:AV} {ι:Type} {o o':zR} {oi oi':ι->zR} {k:Nat} (fK:∀ F hd w,o.Φ F hd w->∃ i,(oi i).Φ F hd w) (eN:∀ i F hd w,(oi' i).Φ F hd w->o'.Φ F hd w)
  (h:∀ i,PW P f args (ins.set k (.opq (oi i))) res (l5.set k (.opq (oi' i)))) (hk:k < ins.length) (fJ:k < l5.length):PW P f args (ins.set k (.opq o)) res (l5.set k (.opq o')):=by
 intro F w vs β hF C1 G8 ho
 have hg:∀ (l:List Row),k < l.length->∀ (q:zR) j,(l.set k (.opq q)).getD j .none=if k=j then .opq q else l.getD j .none:=fun l hl q j=>by
  rw [l9];simp [hl]
 have nn:∀ (l:List Row),k < l.length->∀ (q q':zR) j,(l.set k (.opq q)).getD j .none ≠ .none->(l.set k (.opq q')).getD j .none ≠ .none:=fun l hl q q' j h=>by
  rw [hg l hl] at h ⊢
  split
  ·simp
  ·rename_i e;rwa [if_neg e] at h
 have h0:=ho.rows k
 rw [hg ins hk,if_pos rfl] at h0
 obtain ⟨hd,hβ,hΦ⟩:=h0
 obtain ⟨i,hi⟩:=fK F hd w hΦ
 obtain ⟨h1,h2⟩:=h i F w vs β hF C1 G8 ⟨fun j=>by
  have:=ho.rows j
  rw [hg ins hk] at this ⊢
  split
  ·rename_i e;subst e;exact ⟨hd,hβ,hi⟩
  ·rename_i e;rwa [if_neg e] at this,fun i j b hi hj=>ho.inj i j b (nn ins hk _ _ i hi) (nn ins hk _ _ j hj),fun i b hi=>ho.bF i b (nn ins hk _ _ i hi),ho.bB,fun j hj=>ho.dead j (Classical.byContradiction fun hn=>nn ins hk _ _ j hn hj)⟩
 refine ⟨h1,h2.mono ?_⟩
 rintro e w' ⟨v,β',F',e1,e2,e3,e4,e5,e6,e7,e8,e9,zV⟩
 refine ⟨v,β',F',e1,e2,e3,e4,e5,e6,fun j=>?_,fun i j b hi hj=>e8 i j b (nn l5 fJ _ _ i hi) (nn l5 fJ _ _ j hj),fun i b hi=>e9 i b (nn l5 fJ _ _ i hi),zV⟩
 have:=e7 j
 rw [hg l5 fJ] at this ⊢
 split
 ·rename_i e;subst e
  rw [if_pos rfl] at this
  obtain ⟨hd',q1,q2⟩:=this
  exact ⟨hd',q1,eN i _ hd' w' q2⟩
 ·rename_i e;rwa [if_neg e] at this
end

end Go.Ev
