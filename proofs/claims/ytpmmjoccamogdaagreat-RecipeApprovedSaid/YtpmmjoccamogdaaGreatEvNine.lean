/- A call's result may be read more weakly. A helper text: it speaks of no program. -/
import Derived.Test.YtpmmjoccamogdaaGreatEvTen
set_option linter.unusedVariables false
set_option linter.unusedSimpArgs false
namespace Go.Ev
def sr (a b:AV):Prop:=∀ (β:Nat->Option Hd) (F:Nat->Prop) (w:World) (v:Value),v7 β F w a v->v7 β F w b v
theorem sr.refl (a:AV):sr a a:=fun _ _ _ _ h=>h
theorem sr.nils {α:Type} (sz:Nat) (d:α) (enc:α->List AV):sr .nils (.sl sz d enc []):=fun β F w v h=>by
 cases h with
 | imm h=>cases h;exact .imm .slnil
theorem sr.ff:sr .ff (.bool false):=fun β F w v h=>by
 cases h with
 | imm h=>cases h;exact .imm (.bool _)
theorem PW.sub {P:Program} {f:FuncId} {args:List AV} {ins l5:List Row} {res xq:AV} (h:PW P f args ins res l5) (hr:sr res xq):PW P f args ins xq l5:=by
 intro F w vs β hF C1 G8 ho
 obtain ⟨h1,h2⟩:=h F w vs β hF C1 G8 ho
 refine ⟨h1,h2.mono ?_⟩
 rintro e w' ⟨v,β',F',e1,e2,e3,e4,e5,e6,e7⟩
 exact ⟨v,β',F',e1,e2,e3,e4,e5,hr _ _ _ _ e6,e7⟩
theorem PW.rows {P:Program} {f:FuncId} {args:List AV} {ins l5 Ce:List Row} {res:AV} (h:PW P f args ins res l5) (he:∀ k,Ce.getD k .none=l5.getD k .none):PW P f args ins res Ce:=by
 intro F w vs β hF C1 G8 ho
 obtain ⟨h1,h2⟩:=h F w vs β hF C1 G8 ho
 refine ⟨h1,h2.mono ?_⟩
 rintro e w' ⟨v,β',F',e1,e2,e3,e4,e5,e6,e7,e8,e9,zV⟩
 exact ⟨v,β',F',e1,e2,e3,e4,e5,e6,fun k=>by rw [he];exact e7 k,fun i j b hi hj=>by rw [he] at hi hj;exact e8 i j b hi hj,fun i b hi=>by rw [he] at hi;exact e9 i b hi,zV⟩
theorem PW.shut {P:Program} {f:FuncId} {args:List AV} {ins l5:List Row} {res:AV} (h:PW P f args ins res l5) (k n:Nat) (hp:(l5.getD k .none).plainR=true) :
  PW P f args ins (z8 n (fun i=>(List.replicate k Row.none++[l5.getD k .none]).getD i .none) res) (l5.set k .none):=by
 intro F w vs β hF C1 G8 ho
 obtain ⟨h1,h2⟩:=h F w vs β hF C1 G8 ho
 refine ⟨h1,h2.mono ?_⟩
 rintro e w' ⟨v,β',F',rfl,hb,IH,GK,wg,hr,o9,eh,Er,zP⟩
 let S:St:=⟨[],List.replicate k Row.none++[l5.getD k .none],.plain⟩
 have hS:∀ i,S.row i=if i=k then l5.getD k .none else .none:=fun i=>by
  show (List.replicate k Row.none++[l5.getD k .none]).getD i .none=_
  simp only [List.getD]
  by_cases e:i < k
  ·rw [List.getElem?_append_left (by simpa using e),List.getElem?_replicate,if_pos e,if_neg (by omega)];rfl
  ·rw [List.getElem?_append_right (by simpa using e)]
   by_cases e2:i=k
   ·subst e2;simp
   ·rw [if_neg e2,List.getElem?_eq_none (by simp;omega)];rfl
 have only:∀ {i},S.row i ≠ .none->i=k:=fun {i} q=>Decidable.byContradiction fun e=>q (by rw [hS,if_neg e])
 have II:S.row k=l5.getD k .none:=by rw [hS,if_pos rfl]
 have hR:Rel (P:=P) (fun _=>True) w' (Env.plain P F' β' none .plain (fun _=>rfl)) S β' F' { tmps:=#[],defers:=[] } w':=by
  refine ⟨rfl,fun i hi=>absurd hi (Nat.not_lt_zero i),⟨[],⟨rfl,fun _=>rfl⟩,List.nodup_nil,fun D hD=>absurd hD (by simp)⟩,fun i=>?_,?_,?_,fun i b hi=>⟨trivial,(zP i b hi).1⟩,fun b hb=>⟨(wg b hb).1,.inr trivial⟩,D6.refl _ _,fun _ _=>trivial,fun _ _ h=>h,?_,rfl,fun _ h=>h,y0.refl _ _,fun _ _ _ h _=>h,?_⟩
  ·rw [hS]
   by_cases e:i=k
   ·rw [if_pos e,e];exact o9 k
   ·rw [if_neg e];trivial
  ·intro i j b hi hj _ _
   rw [only hi,only hj]
  ·intro i b hi hb
   obtain rfl:=only hi
   rw [II] at hi
   exact Er i b hi hb
  ·intro j hj
   exact (Bool.noConfusion (show false=true from hj))
  ·intro id l xs k' e he
   exfalso
   have R9:S.row id ≠ .none:=by rw [he];exact fun q=>by cases q
   obtain rfl:=only R9
   rw [II] at he
   rw [he] at hp
   cases hp
 have live:∀ b,et S β' b->l5.getD k .none ≠ .none/\o7 β' k b:=fun b ⟨i,hi,hb⟩=>by
  obtain rfl:=only hi
  rw [II] at hi
  exact ⟨hi,hb⟩
 have gs:∀ j,(l5.set k .none).getD j .none=if j=k then .none else l5.getD j .none:=fun j=>by
  simp only [List.getD,List.getElem?_set]
  by_cases e:k=j
  ·subst e
   rw [if_pos rfl,if_pos rfl]
   by_cases q:k < l5.length
   ·rw [if_pos q];rfl
   ·rw [if_neg q];rfl
  ·rw [if_neg e,if_neg (fun q=>e q.symm)]
 have gn:∀ j,(l5.set k .none).getD j .none ≠ .none->j≠k/\l5.getD j .none ≠ .none:=fun j q=>by
  rw [gs] at q
  by_cases e:j=k
  ·rw [if_pos e] at q;exact absurd rfl q
  ·rw [if_neg e] at q;exact ⟨e,q⟩
 refine ⟨v,β',fun b=>F' b∨et S β' b,rfl,hb,IH,fun b hb => .inl (GK b hb),?_,.imm (C0 hR n hr),fun j=>?_,?_,?_,zP⟩
 ·rintro b (hb|hb)
  ·exact wg b hb
  ·obtain ⟨_,hb⟩:=live b hb
   obtain ⟨q1,q2⟩:=zP k b hb
   exact ⟨q1,.inr q2⟩
 ·rw [gs]
  by_cases e:j=k
  ·rw [if_pos e];trivial
  ·rw [if_neg e];exact s9.grow (F:=F') (fun _ _=>rfl) (fun b h=>Or.inl h) (y0.refl _ _) (fun _ _=>rfl) (o9 j)
 ·intro i j b hi hj
  exact eh i j b (gn i hi).2 (gn j hj).2
 ·rintro i b hi hb (hf|hf)
  ·exact Er i b (gn i hi).2 hb hf
  ·obtain ⟨q1,q2⟩:=live b hf
   exact (gn i hi).1 (eh i k b (gn i hi).2 q1 hb q2)
def tI (a b:AV):Prop:=∀ (β:Nat->Option Hd) (F:Nat->Prop) (w:World) (v:Value),v7 β F w a v->p9 F w b v
theorem tI.int (k:IntKind) (n:Int):tI (.int k n) (.int k n):=fun β F w v h=>by
 cases h with
 | imm h=>exact h
theorem tI.nils {α:Type} (sz:Nat) (d:α) (enc:α->List AV):tI .nils (.sl sz d enc []):=fun β F w v h=>by
 cases h with
 | imm h=>cases h;exact .slnil

end Go.Ev
