/- A new map goes into a slice of maps. A helper text: it speaks of no program. -/
import Derived.Test.YtpmmjoccamogdaaGreatEvZp
set_option linter.unusedVariables false
set_option linter.unusedSimpArgs false
namespace Go.Ev
open Go.ChangeMaps (setBlock)
section
variable {P:Program} {S:St}
theorem mG {F:Nat->Prop} {e:TypeId} {l:List (List Int)} {cs:List Nat} {cm b cap:Nat} {w w':World} {vs:Array Value} (h3:cs.length=l.length) (h5:cs.Nodup) (h6:∀ i,i < l.length->w.heap[cs.getD i 0]? = some (.map (G3 (l.getD i [])) (l.getD i []).length))
  (hm:w.heap[cm]? = some (.map (G3 []) 0)) (rD:cm ∉ cs) (hk:∀ c,c ∈ cs++[cm]->w'.heap[c]? = w.heap[c]?) (hb:w'.heap[b]? = some (.cells vs e (0,0))) (hn:b ∉ cs++[cm]) (hc:l.length + 1<=cap) (hx:cap<=maxLen) (hs:vs.size=cap)
  (v1:∀ i,i < l.length->vs.getD i undef = .map (some (cs.getD i 0))) (v2:vs.getD l.length undef = .map (some cm)):(Y4 e (l++[[]])).Φ F ⟨some b,l.length + 1,cap,fun p=>((cs++[cm])[p]?,0,0)⟩ w':=by
 have gl:∀ i,i < l.length->(cs++[cm]).getD i 0=cs.getD i 0:=fun i hi=>M7 (by omega)
 have gr:(cs++[cm]).getD l.length 0=cm:=by rw [L8 (by omega),h3];simp
 have ll:∀ i,i < l.length->(l++[[]]).getD i []=l.getD i []:=fun i hi=>M7 hi
 have lr:(l++[([]:List Int)]).getD l.length []=[]:=by rw [L8 (Nat.le_refl _)];simp
 refine ⟨cs++[cm],by simp,by simp [h3],fun _=>rfl,?_,fun i hi=>?_,.inr ⟨b,vs,rfl,hn,hb,by simpa using hc,hx,hs,fun i hi=>?_⟩⟩
 ·rw [List.nodup_append]
  refine ⟨h5,by simp,fun a ha b hb=>?_⟩
  rintro rfl
  simp at hb
  exact rD (hb ▸ ha)
 ·have hi:i < l.length + 1:=by simpa using hi
  by_cases e:i < l.length
  ·rw [gl i e,ll i e,hk _ (List.mem_append_left _ (by rw [List.getD,List.getElem?_eq_getElem (by omega)];exact List.getElem_mem _))]
   exact h6 i e
  ·have:i=l.length:=by omega
   subst this
   rw [gr,lr,hk _ (by simp)]
   exact hm
 ·have hi:i < l.length + 1:=by simpa using hi
  by_cases e:i < l.length
  ·rw [gl i e];exact v1 i e
  ·have:i=l.length:=by omega
   subst this
   rw [gr];exact v2
theorem yB {β:Nat->Option Hd} {F:Nat->Prop} {w:World} {id:Nat} {e:TypeId} {α:Type} {d:α} {enc:α->List AV} (h:s9 β F w id (.vec e 1 d enc [])):s9 β F w id (.opq (Y4 e [])):=by
 obtain ⟨hd,h1,h2,h3,h4⟩:=h
 refine ⟨hd,h1,[],h3,rfl,fun i=>by rw [h2];rfl,.nil,fun i hi=>absurd hi (Nat.not_lt_zero i),?_⟩
 rcases h4 with h4|⟨b,vs,q1,q2,q3,q4,q5,q6⟩
 ·exact .inl ⟨rfl,h4.2⟩
 ·exact .inr ⟨b,vs,q1,by simp,q2,q3,q4,by rw [q5,Nat.mul_one],fun i hi=>absurd hi (Nat.not_lt_zero i)⟩
theorem qu {o:Oper} {c:Call} {s x:Operand} {t e CC:TypeId} {d id q dm cm:Nat} {l:List (List Int)} {i:TypeInfo} {zv:Value} (ho:o.op = .call c) (hb:c.callee = .builtin .append) (pf:c.args.toList=[s,x]) (uy:c.argTypes.toList=[t,t])
    (hd:o.dst=some d) (hk:u3 S d=true) (hu:P.underlying t=some (.slice e)) (hi:P.info? e=some i) (h1:i.size=1) (He:i.bytes<=64) (hz:i.zero=some zv) (FM:zv.cells.size=1)
    (wO:(S.kill d).get s = .own id) (fR:(S.kill d).get x = .own q) (hr:∀ β F w,s9 β F w id ((S.kill d).row id)->s9 β F w id (.opq (Y4 e l))) (IM:(S.kill d).row id ≠ .none) (hq:(S.kill d).row q = .lit CC 1 [[.mapv cm]]) (hm:(S.kill d).row dm = .opq (Bj cm [])) (R9:id≠dm) (hlen:l.length + 1<=1048576) :
    X8 P o S (fun S'=>S'=(S.kill d).put (some d) ⟨.own d,[(id,.none),(dm,.none),(d,.opq (Y4 e (l++[[]])))]⟩):=by
  intro B w0 F0 β0 F a w Q JY
  obtain ⟨β,u5,_,hR⟩:=JY.kill d (JY.topn d hk)
  generalize S.kill d=S1 at *
  have e1:=bK pf
  have e2:=bK uy
  have hs:∀ BP,builtin .append c.argTypes o.type BP (c.args.map a.eval)=(do pure (.value (<- Builtin.append_ #[t,t] o.type #[a.eval s,a.eval x]))):=fun BP=>by
    rw [e1,e2];simp [builtin]
  have wb:=hR.get s
  have V4:=hR.get x
  rw [wO] at wb
  rw [fR] at V4
  obtain ⟨Q9,hβ,cW⟩:=wb.own_inv
  obtain ⟨wP,Hn,Ho⟩:=V4.own_inv
  obtain ⟨bq,vq,p1,p2,p3,p4,p5⟩:=iK hR hq Hn
  have Hp:wP.len=1:=by simpa using p3
  have kQ:a.eval x = .slice (some ⟨bq,0,none⟩) 1 wP.cap:=by rw [Ho,p1,Hp];rfl
  have AI:vq.getD 0 undef = .map (some cm):=by
    have:=p5 0 0 (by simp) (by omega)
    exact v7.mapv_inv (by simpa using this)
  have LM:w.cell? ⟨bq,0,none⟩=some (.map (some cm)):=by
    rw [<- AI]
    exact A6 p2 (by rw [p4];simp)
  have S5:∀ j v,[Value.map (some cm)][j]? = some v->w.cell? ((⟨bq,0,none⟩:Addr).add j)=some v:=fun j v h=>by
    match j,h with
    | 0,h =>
      cases h
      rw [G0];exact LM
  have o9:=hr _ _ _ (hR.rows id)
  obtain ⟨hd',f1,cs,g2,g3,g4,g5,g6,g7⟩:=o9
  rw [hβ] at f1
  cases f1
  have JZ:=hR.rows dm
  rw [hm] at JZ
  obtain ⟨Gr,m1,m2,m3,m4⟩:=JZ
  have zJ:o7 β dm cm:=by rw [o7,m1];exact w8 m2
  have l1:=IM
  have l2:S1.row dm ≠ .none:=by rw [hm];simp
  have Ka:∀ c,c ∈ cs->o7 β id c:=fun c hc=>by
    obtain ⟨j,hj,rfl⟩:=List.mem_iff_getElem.1 hc
    rw [o7,hβ];exact N5 (k:=j) (by rw [g4,List.getElem?_eq_getElem hj])
  have rD:cm ∉ cs:=fun h=>R9 (hR.inj id dm cm l1 l2 (Ka cm h) zJ)
  have IN:∀ c,c ∈ cs++[cm]->(∃ r ∈ [id,dm],S1.row r ≠ .none/\o7 β r c):=fun c hc=>by
    rcases List.mem_append.1 hc with h|h
    · exact ⟨id,by simp,l1,Ka c h⟩
    · have:c=cm:=by simpa using h
      subst this
      exact ⟨dm,by simp,l2,zJ⟩
  have u2:∀ c,c ∈ cs++[cm]->c < w.heap.size:=fun c hc=>by
    obtain ⟨r,_,_,hr⟩:=IN c hc
    exact (hR.bB r c hr).2
  have CD:∀ (b cap:Nat) (k:Nat),N4 (some ⟨some b,l.length + 1,cap,fun p=>((cs++[cm])[p]?,0,0)⟩) k->k=b∨k ∈ cs++[cm]:=fun b cap k h=>by
    rcases h with h|⟨p,h⟩
    · exact .inl (by simpa using h.symm)
    · exact .inr (List.mem_of_getElem? h)
  have fin:∀ (hd':Hd) (w':World),(Builtin.append_ #[t,t] o.type #[a.eval s,a.eval x]).run P w = .ok (.slice (hd'.b.map fun b=>⟨b,0,none⟩) hd'.len hd'.cap) w'->w.heap.size<=w'.heap.size ->
      (w'.os=w.os/\w'.tape=w.tape/\w'.output=w.output)->(∀ k,k < w.heap.size->(∀ c ∈ [id,dm],S1.row c ≠ .none->¬ o7 β c k)->w'.heap[k]? = w.heap[k]?) ->
      (∀ b,N4 (some hd') b->b < w'.heap.size/\((∃ c ∈ [id,dm],S1.row c ≠ .none/\o7 β c b)∨w.heap.size<=b)) ->
      (∀ F,(Y4 e (l++[[]])).Φ F hd' w')->o.wpIn { Fence.wide with round:=F0.r } 0 P a w (fun a' w'=>∃ S',S'=S1.put (some d) ⟨.own d,[(id,.none),(dm,.none),(d,.opq (Y4 e (l++[[]])))]⟩/\∃ β' F',Rel B w0 F0 S' β' F' a' w') Q:=by
    intro hd' w' A7 q1 q2 q3 q4 q5
    obtain ⟨β',F',k1,k2⟩:=hR.retieV u5 (cons:=[id,dm]) (dst:=o.dst) (hd':=hd') (r := .opq (Y4 e (l++[[]]))) (v := .slice (hd'.b.map fun b=>⟨b,0,none⟩) hd'.len hd'.cap) (x := .own d) q1 q2 q3 q4 (fun β' dF _ _=>⟨hd',dF,q5 _⟩) (fun _ _ _ _ h=>by cases h) (fun β' h => .own h)
    rw [hd] at k2
    exact D7 (by rw [ho];nofun) (D1 ho hb hs A7 ⟨_,rfl,β',F',by rw [hd];exact k2⟩)
  have fresh:∀ (sK:List Value) (cap:Nat),sK.length=l.length->(∀ i,i < l.length->sK[i]? = some (.map (some (cs.getD i 0))))->l.length + 1<=cap->cap<=maxLen ->
      (Builtin.append_ #[t,t] o.type #[a.eval s,a.eval x]).run P w = .ok (.slice (some ⟨w.heap.size,0,none⟩) (l.length + 1) cap) (w.drew.alloc (.cells (sK.toArray++[Value.map (some cm)].toArray++Builtin.zeroCells zv.cells (cap - (l.length + 1))) e)) ->
      o.wpIn { Fence.wide with round:=F0.r } 0 P a w (fun a' w'=>∃ S',S'=S1.put (some d) ⟨.own d,[(id,.none),(dm,.none),(d,.opq (Y4 e (l++[[]])))]⟩/\∃ β' F',Rel B w0 F0 S' β' F' a' w') Q:=by
    intro sK cap o1 o2 hc hx A7
    have hp:∀ k,k < w.heap.size->(w.drew.alloc (.cells (sK.toArray++[Value.map (some cm)].toArray++Builtin.zeroCells zv.cells (cap - (l.length + 1))) e)).heap[k]? = w.heap[k]? := fun k hk=>RowKit.Below.heap_alloc w.drew _ k hk
    refine fin ⟨some w.heap.size,l.length + 1,cap,fun p=>((cs++[cm])[p]?,0,0)⟩ _ A7 (by simp) ⟨rfl,rfl,rfl⟩ (fun k hk _=>hp k hk) (fun b hb=>?_) ?_
    · rcases CD _ _ b hb with h|h
      · subst h;exact ⟨by simp,.inr (Nat.le_refl _)⟩
      · have:=u2 b h
        exact ⟨by simp;omega,.inl (IN b h)⟩
    · refine fun F=>mG g3 g5 g6 m4 rD (fun c hc=>hp c (u2 c hc)) (heap_alloc_new w.drew _) (fun h=>Nat.lt_irrefl _ (u2 _ h)) hc hx ?_ (fun i hi=>?_) ?_
      · simp only [Array.size_append,List.size_toArray,O1,FM,o1,List.length_singleton]
        omega
      · have h2:=o2 i hi
        have:i < sK.length:=by omega
        rw [List.getElem?_eq_getElem this] at h2
        have h3:=Option.some.inj h2
        simp only [List.getD] at h3
        simp [Array.getD_eq_getD_getElem?,Array.getElem?_append,this,h3,List.getD,show i < sK.length + 1 by omega]
      · simp [Array.getD_eq_getD_getElem?,Array.getElem?_append,o1]
  rcases g7 with ⟨ak,n1,n2⟩|⟨b,vs,b1,b2,b3,b4,b5,b6,b7⟩
  · have nc:a.eval s = .slice none 0 0:=by rw [cW,n1,n2,g2,ak];rfl
    have pk:=run_append_nil (P:=P) w t o.type e i zv hu hi hz ⟨bq,0,none⟩ 1 wP.cap [Value.map (some cm)] (by simp [h1]) S5 (by omega) (by omega) (by omega)
    refine fresh [] (grownCap w 1 0 e) (by simp [ak]) (fun i hi=>by simp [ak] at hi) ?_ ?_ ?_
    · rw [ak];exact grownCap_ge w 1 0 e
    · exact grownCap_le_maxLen w 1 0 e (by simp only [maxLen];omega)
    · rw [nc,kQ,pk]
      simp [ak]
  · have nc:a.eval s = .slice (some ⟨b,0,none⟩) l.length Q9.cap:=by rw [cW,b1,g2];rfl
    have Ef:o7 β id b:=by rw [o7,hβ];exact w8 b1
    have LN:∀ i,i < l.length->vs.toList[i]? = some (.map (some (cs.getD i 0))):=fun i hi=>by
      have:=b7 i hi
      have uv:i < vs.size:=by omega
      simp [Array.getD_eq_getD_getElem?,uv] at this
      simp [uv,this]
    have EU:∀ i,i < l.length->(vs.toList.take l.length)[i]? = some (.map (some (cs.getD i 0))):=fun i hi=>by
      rw [List.getElem?_take_of_lt hi];exact LN i hi
    have tR:(vs.toList.take l.length).length=l.length:=by simp;omega
    by_cases P1:l.length + 1<=Q9.cap
    · have pk:=run_append_room (P:=P) w t o.type e i hu hi b l.length Q9.cap vs b3 ⟨bq,0,none⟩ 1 wP.cap [Value.map (some cm)] (by simp [h1]) S5 (fun u hu=>by rw [List.mem_singleton] at hu;subst hu;rfl) P1 (by simp [h1];omega)
      obtain ⟨k1,k2,k3⟩:=E8 b vs (vs.toList.take (l.length * i.size)++[Value.map (some cm)]++vs.toList.drop (l.length * i.size + [Value.map (some cm)].length)).toArray e (0,0) b3
      have GH:b ∉ cs++[cm]:=fun h=>by
        rcases List.mem_append.1 h with h|h
        · exact b2 h
        · have:b=cm:=by simpa using h
          exact R9 (hR.inj id dm b l1 l2 Ef (this ▸ zJ))
      refine fin ⟨some b,l.length + 1,Q9.cap,fun p=>((cs++[cm])[p]?,0,0)⟩ _ (by rw [nc,kQ];exact pk) (by rw [k1.2.2.2];exact Nat.le_refl _) ⟨k1.1,k1.2.1,k1.2.2.1⟩ (fun k hk hn=>k2 k fun ek=>?_) (fun k zI=>?_) ?_
      · subst ek;exact hn id (by simp) l1 Ef
      · rw [k1.2.2.2]
        rcases CD _ _ k zI with h|h
        · subst h;exact ⟨(hR.bB id k Ef).2,.inl ⟨id,by simp,l1,Ef⟩⟩
        · exact ⟨u2 k h,.inl (IN k h)⟩
      · refine fun F=>mG g3 g5 g6 m4 rD (fun c hc=>k2 c fun e=>GH (e ▸ hc)) k3 GH P1 b5 ?_ (fun i hi=>?_) ?_
        · simp [h1];omega
        · have:=EU i hi
          rw [h1,Nat.mul_one]
          simp only [Array.getD_eq_getD_getElem?,List.getElem?_toArray,List.append_assoc]
          rw [List.getElem?_append_left (by omega),this]
          rfl
        · rw [h1,Nat.mul_one]
          simp only [Array.getD_eq_getD_getElem?,List.getElem?_toArray,List.append_assoc]
          rw [List.getElem?_append_right (by omega),tR,Nat.sub_self]
          rfl
    · have pk:=run_append_grow (P:=P) w t o.type e i zv hu hi hz ⟨b,0,none⟩ l.length Q9.cap (vs.toList.take l.length) (by rw [tR,h1,Nat.mul_one]) (fun j v hj=>by
          rw [G0]
          have Cz:j < l.length:=by
            have:=(List.getElem?_eq_some_iff.1 hj).1
            rw [tR] at this;exact this
          rw [EU j Cz] at hj
          cases hj
          have:=A6 (i:=j) b3 (by omega)
          rw [b7 j Cz] at this
          simpa using this) ⟨bq,0,none⟩ 1 wP.cap [Value.map (some cm)] (by simp [h1]) S5 (by omega) (by omega) (growslice_fits (by omega) (by
          have:(l.length + 1) * i.bytes<=1048576 * 64:=Nat.mul_le_mul hlen He
          omega))
      refine fresh (vs.toList.take l.length) (grownCap w (l.length + 1) Q9.cap e) tR EU (grownCap_ge w _ _ e) (grownCap_le_maxLen w _ _ e (by simp only [maxLen];omega)) ?_
      rw [nc,kQ,pk]
theorem vC {o:Oper} {t e:TypeId} {x y:Operand} {id i:Nat} {ty:TypeId} {l:List (List Int)} {cs:List Nat} (ho:o.op = .indexAddr t x y) (hu:P.underlying t=some (.slice e)) {inf:TypeInfo} (hi:P.info? e=some inf) (h1:inf.size=1)
  (hx:S.get x = .own id) (hr:S.row id = .opq (J8 ty l cs)) (hy:S.get y = .int .i64 i) (hl:i < l.length):iD P o S ⟨.ptr id 1 i 0,[]⟩:=by
 intro B w0 F0 β F a w Q hR u5
 have V4:=hR.get x
 have gP:=hR.get y
 rw [hx] at V4
 rw [hy] at gP
 obtain ⟨hd,hβ,hv⟩:=V4.own_inv
 have gP:=gP.int_inv
 have o9:=hR.rows id
 rw [hr] at o9
 obtain ⟨hd',e1,e2,e3,e4,e5,e6,e7⟩:=o9
 rw [hβ] at e1
 cases e1
 rcases e7 with ⟨g1,_⟩|⟨b,vs,g1,g2,g3,g4,g5,g6,g7⟩
 ·rw [g1] at hl;cases hl
 have C9:execOp a.eval o=(do pure (.value (<- Instr.indexAt t (a.eval x) (a.eval y)))):=by simp [execOp,ho]
 rw [gP,hv,g1,e2] at C9
 have A7:(Instr.indexAt t (.slice ((some b).map fun b=>⟨b,0,none⟩) l.length hd.cap) (.int .i64 i)).run P w = .ok (.pointer (some ⟨b,i * 1 + 0,none⟩)) w:=by
  have h0:(0:Int)<=i:=by omega
  have h2:(i:Int) < (l.length:Nat):=by omega
  simp [Instr.indexAt,run_underlying hu,asIntOf,h0,h2,sizeOf,typeInfo,hi,G0,h1,hl]
 exact (C4 C9 A7 ⟨β,F,fun _ _=>rfl,hR.still (.ptr hβ g1)⟩)
theorem vD {o:Oper} {t e:TypeId} {x y:Operand} {id i:Nat} {ty:TypeId} {l:List (List Int)} {cs:List Nat} (ho:o.op = .indexAddr t x y) (hu:P.underlying t=some (.slice e)) {inf:TypeInfo} (hi:P.info? e=some inf) (h1:inf.size=1)
  (hx:S.get x = .own id) (hr:S.row id = .opq (J8 ty l cs)) (hy:S.get y = .int .i64 i) (hl:i < l.length):∀ S':St,(∀ x ∈ x8 o.op,S'.get x=S.get x)->(∀ i ∈ [id],S'.row i=S.row i)->iD P o S' ⟨.ptr id 1 i 0,[]⟩:=fun S' q1 q2=>vC ho hu hi h1 ((q1 x (by rw [ho];simp [x8,Op.operands])).trans hx) ((q2 id (by simp)).trans hr) ((q1 y (by rw [ho];simp [x8,Op.operands])).trans hy) hl
theorem yC {o:Oper} {t k e:TypeId} {x:Operand} {id i:Nat} {ty:TypeId} {l:List (List Int)} {cs:List Nat} (ho:o.op = .load t x) (hu:P.underlying t=some (.map k e)) (hx:S.get x = .ptr id 1 i 0) (hr:S.row id = .opq (J8 ty l cs)) (hi:i < l.length) :
  iD P o S ⟨.mapv (cs.getD i 0),[]⟩:=by
 intro B w0 F0 β F a w Q hR u5
 have V4:=hR.get x
 rw [hx] at V4
 obtain ⟨hd,b,hβ,hb,V4⟩:=V4.ptr_inv
 have o9:=hR.rows id
 rw [hr] at o9
 obtain ⟨dI,f1,e2,e3,e4,e5,e6,e7⟩:=o9
 rw [hβ] at f1
 cases f1
 rcases e7 with ⟨g1,_⟩|⟨b',vs,g1,g2,g3,g4,g5,g6,g7⟩
 ·rw [g1] at hi;cases hi
 rw [hb] at g1
 cases g1
 have B7:=A6 (i:=i) g3 (by omega)
 rw [g7 i hi] at B7
 have C9:execOp a.eval o=(do pure (.value (<- Instr.loadAt t (a.eval x)))):=by simp [execOp,ho]
 rw [V4] at C9
 have A7:(Instr.loadAt t (.pointer (some ⟨b,i * 1 + 0,none⟩))).run P w = .ok (.map (some (cs.getD i 0))) w:=by
  rw [Nat.mul_one,Nat.add_zero]
  simp [Instr.loadAt,Instr.sureAddr,loadVar,isAgg,run_underlying hu,B7]
 exact (C4 C9 A7 ⟨β,F,fun _ _=>rfl,hR.still (.imm (.mapv _))⟩)
theorem yD {o:Oper} {t k e:TypeId} {x:Operand} {id i:Nat} {ty:TypeId} {l:List (List Int)} {cs:List Nat} (ho:o.op = .load t x) (hu:P.underlying t=some (.map k e)) (hx:S.get x = .ptr id 1 i 0) (hr:S.row id = .opq (J8 ty l cs)) (hi:i < l.length) :
  ∀ S':St,(∀ x ∈ x8 o.op,S'.get x=S.get x)->(∀ i ∈ [id],S'.row i=S.row i)->iD P o S' ⟨.mapv (cs.getD i 0),[]⟩:=fun S' q1 q2=>yC ho hu ((q1 x (by rw [ho];simp [x8,Op.operands])).trans hx) ((q2 id (by simp)).trans hr) hi
theorem sL {o:Oper} {t k e:TypeId} {x y z:Operand} {id c:Nat} {ty:TypeId} {l:List (List Int)} {cs:List Nat} {i:Nat} {u:Int} (ho:o.op = .mapUpdate t x y z) (hu:P.underlying t=some (.map k e)) (hk:P.underlying k=some (.int .i64))
  (hx:S.get x = .mapv c) (hy:S.get y = .int .i64 u) (hz:S.get z = .tt) (hr:S.row id = .opq (J8 ty l cs)) (hi:i < l.length) (hc:cs.getD i 0=c) (hs:∀ v ∈ l.getD i [],(Lit.int .i64 v).wf=true) (hw:(Lit.int .i64 u).wf=true) :
  iD P o S ⟨.any,[(id,.opq (J8 ty (l.set i (Y3 (l.getD i []) u)) cs))]⟩:=by
 intro B w0 F0 β F a w Q hR u5
 have V4:=hR.get x
 have gP:=hR.get y
 have kW:=hR.get z
 rw [hx] at V4
 rw [hy] at gP
 rw [hz] at kW
 have V4:=V4.mapv_inv
 have gP:=gP.int_inv
 have kW:=kW.tt_inv
 have o9:=hR.rows id
 rw [hr] at o9
 obtain ⟨hd,hβ,e2,e3,e4,e5,e6,e7⟩:=o9
 have hb:=e6 i hi
 rw [hc] at hb
 have wa:i < cs.length:=by rw [e3];exact hi
 have hm:(hd.m i).1=some c:=by
  rw [e4,<- hc,List.getD,List.getElem?_eq_getElem wa];rfl
 have A7:=ke (P:=P) hk hu hs hb hw
 have zJ:N4 (some hd) c:=N5 hm
 have J9:∀ j,j≠c->(setBlock w c (.map (G3 (Y3 (l.getD i []) u)) (Y3 (l.getD i []) u).length)).heap[j]? = w.heap[j]? := fun j hj=>Go.ChangeMaps.heap_setBlock_other hb _ hj
 have hlen:(l.set i (Y3 (l.getD i []) u)).length=l.length:=List.length_set
 have CL:c ∈ cs:=by rw [<- hc,List.getD,List.getElem?_eq_getElem wa];exact List.getElem_mem wa
 have C9:execOp a.eval o=(do Instr.mapUpdate t (a.eval x) (a.eval y) (a.eval z);pure .skip):=by simp [execOp,ho]
 rw [V4,gP,kW] at C9
 refine (bj C9 A7 ⟨β,F,fun _ _=>rfl,hR.redo hβ (by rw [hr];simp) (by simp [setBlock]) ⟨rfl,rfl,rfl⟩ (fun j hj=>J9 j fun e=>hj (e ▸ zJ)) ⟨hd,hβ,by rw [hlen];exact e2,by rw [hlen];exact e3,e4,e5,fun j hj=>?_,?_⟩ (fun _ _ _ _ h=>by cases h) (.imm (.any _))⟩)
 ·rw [hlen] at hj
  have Ab:j < cs.length:=by rw [e3];exact hj
  by_cases e:j=i
  ·subst e
   rw [hc,Go.ChangeMaps.heap_setBlock_same hb _]
   simp [List.getD,hj]
  ·have R9:cs.getD j 0≠c:=fun h=>e (DE e5 Ab wa (by
    rw [<- hc,List.getD,List.getD,List.getElem?_eq_getElem wa,List.getElem?_eq_getElem Ab] at h;exact h))
   rw [J9 _ R9,e6 j hj]
   have:(l.set i (Y3 (l.getD i []) u)).getD j []=l.getD j []:=by simp [List.getD,List.getElem?_set,Ne.symm e]
   rw [this]
 ·rcases e7 with ⟨g1,_⟩|⟨b,vs,g1,g2,g3,g4,g5,g6,g7⟩
  ·rw [g1] at hi;cases hi
  ·exact .inr ⟨b,vs,g1,g2,by rw [J9 b fun e=>g2 (e ▸ CL)];exact g3,by rw [hlen];exact g4,g5,g6,fun j hj=>g7 j (by rwa [hlen] at hj)⟩
theorem sM {o:Oper} {t k e:TypeId} {x y z:Operand} {id c:Nat} {ty:TypeId} {l:List (List Int)} {cs:List Nat} {i:Nat} {u:Int} (ho:o.op = .mapUpdate t x y z) (hu:P.underlying t=some (.map k e)) (hk:P.underlying k=some (.int .i64))
  (hx:S.get x = .mapv c) (hy:S.get y = .int .i64 u) (hz:S.get z = .tt) (hr:S.row id = .opq (J8 ty l cs)) (hi:i < l.length) (hc:cs.getD i 0=c) (hs:∀ v ∈ l.getD i [],(Lit.int .i64 v).wf=true) (hw:(Lit.int .i64 u).wf=true) :
  ∀ S':St,(∀ x ∈ x8 o.op,S'.get x=S.get x)->(∀ i ∈ [id],S'.row i=S.row i)->iD P o S' ⟨.any,[(id,.opq (J8 ty (l.set i (Y3 (l.getD i []) u)) cs))]⟩:=fun S' q1 q2=>sL ho hu hk ((q1 x (by rw [ho];simp [x8,Op.operands])).trans hx) ((q1 y (by rw [ho];simp [x8,Op.operands])).trans hy) ((q1 z (by rw [ho];simp [x8,Op.operands])).trans hz) ((q2 id (by simp)).trans hr) hi hc hs hw
def ki (P:Program) (e:TypeId):Bool:=match P.info? e with
 | none=>false
 | some i=>Nat.beq i.size 1 && (Nat.ble i.bytes 64 && match i.zero with
  | none=>false
  | some z=>Nat.beq z.cells.size 1)
theorem yE {e:TypeId} (h:ki P e=true):∃ i z,P.info? e=some i/\i.size=1/\i.bytes<=64/\i.zero=some z/\z.cells.size=1:=by
 unfold ki at h
 split at h
 ·cases h
 ·rename_i i hi
  simp only [Bool.and_eq_true] at h
  obtain ⟨h1,h2,h3⟩:=h
  split at h3
  ·cases h3
  ·rename_i z hz
   exact ⟨i,z,hi,Nat.eq_of_beq_eq_true h1,Nat.le_of_ble_eq_true h2,hz,Nat.eq_of_beq_eq_true h3⟩
theorem og {o:Oper} {c:Call} {s x:Operand} {t e CC:TypeId} {d id q dm cm:Nat} {l:List (List Int)} (hu:P.underlying t=some (.slice e)) (hB:ki P e=true) (ho:o.op = .call c) (hb:c.callee = .builtin .append) (pf:c.args.toList=[s,x]) (uy:c.argTypes.toList=[t,t])
  (hd:o.dst=some d) (hk:u3 S d=true)
  (wO:(S.kill d).get s = .own id) (fR:(S.kill d).get x = .own q) (hr:∀ β F w,s9 β F w id ((S.kill d).row id)->s9 β F w id (.opq (Y4 e l))) (IM:(S.kill d).row id ≠ .none) (hq:(S.kill d).row q = .lit CC 1 [[.mapv cm]]) (hm:(S.kill d).row dm = .opq (Bj cm [])) (R9:Nat.beq id dm=false) (hlen:l.length + 1<=1048576) :
  X8 P o S (fun S'=>S'=(S.kill d).put (some d) ⟨.own d,[(id,.none),(dm,.none),(d,.opq (Y4 e (l++[[]])))]⟩):=by
 obtain ⟨i,z,h1,h2,h3,h4,h5⟩:=yE hB
 exact qu ho hb pf uy hd hk hu h1 h2 h3 h4 h5 wO fR hr IM hq hm (fun e=>by rw [e,Nat.beq_refl] at R9;cases R9) hlen
theorem sN {o:Oper} {t e:TypeId} {x y:Operand} {id i:Nat} {ty:TypeId} {l:List (List Int)} {cs:List Nat} (hu:P.underlying t=some (.slice e)) (hB:ki P e=true) (ho:o.op = .indexAddr t x y)
  (hx:S.get x = .own id) (hr:S.row id = .opq (J8 ty l cs)) (hy:S.get y = .int .i64 i) (hl:i < l.length):∀ S':St,(∀ x ∈ x8 o.op,S'.get x=S.get x)->(∀ i ∈ [id],S'.row i=S.row i)->iD P o S' ⟨.ptr id 1 i 0,[]⟩:=by
 obtain ⟨i,z,h1,h2,h3,h4,h5⟩:=yE hB
 exact vD ho hu h1 h2 hx hr hy hl
theorem qw {o:Oper} {t e:TypeId} {x y:Operand} {id i:Nat} {ty:TypeId} {l:List (List Int)} {cs:List Nat} (hu:P.underlying t=some (.slice e)) (hB:ki P e=true) (ho:o.op = .indexAddr t x y)
  (hx:S.get x = .own id) (hr:S.row id = .opq (J8 ty l cs)) (hy:S.get y = .int .i64 i) (hl:i < l.length):X8 P o S (fun S'=>S'=S.put o.dst ⟨.ptr id 1 i 0,[]⟩):=by
 obtain ⟨i,z,h1,h2,h3,h4,h5⟩:=yE hB
 exact sI ho hu h1 h2 hx hr hy hl
theorem sO {s:List Int} {j:Nat} (hj:j < s.length):s.getD j 0=s[j]:=by
 rw [List.getD,List.getElem?_eq_getElem hj,Option.getD_some]
theorem sP (s:List Int):((G3 s).toList.map (·.born)).Nodup:=by
 have:(G3 s).toList.map (·.born)=List.range s.length:=by
  apply List.ext_getElem (by simp [G3])
  intro i h1 h2
  simp [G3]
 rw [this]
 exact List.nodup_range
theorem sQ {o:Oper} {x:Operand} {id d c i j:Nat} {ty:TypeId} {l:List (List Int)} {cs seen:List Nat} (ho:o.op = .entry x) (hx:S.get x = .ptr d 1 0 0) (hr:S.row id = .opq (J8 ty l cs)) (hi:i < l.length) (hc:cs.getD i 0=c)
  (hd:S.row d = .opq (mD c (l.getD i []).length (seen++[j]))) (hj:j < (l.getD i []).length):X8 P o S (fun S'=>S'=S.put o.dst ⟨.tup [.int .i64 ((l.getD i []).getD j 0),.tt],[]⟩):=by
 intro B w0 F0 β F a w Q hR
 have V4:=hR.get x
 rw [hx] at V4
 obtain ⟨Gy,r,hβ,Db,V4⟩:=V4.ptr_inv
 have o9:=hR.rows id
 rw [hr] at o9
 obtain ⟨dI,_,_,_,_,_,e6,_⟩:=o9
 have hb:=e6 i hi
 rw [hc] at hb
 have o9:=hR.rows d
 rw [hd] at o9
 obtain ⟨iC,f1,r',f2,f3,f4⟩:=o9
 rw [hβ] at f1
 cases f1
 rw [Db] at f2
 cases f2
 have C9:execOp a.eval o=(do pure (.value (<- Instr.entry (a.eval x)))):=by simp [execOp,ho]
 rw [V4] at C9
 have f5:w.heap[r]? = some (.mapIter (some c) (l.getD i []).length (seen.toArray.push j) (l.getD i []).length):=by rw [f4,show seen.toArray.push j=(seen++[j]).toArray from (by apply Array.ext'; simp)]
 have A7:=run_entry_at (P:=P) w r c (l.getD i []).length seen.toArray (G3 (l.getD i [])) (l.getD i []).length ⟨.int .i64 (l.getD i [])[j],.bool true,j⟩ f5 hb (aW.2 ⟨j,hj,rfl⟩) (sP _)
 refine D7 (by rw [ho];nofun) (C4 C9 A7 ⟨_,rfl,β,F,hR.still (.tup rfl fun p hp=>?_)⟩)
 have hp:p < 2:=by simpa using hp
 match p,hp with
 | 0,_ =>
  have e:=sO hj
  rw [e]
  exact .imm (.int _ _)
 | 1,_=>exact .imm .tt
theorem oh (h:List Row) (i:Nat) (r:Row) (hr:h.getD i .none=r):h.set i r=h:=by
 apply List.ext_getElem?
 intro k
 rw [List.getElem?_set]
 split
 ·rename_i e
  subst e
  split
  ·rename_i hl
   rw [<- hr,List.getD,List.getElem?_eq_getElem hl,Option.getD_some]
  ·rename_i hl
   rw [List.getElem?_eq_none (by omega)]
 ·rfl
theorem ft (h:List Row):∀ (ids:List Nat) (rows:List Row),ids.map (fun i=>h.getD i .none)=rows->m0 h (ids.zip rows)=h
 | [],rows,_=>by cases rows<;>rfl
 | i :: ids,[],e=>by cases e
 | i :: ids,r :: rows,e=>by
  have e1:h.getD i .none=r:=(List.cons.inj e).1
  have e2:=(List.cons.inj e).2
  show m0 (h.set i r) (ids.zip rows)=h
  rw [oh h i r e1]
  exact ft h ids rows e2
theorem yF {o:Oper} {c:Call} {f:Operand} (ho:o.op = .call c) (hb:c.callee = .value f) {bk:FuncId} {first u4:List AV} {ids:List Nat} {E5:List AV} {ins:List Row} {res:AV} (wZ:PW P bk E5 ins res ins) (wj:wB ids [] E5 ins ins res=true)
  (hg:S.get f = .fn (.func bk) first u4) (N1:first++c.args.toList.map S.get++u4=P8 ids E5) (db:ids.map S.row=ins.map (x6 ids)):iD P o S ⟨res.ren ids,[]⟩:=by
 intro B w0 F0 β F a w Q hR u5
 have hlen:ids.length=ins.length:=by
  simp only [wB,Bool.and_eq_true] at wj
  obtain ⟨⟨⟨⟨⟨⟨_,b2⟩,_⟩,_⟩,_⟩,_⟩,_⟩:=wj
  exact Nat.eq_of_beq_eq_true b2
 refine Oper.wp_mono ?_ (dL hR ho hb hg (news:=[]) (fun d hd=>absurd hd (List.not_mem_nil)) wZ N1 db wj)
 rintro a' w' ⟨β',F',F7,eN,v5⟩
 have e:S.put o.dst ⟨res.ren (ids++[]),(ids++[]).zip (ins.map (x6 (ids++[])))⟩=S.put o.dst ⟨res.ren ids,[]⟩:=by
  rw [List.append_nil]
  show (⟨V0 S.t o.dst (res.ren ids),m0 S.h (ids.zip (ins.map (x6 ids))),S.n⟩:St)=⟨V0 S.t o.dst (res.ren ids),S.h,S.n⟩
  rw [ft S.h ids _ db]
 rw [e] at F7
 refine ⟨β',F',fun j hj=>eN j ?_,F7⟩
 by_cases hm:j ∈ ids
 ·obtain ⟨k,hk,e⟩:=List.getElem_of_mem hm
  have:=v5 k hk
  rw [List.getD,List.getElem?_eq_getElem hk,Option.getD_some,e] at this
  exact .inr this
 ·exact .inl (by rwa [List.append_nil])
theorem yG {o:Oper} {c:Call} {f:Operand} {bk:FuncId} {first u4:List AV} {ids:List Nat} {E5:List AV} {ins:List Row} {res:AV} (wZ:PW P bk E5 ins res ins) (ho:o.op = .call c) (hb:c.callee = .value f)
  (hg:S.get f = .fn (.func bk) first u4) (N1:first++c.args.toList.map S.get++u4=P8 ids E5) (db:ids.map S.row=ins.map (x6 ids)) (wj:wB ids [] E5 ins ins res=true) :
  ∀ S':St,(∀ x ∈ x8 o.op,S'.get x=S.get x)->(∀ i ∈ ids,S'.row i=S.row i)->iD P o S' ⟨res.ren ids,[]⟩:=by
 intro S' q1 q2
 have ef:S'.get f=S.get f:=q1 f (by rw [ho];simp [x8,Op.operands,Call.operands,hb])
 have em:c.args.toList.map S'.get=c.args.toList.map S.get:=List.map_congr_left fun x hx=>q1 x (by rw [ho];simp only [x8,Op.operands,Call.operands,Array.toList_append];exact List.mem_append_right _ hx)
 have er:ids.map S'.row=ids.map S.row:=List.map_congr_left fun i hi=>q2 i hi
 exact yF ho hb wZ wj (ef.trans hg) (by rw [em];exact N1) (er.trans db)
end

end Go.Ev
