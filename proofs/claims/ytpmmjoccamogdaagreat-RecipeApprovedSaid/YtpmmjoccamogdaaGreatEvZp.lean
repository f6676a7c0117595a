/- Operations on maps, walked by hand. A helper text: it speaks of no program. -/
import Derived.Test.YtpmmjoccamogdaaGreatEvZo
import Derived.Carry
set_option linter.unusedVariables false
set_option linter.unusedSimpArgs false
namespace Go.Ev
open Go.ChangeMaps (setBlock)
def Bj (c:Nat) (s:List Int):zR where
 Φ F hd w:=hd.b=some c/\hd.m=bd/\w.heap[c]? = some (.map (G3 s) s.length)
 st F F' hd w w' _ _ hb h:=by obtain ⟨h1,h2,h3⟩:=h;exact ⟨h1,h2,by rw [hb c (w8 h1)];exact h3⟩
 fr F hd w b h hb:=by obtain ⟨h1,h2,h3⟩:=h;rw [X4 h2,h1] at hb;cases hb;exact ⟨_,h3,rfl⟩
section
variable {P:Program} {S:St}
theorem v7.mapv_inv {β:Nat->Option Hd} {F:Nat->Prop} {w:World} {c:Nat} {v:Value} (h:v7 β F w (.mapv c) v):v = .map (some c):=by
 cases h with|imm h=>cases h;rfl
theorem vx {o:Oper} {t:TypeId} {d:Nat} (ho:o.op = .makeMap t none) (hd:o.dst=some d) (hk:u3 S d=true) :
  X8 P o S (fun S'=>∃ c,S'=(S.kill d).put (some d) ⟨.mapv c,[(d,.opq (Bj c []))]⟩):=by
 intro B w0 F0 β F a w Q hR
 obtain ⟨β1,h1,h2,bn⟩:=hR.kill d (hR.topn d hk)
 refine D7 (by rw [ho];nofun) (V3 (v := .map (some w.heap.size)) (w':=w.alloc (.map #[] 0)) ?_ ?_)
 ·simp [execOp,ho];rfl
 ·obtain ⟨β2,F2,q1,q2⟩:=bn.retieV (d:=d) h1 (cons:=[]) (dst:=o.dst) (hd':=⟨some w.heap.size,0,0,bd⟩) (r := .opq (Bj w.heap.size [])) (w':=w.alloc (.map #[] 0)) (v := .map (some w.heap.size)) (x := .mapv w.heap.size)
   (by simp) ⟨rfl,rfl,rfl⟩ (fun k hk _=>RowKit.Below.heap_alloc w _ k hk) (fun b hb=>by
    rw [F8] at hb
    cases hb
    exact ⟨by simp,.inr (Nat.le_refl _)⟩) (fun β' dF _ _=>⟨_,dF,rfl,rfl,heap_alloc_new w _⟩) (fun _ _ _ _ h=>by cases h) (fun β' h => .imm (.mapv _))
  rw [hd] at q2
  exact ⟨_,⟨_,rfl⟩,β2,F2,by rw [hd];exact q2⟩
theorem sI {o:Oper} {t e:TypeId} {x y:Operand} {id i:Nat} {ty:TypeId} {l:List (List Int)} {cs:List Nat} (ho:o.op = .indexAddr t x y) (hu:P.underlying t=some (.slice e)) {inf:TypeInfo} (hi:P.info? e=some inf) (h1:inf.size=1)
  (hx:S.get x = .own id) (hr:S.row id = .opq (J8 ty l cs)) (hy:S.get y = .int .i64 i) (hl:i < l.length):X8 P o S (fun S'=>S'=S.put o.dst ⟨.ptr id 1 i 0,[]⟩):=by
 intro B w0 F0 β F a w Q hR
 have V4:=hR.get x
 have gP:=hR.get y
 rw [hx] at V4
 rw [hy] at gP
 obtain ⟨hd,hβ,hv⟩:=V4.own_inv
 have gP:=gP.int_inv
 have o9:=hR.rows id
 rw [hr] at o9
 obtain ⟨hd',e1,e2,e3,e4,e5,e6,e7⟩:=o9
 rw [hβ] at e1
 cases e1
 rcases e7 with ⟨g1,_⟩|⟨b,vs,g1,g2,g3,g4,g5,g6,g7⟩
 ·rw [g1] at hl;cases hl
 have C9:execOp a.eval o=(do pure (.value (<- Instr.indexAt t (a.eval x) (a.eval y)))):=by simp [execOp,ho]
 rw [gP,hv,g1,e2] at C9
 have A7:(Instr.indexAt t (.slice ((some b).map fun b=>⟨b,0,none⟩) l.length hd.cap) (.int .i64 i)).run P w = .ok (.pointer (some ⟨b,i * 1 + 0,none⟩)) w:=by
  have h0:(0:Int)<=i:=by omega
  have h2:(i:Int) < (l.length:Nat):=by omega
  simp [Instr.indexAt,run_underlying hu,asIntOf,h0,h2,sizeOf,typeInfo,hi,G0,h1,hl]
 exact D7 (by rw [ho];nofun) (C4 C9 A7 ⟨_,rfl,β,F,hR.still (.ptr hβ g1)⟩)
theorem sJ {o:Oper} {t k e:TypeId} {x:Operand} {d id c:Nat} {ty:TypeId} {l:List (List Int)} {cs:List Nat} {i:Nat} (ho:o.op = .range t x) (hd:o.dst=some d) (hk:u3 S d=true) (hu:P.underlying t=some (.map k e))
  (hx:S.get x = .mapv c) (hr:S.row id = .opq (J8 ty l cs)) (hi:i < l.length) (hc:cs.getD i 0=c):X8 P o S (fun S'=>S'=(S.kill d).put (some d) ⟨.ptr d 1 0 0,[(d,.opq (mD c (l.getD i []).length []))]⟩):=by
 intro B w0 F0 β F a w Q hR
 have V4:a.eval x = .map (some c):=by
  have:=hR.get x
  rw [hx] at this
  exact this.mapv_inv
 have o9:=hR.rows id
 rw [hr] at o9
 obtain ⟨hd',e1,e2,e3,e4,e5,e6,e7⟩:=o9
 have hb:=e6 i hi
 rw [hc] at hb
 obtain ⟨β1,h1,h2,bn⟩:=hR.kill d (hR.topn d hk)
 have A7:=run_range_map (P:=P) w t k e c (G3 (l.getD i [])) (l.getD i []).length hu hb
 refine D7 (by rw [ho];nofun) (V3 (v := .pointer (some ⟨w.heap.size,0,none⟩)) (w':=w.alloc (.mapIter (some c) (l.getD i []).length #[] (l.getD i []).length)) ?_ ?_)
 ·simp [execOp,ho,V4,A7,Result.andThen]
 ·obtain ⟨β2,F2,q1,q2⟩:=bn.retieV (d:=d) h1 (cons:=[]) (dst:=o.dst) (hd':=⟨some w.heap.size,0,0,bd⟩) (r := .opq (mD c (l.getD i []).length [])) (w':=w.alloc (.mapIter (some c) (l.getD i []).length #[] (l.getD i []).length)) (v := .pointer (some ⟨w.heap.size,0,none⟩)) (x := .ptr d 1 0 0)
   (by simp) ⟨rfl,rfl,rfl⟩ (fun k hk _=>RowKit.Below.heap_alloc w _ k hk) (fun b hb=>by
    rw [F8] at hb
    cases hb
    exact ⟨by simp,.inr (Nat.le_refl _)⟩) (fun β' dF _ _=>⟨_,dF,_,rfl,rfl,heap_alloc_new w _⟩) (fun _ _ _ _ h=>by cases h) (fun β' h=>by have:=v7.ptr (F:=F) (w:=w.alloc (.mapIter (some c) (l.getD i []).length #[] (l.getD i []).length)) (sz:=1) (i:=0) (off:=0) h rfl;simpa using this)
  rw [hd] at q2
  exact ⟨_,rfl,β2,F2,by rw [hd];exact q2⟩
theorem DE {l:List Nat} (h:l.Nodup) {i j:Nat} (hi:i < l.length) (hj:j < l.length) (e:l[i]=l[j]):i=j:=by
 have h:=List.pairwise_iff_getElem.1 h
 rcases Nat.lt_trichotomy i j with q|q|q
 ·exact absurd e (h i j hi hj q)
 ·exact q
 ·exact absurd e.symm (h j i hj hi q)
theorem vy {o:Oper} {x:Operand} {id d c i:Nat} {ty:TypeId} {l:List (List Int)} {cs seen:List Nat} (ho:o.op = .next x false) (hx:S.get x = .ptr d 1 0 0) (hr:S.row id = .opq (J8 ty l cs)) (hi:i < l.length) (hc:cs.getD i 0=c)
  (hd:S.row d = .opq (mD c (l.getD i []).length seen)):X8 P o S (fun S'=>((∀ j,j < (l.getD i []).length->j ∈ seen)/\S'=S.put o.dst ⟨.tup [.ff],[]⟩) ∨
   ∃ j,j < (l.getD i []).length/\j ∉ seen/\S'=S.put o.dst ⟨.tup [.tt,.int .i64 ((l.getD i []).getD j 0),.tt],[(d,.opq (mD c (l.getD i []).length (seen++[j])))]⟩):=by
 intro B w0 F0 β F a w Q hR
 have V4:=hR.get x
 rw [hx] at V4
 obtain ⟨Gy,r,hβ,Db,V4⟩:=V4.ptr_inv
 have o9:=hR.rows id
 rw [hr] at o9
 obtain ⟨dI,_,_,_,_,_,e6,_⟩:=o9
 have hb:=e6 i hi
 rw [hc] at hb
 have o9:=hR.rows d
 rw [hd] at o9
 obtain ⟨iC,f1,r',f2,f3,f4⟩:=o9
 rw [hβ] at f1
 cases f1
 rw [Db] at f2
 cases f2
 have C9:execOp a.eval o=(do pure (.value (<- Instr.next (a.eval x) false o.type))):=by simp [execOp,ho]
 rw [V4] at C9
 rcases oe (P:=P) o.type f4 hb with ⟨h1,A7⟩|⟨j,h1,h2,w1,eC,A7⟩
 ·refine D7 (by rw [ho];nofun) (C4 C9 A7 ⟨_,.inl ⟨h1,rfl⟩,β,F,hR.still (.tup rfl fun p hp=>?_)⟩)
  have:p=0:=by simpa using hp
  subst this
  exact .imm .ff
 ·have bn:Rel B w0 F0 S β F a w1:=by
   rcases eC with rfl|rfl
   ·exact hR
   ·exact hR.drew 1
  have hh:w1.heap=w.heap:=by rcases eC with rfl|rfl<;>rfl
  have Iv:w1.heap[r]? = some (.mapIter (some c) (l.getD i []).length seen.toArray (l.getD i []).length):=by rw [hh];exact f4
  have oW:=Go.MapKept.heap_set (o' := .mapIter (some c) (l.getD i []).length (seen++[j]).toArray (l.getD i []).length) Iv
  refine D7 (by rw [ho];nofun) (C4 C9 A7 ⟨_,.inr ⟨j,h1,h2,rfl⟩,β,F,bn.redo hβ (by rw [hd];simp) (by simp [setBlock]) ⟨rfl,rfl,rfl⟩ (fun q hq=>oW.2 q fun e=>hq (e ▸ w8 Db)) ⟨Gy,hβ,r,Db,f3,oW.1⟩ (fun _ _ _ _ h=>by cases h) (.tup rfl fun p hp=>?_)⟩)
  have hp:p < 3:=by simpa using hp
  match p,hp with
  | 0,_=>exact .imm .tt
  | 1,_=>exact .imm (.int _ _)
  | 2,_=>exact .imm .tt
theorem vz {o:Oper} {t k e:TypeId} {x:Operand} {id i:Nat} {ty:TypeId} {l:List (List Int)} {cs:List Nat} (ho:o.op = .load t x) (hu:P.underlying t=some (.map k e)) (hx:S.get x = .ptr id 1 i 0) (hr:S.row id = .opq (J8 ty l cs)) (hi:i < l.length) :
  X8 P o S (fun S'=>S'=S.put o.dst ⟨.mapv (cs.getD i 0),[]⟩):=by
 intro B w0 F0 β F a w Q hR
 have V4:=hR.get x
 rw [hx] at V4
 obtain ⟨hd,b,hβ,hb,V4⟩:=V4.ptr_inv
 have o9:=hR.rows id
 rw [hr] at o9
 obtain ⟨dI,f1,e2,e3,e4,e5,e6,e7⟩:=o9
 rw [hβ] at f1
 cases f1
 rcases e7 with ⟨g1,_⟩|⟨b',vs,g1,g2,g3,g4,g5,g6,g7⟩
 ·rw [g1] at hi;cases hi
 rw [hb] at g1
 cases g1
 have B7:=A6 (i:=i) g3 (by omega)
 rw [g7 i hi] at B7
 have C9:execOp a.eval o=(do pure (.value (<- Instr.loadAt t (a.eval x)))):=by simp [execOp,ho]
 rw [V4] at C9
 have A7:(Instr.loadAt t (.pointer (some ⟨b,i * 1 + 0,none⟩))).run P w = .ok (.map (some (cs.getD i 0))) w:=by
  rw [Nat.mul_one,Nat.add_zero]
  simp [Instr.loadAt,Instr.sureAddr,loadVar,isAgg,run_underlying hu,B7]
 exact D7 (by rw [ho];nofun) (C4 C9 A7 ⟨_,rfl,β,F,hR.still (.imm (.mapv _))⟩)
end

end Go.Ev
