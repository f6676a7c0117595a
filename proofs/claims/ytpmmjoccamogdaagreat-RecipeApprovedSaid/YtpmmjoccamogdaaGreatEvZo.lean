/- Maps from whole numbers to 'true', told exactly: the keys in the order in which they came. A helper text: it speaks of no program. -/
import Derived.Test.YtpmmjoccamogdaaGreatEvZn
import Derived.Maps.RangeRun
import Derived.Maps.Keyed
set_option linter.unusedVariables false
set_option linter.unusedSimpArgs false
namespace Go.Ev
open Go.ChangeMaps (setBlock)
def G3 (s:List Int):Array MapEntry:=(s.mapIdx fun i u=>(⟨.int .i64 u,.bool true,i⟩:MapEntry)).toArray
def Y3 (s:List Int) (u:Int):List Int:=if u ∈ s then s else s++[u]
theorem aW {s:List Int} {e:MapEntry}:e ∈ (G3 s).toList↔∃ i,∃ h:i < s.length,e=⟨.int .i64 s[i],.bool true,i⟩:=by
 simp only [G3,List.mem_mapIdx]
 constructor
 ·rintro ⟨i,h,rfl⟩;exact ⟨i,h,rfl⟩
 ·rintro ⟨i,h,rfl⟩;exact ⟨i,h,rfl⟩
theorem sE (s:List Int) (u:Int):G3 (s++[u])=(G3 s).push ⟨.int .i64 u,.bool true,s.length⟩:=by
 simp [G3,List.mapIdx_append]
theorem sF (s:List Int):(G3 s).size=s.length:=by simp [G3]
theorem gy {s:List Int} {i:Nat} (h:i < s.length):(G3 s)[i]? = some ⟨.int .i64 s[i],.bool true,i⟩:=by
 simp [G3,h]
variable {P:Program} {t k e:TypeId} {w:World}
theorem mC (hk:P.underlying k=some (.int .i64)) {u:Int} (hw:(Lit.int .i64 u).wf=true):keyOf P k (.int .i64 u)=some (.int .i64 u):=by
 simp [keyOf,hk,mapKey,hw]
theorem ke (hk:P.underlying k=some (.int .i64)) (ht:P.underlying t=some (.map k e)) {c:Nat} {s:List Int} (hs:∀ u ∈ s,(Lit.int .i64 u).wf=true) (hb:w.heap[c]? = some (.map (G3 s) s.length)) {u:Int} (hu:(Lit.int .i64 u).wf=true) :
  (Instr.mapUpdate t (.map (some c)) (.int .i64 u) (.bool true)).run P w = .ok () (setBlock w c (.map (G3 (Y3 s u)) (Y3 s u).length)):=by
 have K:Go.Maps.Keyed P k:=Go.Maps.int_keyed hk
 have Bf:=mC hk hu
 have FT:∀ x ∈ (G3 s).toList,∃ l,keyOf P k x.key=some l:=fun x hx=>by
  obtain ⟨i,h,rfl⟩:=aW.1 hx
  exact ⟨_,mC hk (hs _ (List.getElem_mem h))⟩
 rcases K.find w Bf (G3 s).toList FT with ⟨h1,h2⟩|⟨j,e0,h1,h2,h3⟩
 ·have hn:u ∉ s:=fun h=>by
   obtain ⟨i,hi,rfl⟩:=List.mem_iff_getElem.1 h
   exact h2 _ (aW.2 ⟨i,hi,rfl⟩) rfl
  have:Y3 s u=s++[u]:=if_neg hn
  rw [this,sE]
  simp [Instr.mapUpdate,run_underlying ht,MapKept.run_getObj_map hb,K.check w false Bf,h1,MapKept.run_setObj_map _ hb,Result.andThen,setBlock]
 ·have hj:j < s.length:=by
   have:=(List.getElem?_eq_some_iff.1 h2).1
   simpa [sF] using this
  have Gp:(G3 s)[j]? = some e0:=by simpa using h2
  rw [gy hj] at Gp
  cases Gp
  have EP:s[j]=u:=by simpa using h3
  have hm:u ∈ s:=EP ▸ List.getElem_mem hj
  have:Y3 s u=s:=if_pos hm
  rw [this]
  have IL:(G3 s).modify j (fun e=>{ e with key := .int .i64 u,val := .bool true })=G3 s:=by
   refine Array.ext (by simp) fun i h1 h2=>?_
   rw [Array.getElem_modify]
   split
   ·rename_i ei
    subst ei
    have:=gy hj
    rw [Array.getElem?_eq_getElem h2] at this
    rw [Option.some.inj this,EP]
   ·rfl
  have dY:=K.stays w Bf
  have hg:((G3 s)[j]?.map (·.key)).getD (.int .i64 u) = .int .i64 u:=by rw [gy hj,EP];rfl
  simp only [Instr.mapUpdate,Sem.run_bind,run_underlying ht,MapKept.run_getObj_map hb,K.check w false Bf,h1,Result.andThen,hg,dY,IL]
  exact MapKept.run_setObj_map _ hb
theorem oe (ty:TypeId) {r c:Nat} {s:List Int} {seen:List Nat} (hr:w.heap[r]? = some (.mapIter (some c) s.length seen.toArray s.length)) (hb:w.heap[c]? = some (.map (G3 s) s.length)) :
  ((∀ i,i < s.length->i ∈ seen)/\(Instr.next (.pointer (some ⟨r,0,none⟩)) false ty).run P w = .ok (.tuple #[.bool false]) w) ∨
  ∃ i,i < s.length/\i ∉ seen/\∃ w1:World,(w1=w∨w1=w.drew)/\(Instr.next (.pointer (some ⟨r,0,none⟩)) false ty).run P w = .ok (.tuple #[.bool true,.int .i64 (s.getD i 0),.bool true]) (setBlock w1 r (.mapIter (some c) s.length (seen++[i]).toArray s.length)):=by
 have pH:∀ x,x ∈ (leftOf (G3 s) seen.toArray).toList↔∃ i,∃ h:i < s.length,x=⟨.int .i64 s[i],.bool true,i⟩/\i ∉ seen:=fun x=>by
  unfold leftOf
  rw [Array.toList_filter,List.mem_filter,aW]
  constructor
  ·rintro ⟨⟨i,h,rfl⟩,h2⟩;exact ⟨i,h,rfl,by simpa using h2⟩
  ·rintro ⟨i,h,rfl,h2⟩;exact ⟨⟨i,h,rfl⟩,by simpa using h2⟩
 rcases run_next_at (P:=P) w ty r c s.length s.length seen.toArray (G3 s) s.length hr hb (fun x hx=>by obtain ⟨i,h,rfl⟩:=aW.1 hx;exact h) (Nat.le_refl _) with ⟨h0,A7⟩|⟨e,he,w1,eC,A7⟩
 ·refine .inl ⟨fun i hi=>Classical.byContradiction fun hn=>?_,A7⟩
  have:=(pH _).2 ⟨i,hi,rfl,hn⟩
  rw [Array.eq_empty_of_size_eq_zero h0] at this
  simp at this
 ·obtain ⟨i,hi,rfl,hn⟩:=(pH e).1 he
  refine .inr ⟨i,hi,hn,w1,eC,?_⟩
  rw [A7]
  simp [List.getD,hi]
def J8 (ty:TypeId) (l:List (List Int)) (cs:List Nat):zR where
 Φ F hd w:=hd.len=l.length/\cs.length=l.length/\(∀ i,(hd.m i).1=cs[i]?)/\cs.Nodup/\(∀ i,i < l.length->w.heap[cs.getD i 0]? = some (.map (G3 (l.getD i [])) (l.getD i []).length)) /\
  ((l=[]/\hd.b=none/\hd.cap=0)∨∃ b vs,hd.b=some b/\b ∉ cs/\w.heap[b]? = some (.cells vs ty (0,0))/\l.length<=hd.cap/\hd.cap<=maxLen/\vs.size=hd.cap/\∀ i,i < l.length->vs.getD i undef = .map (some (cs.getD i 0)))
 st F F' hd w w' _ _ hb h:=by
  obtain ⟨h1,h2,h3,h4,h5,h6⟩:=h
  refine ⟨h1,h2,h3,h4,fun i hi=>?_,?_⟩
  ·rw [hb _ (N5 (k:=i) (by rw [h3,List.getD,List.getElem?_eq_getElem (h2 ▸ hi)];rfl))];exact h5 i hi
  ·rcases h6 with h6|⟨b,vs,g1,g2,g3,g4⟩
   ·exact .inl h6
   ·exact .inr ⟨b,vs,g1,g2,by rw [hb b (w8 g1)];exact g3,g4⟩
 fr F hd w b h hb:=by
  obtain ⟨h1,h2,h3,h4,h5,h6⟩:=h
  rcases hb with hb|⟨i,hb⟩
  ·rcases h6 with ⟨_,g,_⟩|⟨b',vs,g1,_,g3,_⟩
   ·rw [g] at hb;cases hb
   ·rw [g1] at hb;cases hb;exact ⟨_,g3,rfl⟩
  ·rw [h3] at hb
   obtain ⟨hi,e⟩:=List.getElem?_eq_some_iff.1 hb
   have:=h5 i (h2 ▸ hi)
   rw [List.getD,List.getElem?_eq_getElem hi,e] at this
   exact ⟨_,this,rfl⟩
def Y4 (ty:TypeId) (l:List (List Int)):zR where
 Φ F hd w:=∃ cs,(J8 ty l cs).Φ F hd w
 st F F' hd w w' k1 k2 hb h:=by obtain ⟨cs,h⟩:=h;exact ⟨cs,(J8 ty l cs).st F F' hd w w' k1 k2 hb h⟩
 fr F hd w b h hb:=by obtain ⟨cs,h⟩:=h;exact (J8 ty l cs).fr F hd w b h hb
def mD (c n:Nat) (seen:List Nat):zR where
 Φ F hd w:=∃ r,hd.b=some r/\hd.m=bd/\w.heap[r]? = some (.mapIter (some c) n seen.toArray n)
 st F F' hd w w' _ _ hb h:=by obtain ⟨r,h1,h2,h3⟩:=h;exact ⟨r,h1,h2,by rw [hb r (w8 h1)];exact h3⟩
 fr F hd w b h hb:=by obtain ⟨r,h1,h2,h3⟩:=h;rw [X4 h2,h1] at hb;cases hb;exact ⟨_,h3,rfl⟩

end Go.Ev
