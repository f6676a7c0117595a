/- A helper text: contracts of functions of the program, and plain lemmas. -/
import Derived.Test.YtdpnpdjnaimgaaaGreatEvTwo
import Derived.IntWalk
set_option linter.unusedVariables false
set_option linter.unusedSimpArgs false
/- Each operation does what its abstract twin says (sixth part): places in structs and slices, new slices. A helper text: it speaks of no program. -/
namespace Go.Ev
section
variable {P:Program} {B:Nat->Prop} {w0:World} {F0:Env P} {S:St} {β:Nat->Option Hd} {F:Nat->Prop} {a:Act} {w:World}
theorem a3D (hR:Rel B w0 F0 S β F a w) {o:Oper} {s:TypeId} {x:Operand} {f:Nat} (ho:o.op = .fieldAddr s x f) {K:Out->List Nat->Prop} (h:evOp P o.dst (.fieldAddr s x f) S.get S.row K) {Q:Exit->Act->World->Prop} :
  o.wp P a w (i7 B w0 F0 S β o.dst K) Q:=by
 simp only [evOp] at h
 split at h
 case h_2=>exact h.elim
 rename_i fs hu
 split at h
 case h_2=>exact h.elim
 rename_i fd hf
 split at h
 case h_2=>exact h.elim
 rename_i i hi
 split at h
 case h_1=>exact h.elim
 rename_i hz
 have hz':i.size≠0:=fun e=>by rw [e] at hz; simp at hz
 have hx:=hR.get x
 have ho':execOp a.eval o=(do pure (.value (<- Instr.fieldAt s (a.eval x) f))):=by simp [execOp,ho]
 have hrun:∀ b ob,(Instr.fieldAt s (.pointer (some ⟨b,ob,none⟩)) f).run P w = .ok (.pointer (some ⟨b,ob + fd.offset,none⟩)) w:=fun b ob=>by
  simp [Instr.fieldAt,run_underlying hu,hf,Instr.sureAddr,fieldPlace,sizeOf,typeInfo,hi,hz',E1]
 split at h
 ·rename_i cs off hg
  rw [hg] at hx
  obtain ⟨b,ob,g,hv,hc,hr⟩:=hx.pt_inv
  rw [hv] at ho'
  refine v7 ho' (hrun _ _) (i7.still hR (.imm ?_) h)
  rw [Nat.add_assoc]
  exact .pt g hc hr
 ·rename_i id sz j off hg
  rw [hg] at hx
  obtain ⟨hd,b,hb,hh,hv⟩:=hx.ptr_inv
  rw [hv] at ho'
  refine v7 ho' (hrun _ _) (i7.still hR ?_ h)
  rw [Nat.add_assoc]
  exact .ptr hb hh
 ·exact h.elim
theorem a6k (hR:Rel B w0 F0 S β F a w) {o:Oper} {x:Operand} {i:Nat} (ho:o.op = .extract x i) {K:Out->List Nat->Prop} (h:evOp P o.dst (.extract x i) S.get S.row K) {Q:Exit->Act->World->Prop} :
  o.wp P a w (i7 B w0 F0 S β o.dst K) Q:=by
 simp only [evOp] at h
 split at h
 case h_2=>exact h.elim
 rename_i l hg
 split at h
 case h_2=>exact h.elim
 rename_i hlt
 have hx:=hR.get x
 rw [hg] at hx
 obtain ⟨vs,hv,hl,hr⟩:=hx.tup_inv
 have hlt':i < l.length:=by simpa [Nat.blt_eq] using hlt
 have ho':execOp a.eval o=(do pure (.value (<- Instr.extract (a.eval x) i))):=by simp [execOp,ho]
 rw [hv] at ho'
 refine v7 ho' (v:=vs.getD i undef) (w':=w) ?_ (i7.still hR (hr i hlt') h)
 simp [Instr.extract,show i < vs.size by omega]
theorem a6l (hR:Rel B w0 F0 S β F a w) {o:Oper} {src t:TypeId} {x:Operand} (ho:o.op = .convert src t x) {K:Out->List Nat->Prop} (h:evOp P o.dst (.convert src t x) S.get S.row K) {Q:Exit->Act->World->Prop} :
  o.wp P a w (i7 B w0 F0 S β o.dst K) Q:=by
 simp only [evOp] at h
 split at h
 case h_2=>exact h.elim
 rename_i d k kk n hs ht hg
 have hx:=hR.get x
 rw [hg] at hx
 have ho':execOp a.eval o=(do pure (.value (<- convert src t (a.eval x)))):=by simp [execOp,ho]
 rw [hx.int_inv] at ho'
 exact v7 ho' (v := .int k (k.wrap n)) (w':=w) (by simp [convert,run_underlying hs,run_underlying ht,Conv.intToInt]) (i7.still hR (.imm (.int _ _)) h)
theorem w7 (hR:Rel B w0 F0 S β F a w) (xs:Array Operand):(xs.toList.map S.get).length=(xs.map a.eval).size/\∀ i,i < (xs.toList.map S.get).length->Rep β F w ((xs.toList.map S.get).getD i .any) ((xs.map a.eval).getD i undef):=by
 refine ⟨by simp,fun i hi => ?_⟩
 have hi':i < xs.size:=by simpa using hi
 have e1:(xs.toList.map S.get).getD i .any=S.get xs[i]:=by simp [List.getD,hi']
 have e2:(xs.map a.eval).getD i undef=a.eval xs[i]:=by simp [Array.getD_eq_getD_getElem?,hi']
 rw [e1,e2]
 exact hR.get _
theorem a40 (hR:Rel B w0 F0 S β F a w) {o:Oper} {f:Fn} {xs ys:Array Operand} (ho:o.op = .makeFunc f xs ys) {K:Out->List Nat->Prop} (h:evOp P o.dst (.makeFunc f xs ys) S.get S.row K) {Q:Exit->Act->World->Prop} :
  o.wp P a w (i7 B w0 F0 S β o.dst K) Q:=by
 simp only [evOp] at h
 have ho':execOp a.eval o=(do pure (.value (<- Instr.makeFunc f (xs.map a.eval) (ys.map a.eval)))):=by simp [execOp,ho]
 obtain ⟨h1,h2⟩:=w7 hR xs
 obtain ⟨h3,h4⟩:=w7 hR ys
 exact v7 ho' (v := .func f (xs.map a.eval) (ys.map a.eval)) (w':=w) (by simp [Instr.makeFunc]) (i7.still hR (.fn h1 h2 h3 h4) h)
theorem a41 (hR:Rel B w0 F0 S β F a w) {o:Oper} {x:Operand} (ho:o.op = .nilCheck x) {K:Out->List Nat->Prop} (h:evOp P o.dst (.nilCheck x) S.get S.row K) {Q:Exit->Act->World->Prop} :
  o.wp P a w (i7 B w0 F0 S β o.dst K) Q:=by
 simp only [evOp] at h
 have hx:=hR.get x
 split at h
 ·rename_i c cs off hg
  rw [hg] at hx
  obtain ⟨b,ob,g,hv,_,_⟩:=hx.pt_inv
  exact P9 (v:=a.eval x) (w':=w) (by simp [execOp,ho,hv]) (i7.still hR hx h)
 ·rename_i id sz j off hg
  rw [hg] at hx
  obtain ⟨hd,b,hb,hh,hv⟩:=hx.ptr_inv
  exact P9 (v:=a.eval x) (w':=w) (by simp [execOp,ho,hv]) (i7.still hR hx h)
 ·exact h.elim
theorem a98 (hR:Rel B w0 F0 S β F a w) {o:Oper} {t:TypeId} {x ix:Operand} (ho:o.op = .index t x ix) {K:Out->List Nat->Prop} (h:evOp P o.dst (.index t x ix) S.get S.row K) {Q:Exit->Act->World->Prop} :
  o.wp P a w (i7 B w0 F0 S β o.dst K) Q:=by
 simp only [evOp] at h
 split at h
 case h_2=>exact h.elim
 rename_i k n hn
 have hnv:=hR.get ix
 rw [hn] at hnv
 have ho':execOp a.eval o=(do pure (.value (<- Instr.index t (a.eval x) (a.eval ix)))):=by simp [execOp,ho]
 split at h
 ·rename_i s hg
  have hx:=hR.get x
  rw [hg] at hx
  split at h
  case h_2=>exact h.elim
  rename_i hu
  obtain ⟨⟨h0,h1⟩,h⟩:=(m0 _ _ _).1 h
  have hxv:a.eval x = .string s:=by
   generalize a.eval x=v at hx
   cases hx with | imm h=>cases h; rfl
  rw [hnv.int_inv,hxv] at ho'
  have hlt:n.toNat < s.size:=by omega
  have hb:s[n.toNat]? = some s[n.toNat]:=by simp [hlt]
  refine v7 ho' (v := .int .u8 (a1g s n.toNat)) (w':=w) ?_ (i7.still hR (.imm (.int _ _)) h)
  simp [Instr.index,run_underlying hu,asIntOf,h0,a1g,hb]
 ·rename_i l hg
  have hx:=hR.get x
  rw [hg] at hx
  split at h
  case h_2=>exact h.elim
  rename_i len e hu
  split at h
  case h_2=>exact h.elim
  rename_i inf d hi hd
  split at h
  case h_2=>exact h.elim
  rename_i hc
  simp only [Bool.and_eq_true,Bool.not_eq_true'] at hc
  obtain ⟨c1,c2,c3⟩:=hc
  have c2:=Nat.eq_of_beq_eq_true c2
  have c3:=Nat.eq_of_beq_eq_true c3
  obtain ⟨⟨h0,h1⟩,h⟩:=(m0 _ _ _).1 h
  obtain ⟨vs,hv,hl,hr⟩:=hx.agg_inv
  rw [hnv.int_inv,hv] at ho'
  have hlt:n.toNat < l.length:=by omega
  have hlt2:n.toNat < vs.size:=by omega
  have he:vs[n.toNat]? = some (vs.getD n.toNat undef):=by simp [Array.getD_eq_getD_getElem?,hlt2]
  have hsz:(sizeOf e).run P w = .ok 1 w:=by rw [run_sizeOf w hi]; simp [Program.cellsOf,hi,c2]
  have hag:(isAgg e).run P w = .ok false w:=by
   cases d<;>simp [G7] at c1<;>simp [isAgg,run_underlying hd]
  refine v7 ho' (v:=vs.getD n.toNat undef) (w':=w) ?_ (i7.still hR (hr _ hlt) h)
  generalize vs.getD n.toNat undef=u at he
  simp [Instr.index,run_underlying hu,asIntOf,h0,h1,part,hsz,hag,he]
 ·exact h.elim
theorem a3E (hR:Rel B w0 F0 S β F a w) {o:Oper} {t:TypeId} {x ix:Operand} (ho:o.op = .indexAddr t x ix) {K:Out->List Nat->Prop} (h:evOp P o.dst (.indexAddr t x ix) S.get S.row K) {Q:Exit->Act->World->Prop} :
  o.wp P a w (i7 B w0 F0 S β o.dst K) Q:=by
 simp only [evOp] at h
 split at h
 case h_2=>exact h.elim
 rename_i k n hn
 have hnv:=hR.get ix
 rw [hn] at hnv
 have hx:=hR.get x
 have ho':execOp a.eval o=(do pure (.value (<- Instr.indexAt t (a.eval x) (a.eval ix)))):=by simp [execOp,ho]
 rw [hnv.int_inv] at ho'
 split at h
 ·rename_i e hu
  split at h
  case h_2=>exact h.elim
  rename_i inf hi
  have hrun:∀ b ob len cap,0<=n->n < (len:Nat)->(Instr.indexAt t (.slice (some ⟨b,ob,none⟩) len cap) (.int k n)).run P w = .ok (.pointer (some ⟨b,ob + n.toNat * inf.size,none⟩)) w:=fun b ob len cap h0 h1=>by
   simp [Instr.indexAt,run_underlying hu,asIntOf,h0,h1,sizeOf,typeInfo,hi,E1]
  split at h
  ·rename_i α sz d enc l hg
   rw [hg] at hx
   split at h
   case h_2=>exact h.elim
   rename_i hsz
   have hsz':=Nat.eq_of_beq_eq_true hsz
   obtain ⟨⟨h0,h1⟩,h⟩:=(m0 _ _ _).1 h
   split at h
   case h_2=>exact h.elim
   rename_i hlen
   have hlen':=Nat.eq_of_beq_eq_true hlen
   rcases hx.sl_inv with ⟨hl,_⟩ | ⟨b,ob,cap,g,hv,hc,hb,hr⟩
   ·rw [hl] at h1; simp at h1; omega
   ·rw [hv] at ho'
    refine v7 ho' (hrun _ _ _ _ h0 h1) (i7.still hR (.imm ?_) h)
    have hn':n.toNat < l.length:=by omega
    have:=RepI.pt (F:=F) (w:=w) (cs:=enc (l.getD n.toNat d)) (off:=0) (b:=b) (o:=ob + n.toNat * sz) (fun j=>g n.toNat j) (fun j hj=>hb _ _ hn' (by omega)) (fun j hj=>hr _ _ hn' (by omega))
    rw [<- hsz']; exact this
  ·rename_i sz css hg
   rw [hg] at hx
   split at h
   case h_2=>exact h.elim
   rename_i hsz
   have hsz':=Nat.eq_of_beq_eq_true hsz
   obtain ⟨⟨h0,h1⟩,h⟩:=(m0 _ _ _).1 h
   split at h
   case h_2=>exact h.elim
   rename_i hlen
   have hlen':=Nat.le_of_ble_eq_true hlen
   rcases hx.slc_inv with ⟨hl,_⟩ | ⟨b,ob,cap,g,hv,hc,hb,hr⟩
   ·rw [hl] at h1; simp at h1; omega
   ·rw [hv] at ho'
    refine v7 ho' (hrun _ _ _ _ h0 h1) (i7.still hR (.imm ?_) h)
    have hn':n.toNat < css.length:=by omega
    have:=RepI.pt (F:=F) (w:=w) (cs:=css.getD n.toNat []) (off:=0) (b:=b) (o:=ob + n.toNat * sz) (fun j=>g n.toNat j) (fun j hj=>hb _ _ hn' (by omega)) (fun j hj=>hr _ _ hn' (by omega))
    rw [<- hsz']; exact this
  ·rename_i id hg
   rw [hg] at hx
   obtain ⟨hd,hb,hv⟩:=hx.own_inv
   split at h
   ·rename_i α ty sz d enc l hr
    split at h
    case h_2=>exact h.elim
    rename_i hsz
    have hsz':=Nat.eq_of_beq_eq_true hsz
    obtain ⟨⟨h0,h1⟩,h⟩:=(m0 _ _ _).1 h
    obtain ⟨hl1,hv2⟩:=G9 hR hr hb
    rcases hv2 with ⟨h2,_⟩ | ⟨b,vs,e1,_⟩
    ·rw [h2] at h1; simp at h1; omega
    ·rw [hv,e1] at ho'
     refine v7 ho' (hrun _ _ _ _ h0 (by omega)) (i7.still hR ?_ h)
     rw [Nat.zero_add,<- hsz']
     exact .ptr hb e1
   ·rename_i ty sz css hr
    split at h
    case h_2=>exact h.elim
    rename_i hsz
    have hsz':=Nat.eq_of_beq_eq_true hsz
    obtain ⟨⟨h0,h1⟩,h⟩:=(m0 _ _ _).1 h
    obtain ⟨b,vs,e1,_,hl1,_⟩:=a4Z hR hr hb
    rw [hv,e1] at ho'
    refine v7 ho' (hrun _ _ _ _ h0 (by omega)) (i7.still hR ?_ h)
    rw [Nat.zero_add,<- hsz']
    exact .ptr hb e1
   ·exact h.elim
  ·exact h.elim
 ·rename_i len e hu
  split at h
  case h_2=>exact h.elim
  rename_i inf hi
  obtain ⟨⟨h0,h1⟩,h⟩:=(m0 _ _ _).1 h
  have hrun:∀ b ob,(Instr.indexAt t (.pointer (some ⟨b,ob,none⟩)) (.int k n)).run P w = .ok (.pointer (some ⟨b,ob + n.toNat * inf.size,none⟩)) w:=fun b ob=>by
   simp [Instr.indexAt,run_underlying hu,asIntOf,Instr.sureAddr,h0,h1,sizeOf,typeInfo,hi,E1]
  split at h
  ·rename_i cs off hg
   rw [hg] at hx
   obtain ⟨b,ob,g,hv,hc,hr⟩:=hx.pt_inv
   rw [hv] at ho'
   refine v7 ho' (hrun _ _) (i7.still hR (.imm ?_) h)
   rw [Nat.add_assoc]
   exact .pt g hc hr
  ·rename_i id sz j off hg
   rw [hg] at hx
   obtain ⟨hd,b,hb,hh,hv⟩:=hx.ptr_inv
   rw [hv] at ho'
   refine v7 ho' (hrun _ _) (i7.still hR ?_ h)
   rw [Nat.add_assoc]
   exact .ptr hb hh
  ·exact h.elim
 ·exact h.elim
theorem v8 (z:List AV):∀ n,(List.replicate n z).flatten.length=n * z.length
 | 0=>by simp
 | n + 1=>by simp [List.replicate_succ,v8 z n,Nat.add_mul]; omega
theorem H0 (z:List AV) (hz:0 < z.length):∀ n i,i < n * z.length->(List.replicate n z).flatten.getD i .any=z.getD (i % z.length) .any
 | 0,i,h=>by simp at h
 | n + 1,i,h=>by
  rw [List.replicate_succ,List.flatten_cons]
  by_cases hi:i < z.length
  ·rw [Nat.mod_eq_of_lt hi]
   simp [List.getD,List.getElem?_append_left hi]
  ·have h':i - z.length < n * z.length:=by rw [Nat.add_mul] at h; omega
   have ih:=H0 z hz n (i - z.length) h'
   have e:i % z.length=(i - z.length) % z.length:=by rw [Nat.mod_eq_sub_mod (by omega)]
   rw [e,<- ih]
   simp [List.getD,List.getElem?_append_right (Nat.le_of_not_lt hi)]
theorem a99 {zv:Array Value} {z:List AV} (hz:Reps (Rep β F w) z zv) (h0:0 < z.length) (n:Nat):Reps (Rep β F w) (List.replicate n z).flatten ((Array.range (n * z.length)).map (zv[· % zv.size]!)):=by
 refine ⟨by rw [v8]; simp,fun i hi => ?_⟩
 rw [v8] at hi
 rw [H0 z h0 n i hi]
 have hm:i % z.length < z.length:=Nat.mod_lt _ h0
 have e:((Array.range (n * z.length)).map (zv[· % zv.size]!)).getD i undef=zv.getD (i % z.length) undef:=by
  have hm':i % zv.size < zv.size:=by rw [<- hz.1]; exact hm
  have hi2:i < n * zv.size:=by rw [<- hz.1]; exact hi
  simp [Array.getD_eq_getD_getElem?,hi2,hz.1,hm',getElem!_pos]
 rw [e]
 exact hz.2 _ hm
theorem a8c (cs:List AV) (sz n i j:Nat) (hi:i < n) (hj:j < sz):((((List.range n).map fun j=>(cs.drop (j * sz)).take sz)).getD i []).getD j .any=cs.getD (i * sz + j) .any:=by
 have e:((List.range n).map fun j=>(cs.drop (j * sz)).take sz).getD i []=(cs.drop (i * sz)).take sz:=by simp [List.getD,hi]
 rw [e,W9 _ _ _ _ hj]
theorem a2j (hR:Rel B w0 F0 S β F a w) {o:Oper} {t:TypeId} {n:Nat} {ps:Array (Nat×Operand)} (ho:o.op = .buildSlice t n ps) (hfree:∀ d,o.dst=some d->β d=none) {K:Out->List Nat->Prop}
  (h:evOp P o.dst (.buildSlice t n ps) S.get S.row K) {Q:Exit->Act->World->Prop}:o.wp P a w (i7 B w0 F0 S β o.dst K) Q:=by
 simp only [evOp] at h
 split at h
 case h_2=>exact h.elim
 rename_i d e hd hu
 split at h
 case h_2=>exact h.elim
 rename_i i z hi hz
 split at h
 case h_2=>exact h.elim
 rename_i hzs
 have hzs':=Nat.eq_of_beq_eq_true hzs
 split at h
 case h_2=>exact h.elim
 rename_i hle
 simp only [Bool.and_eq_true,Nat.blt_eq] at hle
 have hle1:=Nat.le_of_ble_eq_true hle.1
 have hle2:=hle.2
 split at h
 case h_2=>exact h.elim
 rename_i cs hf
 obtain ⟨i',zv,hi',hzv,_,hzr⟩:=F5 (β:=β) (F:=F) (w:=w) hz
 rw [hi] at hi'; cases hi'
 have hzr':=a99 hzr (by omega) n
 obtain ⟨p1,p2⟩:=a31 hR ps
 obtain ⟨us,hu1,hu2⟩:=a0L p1 p2 hzr' hf
 have hl:=hzr.1
 have ho':execOp a.eval o=(do pure (.value (<- Instr.buildSlice t n (ps.map fun (i,x)=>(i,a.eval x))))):=by simp [execOp,ho]
 have hcl:cs.length=n * i.size:=by
  have:∀ {place:Nat->Option (Nat×Nat)} {parts:List (Nat×AV)} {xs cs:List AV},P6 place xs parts=some cs->cs.length=xs.length:=by
   intro place parts
   induction parts with
   | nil=>intro xs cs h; simp [P6] at h; rw [h]
   | cons p parts ih =>
    intro xs cs h
    obtain ⟨k,x⟩:=p
    simp only [P6] at h
    split at h
    ·cases h
    ·split at h
     ·cases h
     ·split at h
      ·cases h
      ·rename_i h1
       split at h
       ·cases h
       ·rename_i h2
        have e1:=Nat.eq_of_beq_eq_true h1
        have e2:=Nat.le_of_ble_eq_true h2
        rw [ih h,K1 (by omega)]
  rw [this hf,v8,hzs']
 have hrun:(Instr.buildSlice t n (ps.map fun (i,x)=>(i,a.eval x))).run P w = .ok (.slice (some ⟨w.heap.size,0,none⟩) n n) (w.alloc (.cells us e)):=by
  have hn0:¬ (2 ^ 24 < n * i.size):=by omega
  rw [hzs'] at hu1
  simp only [Instr.buildSlice,Sem.run_bind,run_underlying hu,Result.andThen_ok,run_sizeOf w hi,Program.cellsOf,hi,Option.map_some,Option.getD_some,gt_iff_lt,hn0,if_false,Sem.run_pure]
  split
  ·rename_i h0
   have e0:∀ (f g:Nat->Value),(Array.range (n * i.size)).map f=(Array.range (n * i.size)).map g:=fun f g=>by rw [h0]; simp
   simp only [Sem.run_bind,Sem.run_pure,Result.andThen_ok]
   rw [e0 _ (zv.cells[· % zv.cells.size]!),hu1]
   simp [newRow]
  ·simp only [Sem.run_bind,zeroValue,typeInfo,run_program,hi,hzv,Result.andThen_ok,Sem.run_pure,hu1]
   simp [newRow]
 obtain ⟨β',h1,h2⟩:=hR.alloc (hfree d hd) (dst:=o.dst) (x := .own d) (v := .slice (some ⟨w.heap.size,0,none⟩) n n) (r := .lit e i.size ((List.range n).map fun j=>(cs.drop (j * i.size)).take i.size)) (vs:=us) (ty:=e) n n
  (fun β' hb _=>by have:=Rep.own (F:=F) (w:=w.alloc (.cells us e)) hb; simpa using this)
  (fun β' hb hg hk=>⟨_,w.heap.size,us,hb,rfl,rfl,A2 w _,by simp,by simp,by rw [<- hu2.1,hcl]; simp,by
    simp only [List.length_map,List.length_range,maxLen]
    have:n * 1<=n * i.size:=Nat.mul_le_mul_left n hle2
    omega,fun p q hp hq=>by
    have hp':p < n:=by simpa using hp
    rw [a8c _ _ _ _ _ hp' hq]
    exact (hu2.2 _ (by rw [hcl]; exact i8 hp' hq)).grow hg (fun _ h=>h) hk⟩) (fun _ _ _ _ h=>by cases h)
 exact v7 ho' hrun ⟨_,_,h,β',F,fun j hj=>h1 j (fun e=>hj (by rw [e]; exact hd)),h2⟩
end
/- Each operation does what its abstract twin says (seventh part): slices, built-in functions, calls. A helper text: it speaks of no program. -/
section
variable {P:Program} {B:Nat->Prop} {w0:World} {F0:Env P} {S:St} {β:Nat->Option Hd} {F:Nat->Prop} {a:Act} {w:World}
theorem a8d (hR:Rel B w0 F0 S β F a w) {o:Oper} {t:TypeId} {x m:Operand} {lo hi:Option Operand} (ho:o.op = .slice t x lo hi (some m)) {K:Out->List Nat->Prop}
  (h:evOp P o.dst (.slice t x lo hi (some m)) S.get S.row K) {Q:Exit->Act->World->Prop} :
  o.wp P a w (i7 B w0 F0 S β o.dst K) Q:=by
 cases lo with
 | some _=>simp only [evOp] at h
 | none =>
 cases hi with
 | none=>simp only [evOp] at h
 | some hh =>
 simp only [evOp] at h
 split at h
 case h_2=>exact h.elim
 rename_i e hu
 split at h
 case h_2=>exact h.elim
 rename_i inf hi'
 split at h
 case h_2=>exact h.elim
 rename_i α sz d enc l hg
 split at h
 case h_2=>exact h.elim
 rename_i hsz
 have hsz':=Nat.eq_of_beq_eq_true hsz
 split at h
 case h_2=>exact h.elim
 rename_i kb q kc c hhi hmx
 obtain ⟨⟨h0,h1,h2⟩,hK⟩:=(m0 _ _ _).1 h
 subst h2
 have hx:=hR.get x
 rw [hg] at hx
 have ehi:a.eval hh = .int kb c:=by have:=hR.get hh; rw [hhi] at this; exact this.int_inv
 have emx:a.eval m = .int kc c:=by have:=hR.get m; rw [hmx] at this; exact this.int_inv
 have ho':execOp a.eval o=(do pure (.value (<- Instr.sliceAt t (a.eval x) none (some (.int kb c)) (some (.int kc c))))):=by
  rw [<- ehi,<- emx]
  simp [execOp,ho]
 have hb:∀ cap:Nat,l.length<=cap->(Instr.sliceBounds true l.length cap none (some (.int kb c)) (some (.int kc c))).run P w = .ok (0,c.toNat,c.toNat) w:=by
  intro cap hcap
  have c2:c<=(cap:Int):=by omega
  have c3:c<=max c 0:=by omega
  simp [Instr.sliceBounds,Instr.sliceBound,asIntOf,h0,c2,c3]
 rcases hx.sl_inv with ⟨hl0,x0,c0,hv⟩ | ⟨b,ob,cap,g,hv,hc,hcell,hr⟩
 ·rw [hv] at ho'
  subst hl0
  have hq:c=0:=by simp at h1; omega
  subst hq
  have hb0:=hb c0 (by simp)
  simp only [List.length_nil] at hb0
  obtain ⟨v',hv'⟩:∃ v',(Instr.sliceAt t (.slice x0 0 c0) none (some (.int kb 0)) (some (.int kc 0))).run P w = .ok (.slice v' 0 0) w:=by
   simp only [Instr.sliceAt,Instr.slice,Sem.run_bind,run_underlying hu,Result.andThen_ok,hb0,run_sizeOf w hi',Sem.run_pure]
   simp
  refine v7 ho' hv' (i7.still hR (.imm ?_) hK)
  simp; exact .sfnil
 ·rw [hv] at ho'
  have hb1:=hb cap hc
  have hlen:(l.take c.toNat).length=c.toNat:=by simp; omega
  refine v7 ho' (v := .slice (some ⟨b,ob,none⟩) c.toNat c.toNat) (w':=w) ?_ (i7.still hR (.imm ?_) hK)
  ·simp only [Instr.sliceAt,Instr.slice,Sem.run_bind,run_underlying hu,Result.andThen_ok,hb1,run_sizeOf w hi',Sem.run_pure,Program.cellsOf,hi',Option.map_some,Option.getD_some,E1]
   simp
  ·have hget:∀ i,i < c.toNat->(l.take c.toNat).getD i d=l.getD i d:=fun i hi=>by
    simp [List.getD,List.getElem?_take,hi]
   have key:RepI F w (.sf sz d enc (l.take c.toNat)) (.slice (some ⟨b,ob,none⟩) (l.take c.toNat).length (l.take c.toNat).length):=by
    refine .sf g (fun i j hi hj => ?_) (fun i j hi hj => ?_)
    ·rw [hlen] at hi
     exact hcell i j (by omega) hj
    ·rw [hlen] at hi
     rw [hget i hi]
     exact hr _ _ (by omega) hj
   rwa [hlen] at key
theorem b0a (hR:Rel B w0 F0 S β F a w) {o:Oper} {t:TypeId} {x:Operand} {lo hi mx:Option Operand} (ho:o.op = .slice t x lo hi mx) {K:Out->List Nat->Prop} (h:evOp P o.dst (.slice t x lo hi mx) S.get S.row K) {Q:Exit->Act->World->Prop} :
  o.wp P a w (i7 B w0 F0 S β o.dst K) Q:=by
 cases mx with
 | some m=>exact a8d hR ho h
 | none =>
 simp only [evOp] at h
 split at h
 case h_2=>exact h.elim
 rename_i e hu
 split at h
 case h_2=>exact h.elim
 rename_i inf hi'
 split at h
 case h_2=>exact h.elim
 rename_i α sz d enc l hg
 split at h
 case h_2=>exact h.elim
 rename_i hsz
 have hsz':=Nat.eq_of_beq_eq_true hsz
 split at h
 case h_2=>exact h.elim
 rename_i ka p kb q hlo hhi
 obtain ⟨⟨h0,h1,h2⟩,hK⟩:=(m0 _ _ _).1 h
 have hx:=hR.get x
 rw [hg] at hx
 have ho':execOp a.eval o=(do pure (.value (<- Instr.sliceAt t (a.eval x) (lo.map a.eval) (hi.map a.eval) none))):=by simp [execOp,ho]
 -- the bounds
 have hlov:lo=none/\p=0∨∃ k,lo.map a.eval=some (.int k p):=by
  cases lo with
  | none=>simp [bnd] at hlo; exact .inl ⟨rfl,hlo.2.symm⟩
  | some y=>simp only [bnd] at hlo; have:=hR.get y; rw [hlo] at this; exact .inr ⟨_,by simp [this.int_inv]; rfl⟩
 have hhiv:hi=none/\q=l.length∨∃ k,hi.map a.eval=some (.int k q):=by
  cases hi with
  | none=>simp [bnd] at hhi; exact .inl ⟨rfl,hhi.2.symm⟩
  | some y=>simp only [bnd] at hhi; have:=hR.get y; rw [hhi] at this; exact .inr ⟨_,by simp [this.int_inv]; rfl⟩
 have hb:∀ cap:Nat,l.length<=cap->(Instr.sliceBounds true l.length cap (lo.map a.eval) (hi.map a.eval) none).run P w = .ok (p.toNat,q.toNat,cap) w:=by
  intro cap hcap
  have c1:0<=q:=by omega
  have c2:q<=(cap:Int):=by omega
  have c3:p<=max q 0:=by omega
  have c4:p<=(l.length:Int):=by omega
  rcases hhiv with ⟨rfl,rfl⟩ | ⟨k,hk⟩
  ·rcases hlov with ⟨rfl,rfl⟩ | ⟨k',hk'⟩
   ·simp [Instr.sliceBounds]
   ·rw [hk']
    simp [Instr.sliceBounds,Instr.sliceBound,asIntOf,h0,c4]
  ·rw [hk]
   rcases hlov with ⟨rfl,rfl⟩ | ⟨k',hk'⟩
   ·simp [Instr.sliceBounds,Instr.sliceBound,asIntOf,c1,c2]
   ·rw [hk']
    simp [Instr.sliceBounds,Instr.sliceBound,asIntOf,h0,c1,c2,c3]
 rcases hx.sl_inv with ⟨hl0,x0,c0,hv⟩ | ⟨b,ob,cap,g,hv,hc,hcell,hr⟩
 ·rw [hv] at ho'
  subst hl0
  have hp:p=0:=by simp at h2; omega
  have hq:q=0:=by simp at h2; omega
  have hb0:=hb c0 (by simp)
  simp only [List.length_nil] at hb0
  obtain ⟨v',hv'⟩:∃ v',(Instr.sliceAt t (.slice x0 0 c0) (lo.map a.eval) (hi.map a.eval) none).run P w = .ok (.slice v' 0 c0) w:=by
   simp only [Instr.sliceAt,Instr.slice,Sem.run_bind,run_underlying hu,Result.andThen_ok,hb0,run_sizeOf w hi',Sem.run_pure]
   simp [hp,hq]
  refine v7 ho' hv' (i7.still hR (.imm ?_) hK)
  ·simp; exact .slnil
 ·rw [hv] at ho'
  have hb1:=hb cap hc
  have hlen:((l.drop p.toNat).take (q - p).toNat).length=q.toNat - p.toNat:=by simp; omega
  refine v7 ho' (v := .slice (some (if cap=p.toNat then ⟨b,ob,none⟩ else ⟨b,ob + p.toNat * inf.size,none⟩)) (q.toNat - p.toNat) (cap - p.toNat)) (w':=w) ?_ (i7.still hR (.imm ?_) hK)
  ·simp only [Instr.sliceAt,Instr.slice,Sem.run_bind,run_underlying hu,Result.andThen_ok,hb1,run_sizeOf w hi',Sem.run_pure,Program.cellsOf,hi',Option.map_some,Option.getD_some,E1]
   split<;>rfl
  ·have hget:∀ i,i < q.toNat - p.toNat->((l.drop p.toNat).take (q - p).toNat).getD i d=l.getD (p.toNat + i) d:=fun i hi=>by
    simp [List.getD,List.getElem?_take,show i < (q - p).toNat by omega]
   rw [<- hlen]
   split
   ·rename_i hcp
    exact .sl (fun _ _=>undef) (by omega) (fun i j hi hj=>by omega) (fun i j hi hj=>by omega)
   ·refine .sl (fun i j=>g (p.toNat + i) j) (by omega) (fun i j hi hj => ?_) (fun i j hi hj => ?_)
    ·rw [hlen] at hi
     have:=hcell (p.toNat + i) j (by omega) hj
     rw [<- hsz',show ob + p.toNat * sz + i * sz + j=ob + (p.toNat + i) * sz + j by rw [Nat.add_mul]; omega]
     exact this
    ·rw [hlen] at hi
     rw [hget i hi]
     exact hr _ _ (by omega) hj
theorem a3F (hR:Rel B w0 F0 S β F a w) {o:Oper} {t:TypeId} {x y:Operand} (ho:o.op = .makeSlice t x y) (hfree:∀ d,o.dst=some d->β d=none) {K:Out->List Nat->Prop}
  (h:evOp P o.dst (.makeSlice t x y) S.get S.row K) {Q:Exit->Act->World->Prop}:o.wp P a w (i7 B w0 F0 S β o.dst K) Q:=by
 simp only [evOp] at h
 split at h
 case h_2=>exact h.elim
 rename_i d e hd hu
 split at h
 case h_2=>exact h.elim
 rename_i i z hi hz
 split at h
 case h_2=>exact h.elim
 rename_i hzs
 have hzs':=Nat.eq_of_beq_eq_true hzs
 split at h
 case h_2=>exact h.elim
 rename_i k n k' c hx hy
 obtain ⟨α,yy,enc,he,hnc,h0,h1,hby,hK⟩:=h
 subst hnc
 obtain ⟨i',zv,hi',hzv,_,hzr⟩:=F5 (β:=β) (F:=F) (w:=w) hz
 rw [hi] at hi'; cases hi'
 have hxv:=hR.get x
 have hyv:=hR.get y
 rw [hx] at hxv
 rw [hy] at hyv
 have ho':execOp a.eval o=(do pure (.value (<- Instr.makeSlice t (a.eval x) (a.eval y)))):=by simp [execOp,ho]
 rw [hxv.int_inv,hyv.int_inv] at ho'
 have hw:IntKind.i64.wrap n=n:=IntWalk.i64_in n (by omega)
 have hby2:(i.bytes:Int) * n<=1048576 * 1048576:=Int.mul_le_mul (show (i.bytes:Int)<=1048576 by omega) h1 h0 (by omega)
 have hbig:¬ ((281474976710656:Int) < (i.bytes:Int) * n):=by omega
 have hneg:¬ n < 0:=by omega
 have hroom:¬ (roomBytes < n.toNat * i.bytes):=by
  have e:((n.toNat * i.bytes:Nat):Int)=(i.bytes:Int) * n:=by rw [Int.natCast_mul,Int.toNat_of_nonneg h0,Int.mul_comm]
  simp only [roomBytes]; omega
 let cells:Array Value:=(Array.range (n.toNat * i.size)).map (zv.cells[· % zv.cells.size]!)
 have hrun:(Instr.makeSlice t (.int k n) (.int k' n)).run P w = .ok (.slice (some ⟨w.heap.size,0,none⟩) n.toNat n.toNat) (w.alloc (.cells cells e)):=by
  simp only [Instr.makeSlice,Sem.run_bind,run_underlying hu,Result.andThen_ok,asInt,asIntOf,Sem.run_pure,typeInfo,run_program,hi,hw]
  simp only [hneg,decide_false,Bool.false_or,Bool.or_false,gt_iff_lt,Int.lt_irrefl,show (2:Int) ^ 48=281474976710656 by rfl,hbig,Bool.false_eq_true,if_false,askRoom,hroom]
  simp only [Sem.run_bind,Sem.run_pure,Result.andThen_ok,run_sizeOf w hi,Program.cellsOf,hi,Option.map_some,Option.getD_some]
  split
  ·rename_i hz0
   have e0:∀ (f g:Nat->Value),(Array.range (n.toNat * i.size)).map f=(Array.range (n.toNat * i.size)).map g:=fun f g=>by rw [hz0]; simp
   simp only [Sem.run_bind,Sem.run_pure,Result.andThen_ok]
   rw [e0 _ (zv.cells[· % zv.cells.size]!)]
   simp [newRow,cells]
  ·simp only [Sem.run_bind,zeroValue,typeInfo,run_program,hi,hzv,Result.andThen_ok,Sem.run_pure]
   simp [newRow,cells]
 have hzc:∀ j,j < i.size->RepI F w (z.getD j .any) (zv.cells.getD j undef):=fun j hj=>by
  obtain ⟨i2,z2,e1,e2,e3,e4⟩:=F5 (β:=β) (F:=F) (w:=w) hz
  rw [hi] at e1; cases e1
  rw [hzv] at e2; cases e2
  have hj':j < zv.cells.size:=by rw [<- e4.1]; omega
  have e:z.getD j .any=AV.ofConst (zv.cells.getD j undef):=by
   rw [e3]; simp [List.getD,Array.getD_eq_getD_getElem?,hj']
  rw [e]; exact .ofConst _
 obtain ⟨β',g1,g2⟩:=hR.alloc (hfree d hd) (dst:=o.dst) (x := .own d) (v := .slice (some ⟨w.heap.size,0,none⟩) n.toNat n.toNat) (r := .vec e i.size yy enc (List.replicate n.toNat yy)) (vs:=cells) (ty:=e) n.toNat n.toNat
  (fun β' hb _=>by have:=Rep.own (F:=F) (w:=w.alloc (.cells cells e)) hb; simpa using this)
  (fun β' hb hg hk=>⟨_,hb,rfl,by simp,.inr ⟨w.heap.size,cells,rfl,A2 w _,by simp,by simp only [maxLen]; omega,by simp [cells],fun p q hp hq=>by
    have hp':p < n.toNat:=by simpa using hp
    have e1:(List.replicate n.toNat yy).getD p yy=yy:=by simp [List.getD,hp']
    have hin:=i8 hp' hq
    have hsz:zv.cells.size=i.size:=by rw [<- hzr.1]; exact hzs'
    have hm:(p * i.size + q) % i.size=q:=by rw [Nat.mul_comm,Nat.mul_add_mod]; exact Nat.mod_eq_of_lt hq
    have e2:cells.getD (p * i.size + q) undef=zv.cells.getD q undef:=by
     have hq':q < zv.cells.size:=by omega
     simp [cells,Array.getD_eq_getD_getElem?,hin,hsz,hm]
     rw [getElem!_pos zv.cells q hq']
     simp [hq']
    rw [e1,he,e2]
    exact (hzc q hq).mono (fun _ h=>h) hk⟩⟩) (fun _ _ _ _ h=>by cases h)
 exact v7 ho' hrun ⟨_,_,hK,β',F,fun j hj=>g1 j (fun e=>hj (by rw [e]; exact hd)),g2⟩
theorem a0i {α:Type} {xs:Array α} {l:List α} (h:xs.toList=l):xs=l.toArray:=by rw [<- h]
theorem v6 {o:Oper} {c:Call} {b:Builtin} (ho:o.op = .call c) (hb:c.callee = .builtin b) {s:Sem Value}
  (hs:∀ cs,builtin b c.argTypes o.type cs (c.args.map a.eval)=(do pure (.value (<- s)))) {v:Value} {w':World} (hr:s.run P w = .ok v w') {next:Act->World->Prop} {Q:Exit->Act->World->Prop} (hn:next (a.put o.dst v) w'):o.wp P a w next Q:=by
 refine P9 (v:=v) (w':=w') ?_ hn
 simp only [execOp,ho,resolve,hb,Sem.run_bind,Sem.run_pure,Result.andThen_ok,invoke,hs,hr]
theorem b3c (hR:Rel B w0 F0 S β F a w) {o:Oper} {c:Call} (ho:o.op = .call c) (hb:c.callee = .builtin .len) {K:Out->List Nat->Prop} (h:evOp P o.dst (.call c) S.get S.row K) {Q:Exit->Act->World->Prop} :
  o.wp P a w (i7 B w0 F0 S β o.dst K) Q:=by
 simp only [evOp,hb] at h
 split at h
 case h_2=>exact h.elim
 rename_i x t hx ht
 have e1:=a0i hx
 have e2:=a0i ht
 have hs:∀ cs,builtin .len c.argTypes o.type cs (c.args.map a.eval)=(do pure (.value (<- Builtin.len_ #[t] o.type #[a.eval x]))):=fun cs=>by
  rw [e1,e2]; simp [builtin]
 have hv:=hR.get x
 split at h
 ·rename_i e hu
  have hrun:∀ p n cap,(Builtin.len_ #[t] o.type #[.slice p n cap]).run P w = .ok (.int .i64 n) w:=fun p n cap=>by
   simp [Builtin.len_,run_underlying hu,goInt]
  split at h
  ·rename_i hg
   rw [hg] at hv
   rw [hv.nils_inv] at hs
   exact v6 ho hb hs (hrun _ _ _) (i7.still hR (.imm (.int _ _)) h)
  ·rename_i α sz d enc l hg
   rw [hg] at hv
   rcases hv.sl_inv with ⟨hl,x0,c0,hv⟩ | ⟨b,ob,cap,g,hv,_⟩
   ·rw [hv] at hs; subst hl
    exact v6 ho hb hs (hrun _ _ _) (i7.still hR (.imm (.int _ _)) h)
   ·rw [hv] at hs
    exact v6 ho hb hs (hrun _ _ _) (i7.still hR (.imm (.int _ _)) h)
  ·rename_i sz css hg
   rw [hg] at hv
   rcases hv.slc_inv with ⟨hl,hv⟩ | ⟨b,ob,cap,g,hv,_⟩
   ·rw [hv] at hs; subst hl
    exact v6 ho hb hs (hrun _ _ _) (i7.still hR (.imm (.int _ _)) h)
   ·rw [hv] at hs
    exact v6 ho hb hs (hrun _ _ _) (i7.still hR (.imm (.int _ _)) h)
  ·rename_i id hg
   rw [hg] at hv
   obtain ⟨hd,hβ,hv⟩:=hv.own_inv
   rw [hv] at hs
   split at h
   ·rename_i hr
    obtain ⟨hl,_⟩:=G9 hR hr hβ
    rw [<- hl] at h
    exact v6 ho hb hs (hrun _ _ _) (i7.still hR (.imm (.int _ _)) h)
   ·rename_i hr
    have:=hR.rows id
    rw [hr] at this
    obtain ⟨hd',b',vs,q1,qm,q2,q3,q4,_⟩:=this
    rw [hβ] at q1; cases q1
    rw [<- q4] at h
    exact v6 ho hb hs (hrun _ _ _) (i7.still hR (.imm (.int _ _)) h)
   ·exact h.elim
  ·exact h.elim
 ·rename_i n e hu
  refine v6 ho hb hs (v := .int .i64 n) (w':=w) ?_ (i7.still hR (.imm (.int _ _)) h)
  simp [Builtin.len_,run_underlying hu,goInt]
 ·exact h.elim
theorem b3d (hR:Rel B w0 F0 S β F a w) {o:Oper} {c:Call} (ho:o.op = .call c) (hb:c.callee = .builtin .max) {K:Out->List Nat->Prop} (h:evOp P o.dst (.call c) S.get S.row K) {Q:Exit->Act->World->Prop} :
  o.wp P a w (i7 B w0 F0 S β o.dst K) Q:=by
 simp only [evOp,hb] at h
 split at h
 case h_2=>exact h.elim
 rename_i x y hx
 have e1:=a0i hx
 split at h
 case h_2=>exact h.elim
 rename_i k p k' q hg1 hg2
 have hv1:=hR.get x
 have hv2:=hR.get y
 rw [hg1] at hv1
 rw [hg2] at hv2
 have hs:∀ cs,builtin .max c.argTypes o.type cs (c.args.map a.eval)=(do pure (.value (<- Builtin.max_ c.argTypes o.type #[.int k p,.int k' q]))):=fun cs=>by
  rw [<- hv1.int_inv,<- hv2.int_inv,e1]; simp [builtin]
 exact v6 ho hb hs (v := .int k (if q > p then q else p)) (w':=w) (by simp [Builtin.max_,Builtin.max2]) (i7.still hR (.imm (.int _ _)) h)
theorem b3e (hR:Rel B w0 F0 S β F a w) {o:Oper} {c:Call} (ho:o.op = .call c) (hb:c.callee = .builtin .min) {K:Out->List Nat->Prop} (h:evOp P o.dst (.call c) S.get S.row K) {Q:Exit->Act->World->Prop} :
  o.wp P a w (i7 B w0 F0 S β o.dst K) Q:=by
 simp only [evOp,hb] at h
 split at h
 case h_2=>exact h.elim
 rename_i x y hx
 have e1:=a0i hx
 split at h
 case h_2=>exact h.elim
 rename_i k p k' q hg1 hg2
 have hv1:=hR.get x
 have hv2:=hR.get y
 rw [hg1] at hv1
 rw [hg2] at hv2
 have hs:∀ cs,builtin .min c.argTypes o.type cs (c.args.map a.eval)=(do pure (.value (<- Builtin.min_ c.argTypes o.type #[.int k p,.int k' q]))):=fun cs=>by
  rw [<- hv1.int_inv,<- hv2.int_inv,e1]; simp [builtin]
 exact v6 ho hb hs (v := .int k (if q < p then q else p)) (w':=w) (by simp [Builtin.min_,Builtin.min2]) (i7.still hR (.imm (.int _ _)) h)
theorem b1k (hR:Rel B w0 F0 S β F a w) {o:Oper} {c:Call} {f:Operand} (ho:o.op = .call c) (hb:c.callee = .value f) {K:Out->List Nat->Prop} (h:evOp P o.dst (.call c) S.get S.row K) {Q:Exit->Act->World->Prop} :
  o.wp P a w (i7 B w0 F0 S β o.dst K) Q:=by
 simp only [evOp,hb] at h
 split at h
 case h_2=>exact h.elim
 rename_i fid first caps hg
 have hf:=hR.get f
 rw [hg] at hf
 obtain ⟨vs,us,hv,l1,l2,r1,r2⟩:=hf.fn_inv
 obtain ⟨l3,r3⟩:=w7 hR c.args
 -- the arguments, as they are handed over
 have hlen:(vs++c.args.map a.eval++us).size=(first++c.args.toList.map S.get++caps).length:=by simp [l1,l2]
 have hreps:∀ i,i < (first++c.args.toList.map S.get++caps).length->Rep β F w ((first++c.args.toList.map S.get++caps).getD i .any) ((vs++c.args.map a.eval++us).getD i undef):=by
  intro i hi
  by_cases h1:i < first.length
  ·have e1:(first++c.args.toList.map S.get++caps).getD i .any=first.getD i .any:=by simp [List.getD,List.getElem?_append,h1]
   have e2:(vs++c.args.map a.eval++us).getD i undef=vs.getD i undef:=by
    have:i < vs.size:=by omega
    simp [Array.getD_eq_getD_getElem?,Array.getElem?_append,this]
   rw [e1,e2]; exact r1 i h1
  ·by_cases h2:i < first.length + (c.args.toList.map S.get).length
   ·have e1:(first++c.args.toList.map S.get++caps).getD i .any=(c.args.toList.map S.get).getD (i - first.length) .any:=by
     simp only [List.getD,List.append_assoc]
     rw [List.getElem?_append_right (by omega),List.getElem?_append_left (by omega)]
    have e2:(vs++c.args.map a.eval++us).getD i undef=(c.args.map a.eval).getD (i - first.length) undef:=by
     simp only [Array.getD_eq_getD_getElem?,Array.append_assoc]
     rw [Array.getElem?_append_right (by omega),Array.getElem?_append_left (by rw [<- l1,<- l3]; omega),l1]
    rw [e1,e2]; exact r3 _ (by omega)
   ·have e1:(first++c.args.toList.map S.get++caps).getD i .any=caps.getD (i - first.length - (c.args.toList.map S.get).length) .any:=by
     simp only [List.getD,List.append_assoc]
     rw [List.getElem?_append_right (by omega),List.getElem?_append_right (by omega)]
    have e2:(vs++c.args.map a.eval++us).getD i undef=us.getD (i - first.length - (c.args.toList.map S.get).length) undef:=by
     simp only [Array.getD_eq_getD_getElem?,Array.append_assoc]
     rw [Array.getElem?_append_right (by omega),Array.getElem?_append_right (by rw [<- l1,<- l3]; omega),l1,l3]
    rw [e1,e2]
    exact r2 _ (by simp only [List.length_append] at hi; omega)
 generalize hA:first++c.args.toList.map S.get++caps=A at *
 generalize hV:vs++c.args.map a.eval++us=V at *
 have hex:execOp a.eval o=callFunc fid V:=by
  simp only [execOp,ho,resolve,hb,hv,Deferred.ofValue]
  rw [<- hV]
  rfl
 -- what follows the call
 have run:∀ (Fc:Nat->Prop) (ar:List AV) (res:AV),(∀ b,Fc b->b < w.heap.size)->ar.length=A.length->(∀ i,i < ar.length->RepI Fc w (ar.getD i .any) (V.getD i undef))->PC P fid ar res ->
   (∀ v w',RowKit.Below w.heap.size w w'->RepI (fun b=>Fc b∨w.heap.size<=b) w' res v->i7 B w0 F0 S β o.dst K (a.put o.dst v) w')->o.wp P a w (i7 B w0 F0 S β o.dst K) Q:=by
  intro Fc ar res hFc hal har hpc hn
  rcases hpc Fc w V hFc (by omega) har with ⟨h1,h2⟩ | ⟨v,h1,h2⟩
  ·unfold Oper.wp
   rw [hex,h1]
   refine h2.mono fun e w' ⟨v,he,hbel,hrep⟩ => ?_
   subst he
   exact hn v w' hbel hrep
  ·unfold Oper.wp
   rw [hex,h1]
   exact hn v w (RowKit.Below.refl _ _) (h2.mono (fun _ h => .inl h) (fun _ _ _ _ h=>h))
 split at h
 ·rename_i hcl
  rw [H8] at h
  obtain ⟨res,hpc,hK⟩:=h
  refine run F A res (fun b hb'=>(hR.FB b hb').1) rfl (fun i hi=>(hreps i hi).shut (t9 hcl i)) hpc fun v w' hbel hrep => ?_
  obtain ⟨F',hR'⟩:=hR.called hbel (dst:=o.dst) (x:=res) (v:=v) (fun F' g1 g2 _ => .imm (hrep.there.mono (fun b hb'=>by
   rcases hb'.1 with h | h
   ·exact g1 b h
   ·exact g2 b h hb'.2) (fun _ _ _ _ h=>h)))
  exact ⟨_,_,hK,β,F',fun _ _=>rfl,hR'⟩
 ·rw [H8] at h
  obtain ⟨res,hpc,hK⟩:=h
  split at hK
  ·rename_i hfl
   refine run (fun b=>F b∨a0J S β b) (A.map (o7 4 S.row)) res (fun b hb' => ?_) (by simp) (fun i hi => ?_) hpc fun v w' hbel hrep => ?_
   ·rcases hb' with h | ⟨i,_,h⟩
    ·exact (hR.FB b h).1
    ·exact (hR.bB i b h).2
   ·rw [d5 _ (v5 _ _)]
    exact r9 hR 4 (hreps i (by simpa using hi))
   ·obtain ⟨F',hR'⟩:=hR.called hbel (dst:=o.dst) (x:=res) (v:=v) (fun F' _ _ _ => .imm (hrep.lift hfl))
    exact ⟨_,_,hK,β,F',fun _ _=>rfl,hR'⟩
  ·exact hK.elim
end
/- Each operation does what its abstract twin says (eighth part): append. A helper text: it speaks of no program. -/
section
variable {P:Program} {B:Nat->Prop} {w0:World} {F0:Env P} {S:St} {β:Nat->Option Hd} {F:Nat->Prop} {a:Act} {w:World}
theorem H1 (h:List Row) (cons:List Nat) (j:Nat):(d8 h (cons.map fun i=>(i,.none))).getD j .none=if j ∈ cons then .none else h.getD j .none:=by
 induction cons generalizing h with
 | nil=>simp [d8]
 | cons i l ih =>
  simp only [List.map_cons,d8,ih,d6,List.mem_cons]
  by_cases h1:j ∈ l
  ·simp [h1]
  ·by_cases h2:j=i
   ·subst h2
    by_cases h3:j < h.length
    ·simp [h1,h3]
    ·simp [h1,h3,List.getElem?_eq_none (Nat.le_of_not_lt h3)]
   ·simp [h1,h2,Ne.symm h2]
theorem M8 (h:List Row) (l m:List (Nat×Row)):d8 h (l++m)=d8 (d8 h l) m:=by
 induction l generalizing h with
 | nil=>rfl
 | cons x l ih=>obtain ⟨i,r⟩:=x; exact ih _
theorem M9 (h:List Row) (l:List (Nat×Row)):(d8 h l).length=h.length:=by
 induction l generalizing h with
 | nil=>rfl
 | cons x l ih=>obtain ⟨i,r⟩:=x; simp [d8,ih]
theorem Rel.retie (hR:Rel B w0 F0 S β F a w) {d:Nat} (hd:β d=none) {cons:List Nat} {dst:Option Nat} {hd':Hd} {r:Row} {w':World}
  (hsz:w.heap.size<=w'.heap.size) (hos:w'.os=w.os/\w'.tape=w.tape/\w'.output=w.output)
  (hother:∀ k,k < w.heap.size->(∀ c ∈ cons,S.row c ≠ .none->¬ occ β c k)->w'.heap[k]? = w.heap[k]?)
  (hb:∀ b,hasB (some hd') b->b < w'.heap.size/\((∃ c ∈ cons,S.row c ≠ .none/\occ β c b)∨w.heap.size<=b))
  (hr:∀ β',β' d=some hd'->(∀ j,β j≠none->β' j=β j)->n4 F w w'->j8 β' F w' d r) (hnc:∀ l xs k e,r ≠ .ctr l xs k e) :
  ∃ β' F',(∀ j,j≠d->β' j=β j)/\Rel B w0 F0 (S.put dst ⟨.own d,cons.map (fun i=>(i,.none))++[(d,r)]⟩) β' F' (a.put dst (.slice (hd'.b.map fun b=>⟨b,0,none⟩) hd'.len hd'.cap)) w':=by
 let β':Nat->Option Hd:=fun j=>if j=d then some hd' else β j
 have h1:β' d=some hd':=by simp [β']
 have h2:∀ j,j≠d->β' j=β j:=fun j hj=>by simp [β',hj]
 have h3:∀ j,β j≠none->β' j=β j:=fun j hj=>h2 j (fun e=>hj (e ▸ hd))
 have b1:∀ b,occ β' d b↔hasB (some hd') b:=fun b=>by rw [occ,h1]
 have b2:∀ j b,j≠d->(occ β' j b↔occ β j b):=fun j b hj=>by rw [occ,occ,h2 j hj]
 have hk:n4 F w w':=fun k o u hF hc=>by
  rw [World.cell?_of_block (w:=w) (hother k (hR.FB k hF).1 fun c _ hc hb=>hR.bF c k hc hb hF)]; exact hc
 have hrow:∀ j,(d8 S.h (cons.map (fun i=>(i,.none))++[(d,r)])).getD j .none=if d=j/\d < S.h.length then r else if j ∈ cons then .none else S.row j:=fun j=>by
  rw [M8]
  simp only [d8,d6,H1,M9]
  rfl
 have live:∀ j,j≠d->(d8 S.h (cons.map (fun i=>(i,.none))++[(d,r)])).getD j .none ≠ .none->j ∉ cons/\S.row j ≠ .none:=fun j hj hl=>by
  rw [hrow,if_neg (fun h=>hj h.1.symm)] at hl
  split at hl
  ·exact absurd rfl hl
  ·rename_i hc; exact ⟨hc,hl⟩
 refine ⟨β',F,h2,hR.step h3 (fun _ h=>h) (fun b hb=>⟨Nat.lt_of_lt_of_le (hR.FB b hb).1 hsz,(hR.FB b hb).2⟩) hk hos hsz (.own h1) ?_ ?_ ?_ ?_ (fun k hk hn=>hother k hk fun c _ hc=>hn c hc) ?_ (fun b hb => .inl hb) ?_⟩
 ·intro j
  rw [hrow]
  split
  ·rename_i h; obtain ⟨rfl,_⟩:=h; exact hr β' h1 h3 hk
  ·split
   ·trivial
   ·rename_i hnd hnc
    by_cases hn:S.row j = .none
    ·rw [hn]; trivial
    ·refine (hR.rows j).grow h3 (fun _ h=>h) hk fun b hbj=>hother b (hR.bB j b hbj).2 fun c hc hcl hcb => ?_
     exact hnc (hR.inj j c b hn hcl hbj hcb ▸ hc)
 ·intro i j b hi hj hbi hbj
  by_cases e:i=d
  ·by_cases e':j=d
   ·exact e.trans e'.symm
   ·exfalso
    subst e
    rw [b1] at hbi; rw [b2 j _ e'] at hbj
    obtain ⟨hjc,hjl⟩:=live j e' hj
    rcases (hb b hbi).2 with ⟨c,hc,hcl,hcb⟩ | h
    ·exact hjc (hR.inj c j b hcl hjl hcb hbj ▸ hc)
    ·have:=(hR.bB j b hbj).2; omega
  ·by_cases e':j=d
   ·exfalso
    subst e'
    rw [b1] at hbj; rw [b2 i _ e] at hbi
    obtain ⟨hic,hil⟩:=live i e hi
    rcases (hb b hbj).2 with ⟨c,hc,hcl,hcb⟩ | h
    ·exact hic (hR.inj c i b hcl hil hcb hbi ▸ hc)
    ·have:=(hR.bB i b hbi).2; omega
   ·rw [b2 i _ e] at hbi; rw [b2 j _ e'] at hbj
    exact hR.inj i j b (live i e hi).2 (live j e' hj).2 hbi hbj
 ·intro i b hi hbi hF
  by_cases e:i=d
  ·subst e
   rw [b1] at hbi
   rcases (hb b hbi).2 with ⟨c,hc,hcl,hcb⟩ | h
   ·exact hR.bF c b hcl hcb hF
   ·have:=(hR.FB b hF).1; omega
  ·rw [b2 i _ e] at hbi
   exact hR.bF i b (live i e hi).2 hbi hF
 ·intro i b hbi
  by_cases e:i=d
  ·subst e
   rw [b1] at hbi
   refine ⟨?_,(hb b hbi).1⟩
   rcases (hb b hbi).2 with ⟨c,hc,hcl,hcb⟩ | h
   ·exact (hR.bB c b hcb).1
   ·exact hR.BW b h
  ·rw [b2 i _ e] at hbi
   have:=hR.bB i b hbi
   exact ⟨this.1,Nat.lt_of_lt_of_le this.2 hsz⟩
 ·intro i b hi hbi
  by_cases e:i=d
  ·subst e
   rw [b1] at hbi
   rcases (hb b hbi).2 with ⟨c,_,hcl,hcb⟩ | h
   ·exact .inl ⟨c,hcl,hcb⟩
   ·exact .inr h
  ·rw [b2 i _ e] at hbi
   exact .inl ⟨i,(live i e hi).2,hbi⟩
 ·intro id l xs k e h
  rw [hrow] at h
  split at h
  ·exact absurd h (hnc l xs k e)
  ·split at h
   ·cases h
   ·exact h
theorem b3f (hR:Rel B w0 F0 S β F a w) {x:AV} {v:Value} (hx:Rep β F w x v) {D:SlD} (hD:IsSl S.row x D) (hcl:∀ y ∈ D.l,(D.enc y).length=D.sz/\s9 (D.enc y)=true/\I2 (D.enc y)=true) :
  (D.l=[]/\∃ x cap,v = .slice x 0 cap)∨∃ (b o cap:Nat) (g:Nat->Nat->Value),v = .slice (some ⟨b,o,none⟩) D.l.length cap /\
   (∀ i j,i < D.l.length->j < D.sz->w.cell? ⟨b,o + i * D.sz + j,none⟩=some (g i j))/\∀ i j,i < D.l.length->j < D.sz->RepI F w ((D.enc (D.l.getD i D.d)).getD j .any) (g i j):=by
 cases x<;>simp only [IsSl] at hD
 case nils=>exact .inl ⟨hD,_,_,hx.nils_inv⟩
 case sl α sz d enc l =>
  subst hD
  rcases hx.sl_inv with h | ⟨b,o,cap,g,h1,h2,h3,h4⟩
  ·exact .inl h
  ·exact .inr ⟨b,o,cap,g,h1,fun i j hi hj=>(h3 i j hi hj).2,h4⟩
 case sf α sz d enc l =>
  subst hD
  rcases hx.sf_inv with ⟨h,y,hv⟩ | ⟨b,o,g,h1,h3,h4⟩
  ·exact .inl ⟨h,y,0,hv⟩
  ·exact .inr ⟨b,o,_,g,h1,fun i j hi hj=>(h3 i j hi hj).2,h4⟩
 case slc sz css =>
  obtain ⟨h1,h2⟩:=hD
  subst h1
  have hg:∀ i,i < D.l.length->css.getD i []=D.enc (D.l.getD i D.d):=fun i hi=>by rw [h2]; simp [List.getD,hi]
  have hlen:css.length=D.l.length:=by rw [h2]; simp
  rcases hx.slc_inv with ⟨h,hv⟩ | ⟨b,o,cap,g,h1,_,h3,h4⟩
  ·refine .inl ⟨?_,_,_,hv⟩
   rw [h] at hlen; exact List.eq_nil_of_length_eq_zero hlen.symm
  ·rw [hlen] at h1 h3 h4
   exact .inr ⟨b,o,cap,g,h1,fun i j hi hj=>(h3 i j hi hj).2,fun i j hi hj=>by rw [<- hg i hi]; exact h4 i j hi hj⟩
 case own id =>
  obtain ⟨hd,hβ,hv⟩:=hx.own_inv
  split at hD
  ·rename_i hr
   subst hD
   obtain ⟨hl,h⟩:=G9 hR hr hβ
   rcases h with ⟨h1,h2,h3⟩ | ⟨b,vs,h1,h2,h3,h4,h5,h6⟩
   ·refine .inl ⟨h1,none,0,?_⟩
    rw [hv,h2,hl,h3,h1]; rfl
   ·refine .inr ⟨b,0,hd.cap,fun i j=>vs.getD (i * _ + j) undef,by rw [hv,h1,hl]; rfl,fun i j hi hj => ?_,h6⟩
    rw [Nat.zero_add]
    exact t7 h2 (by rw [h5]; exact i8 (Nat.lt_of_lt_of_le hi h3) hj)
  ·rename_i hr
   obtain ⟨e1,e2⟩:=hD
   subst e1
   have:=hR.rows id
   rw [hr] at this
   obtain ⟨hd',b,vs,q1,qm,q2,q3,q4,q5,q6,q7,q8⟩:=this
   rw [hβ] at q1; cases q1
   rename_i ty css
   have hlen:css.length=D.l.length:=W7 e2
   refine .inr ⟨b,0,hd.cap,fun i j=>vs.getD (i * D.sz + j) undef,by rw [hv,q2,q4,hlen]; rfl,fun i j hi hj => ?_,fun i j hi hj => ?_⟩
   ·rw [Nat.zero_add]
    exact t7 q3 (by rw [q6]; exact i8 (by omega) hj)
   ·have hg:=a3Y (d:=D.d) e2 hi
    have hm:D.l.getD i D.d ∈ D.l:=by simp [List.getD,hi]
    have hc:=t9 (hcl _ hm).2.1 j
    rw [<- hg,Q6] at hc ⊢
    exact (q8 i j (by omega) hj).tts.shut hc
  ·exact hD.elim
def d9 (g:Nat->Nat->Value) (n sz:Nat):List Value:=(List.range (n * sz)).map fun k=>g (k / sz) (k % sz)
theorem d7 (g:Nat->Nat->Value) (n sz:Nat):(d9 g n sz).length=n * sz:=by simp [d9]
theorem D6 {g:Nat->Nat->Value} {n sz i j:Nat} (hi:i < n) (hj:j < sz):(d9 g n sz)[i * sz + j]? = some (g i j):=by
 have h:=i8 hi hj
 have h1:(i * sz + j) / sz=i:=by
  rw [Nat.mul_comm,Nat.mul_add_div (by omega),Nat.div_eq_of_lt hj,Nat.add_zero]
 have h2:(i * sz + j) % sz=j:=by rw [Nat.mul_comm,Nat.mul_add_mod]; exact Nat.mod_eq_of_lt hj
 simp [d9,h,h1,h2]
theorem u6 {g:Nat->Nat->Value} {n sz b o:Nat} (h:∀ i j,i < n->j < sz->w.cell? ⟨b,o + i * sz + j,none⟩=some (g i j)):∀ j u,(d9 g n sz)[j]? = some u->w.cell? ((⟨b,o,none⟩:Addr).add j)=some u:=by
 intro j u hu
 have hlt:j < n * sz:=by
  rcases Nat.lt_or_ge j (n * sz) with h | h
  ·exact h
  ·rw [List.getElem?_eq_none (by rw [d7]; exact h)] at hu; cases hu
 have hsz:0 < sz:=Nat.pos_of_ne_zero fun e=>by simp [e] at hlt
 have hj2:j % sz < sz:=Nat.mod_lt _ hsz
 have hj1:j / sz < n:=(Nat.div_lt_iff_lt_mul hsz).2 hlt
 have he:j=j / sz * sz + j % sz:=by rw [Nat.mul_comm]; exact (Nat.div_add_mod j sz).symm
 have h3:=D6 (g:=g) hj1 hj2
 rw [<- he] at h3
 rw [h3] at hu
 cases hu
 rw [E1]
 have:=h _ _ hj1 hj2
 rw [show o + j / sz * sz + j % sz=o + j by omega] at this
 exact this
end
/- Each operation does what its abstract twin says (last part): append; and all of them together. A helper text: it speaks of no program. -/
section
variable {P:Program} {B:Nat->Prop} {w0:World} {F0:Env P} {S:St} {β:Nat->Option Hd} {F:Nat->Prop} {a:Act} {w:World}
theorem Q8 {t ty e:TypeId} {i:TypeInfo} (ht:P.underlying t=some (.slice e)) (hi:P.info? e=some i) (base:Option Addr) (n cap:Nat) (hn:n<=cap) (x:Option Addr) (c:Nat) :
  (Builtin.append_ #[t,t] ty #[.slice base n cap,.slice x 0 c]).run P w = .ok (.slice base n cap) w:=by
 cases base<;>cases x<;>simp [Builtin.append_,run_underlying ht,sizeOf,typeInfo,hi,Builtin.lenOf,hn,Builtin.firstCells,storeCells,loadCells,loadCellsFrom]
theorem a19 {t ty e:TypeId} {i:TypeInfo} (ht:P.underlying t=some (.slice e)) (hi:P.info? e=some i) (x:Addr) (c:Nat) :
  (Builtin.append_ #[t,t] ty #[.slice none 0 0,.slice (some x) 0 c]).run P w = .ok (.slice none 0 0) w:=by
 simp [Builtin.append_,run_underlying ht,sizeOf,typeInfo,hi,Builtin.lenOf,Builtin.firstCells,loadCells,loadCellsFrom]
theorem a0t {x:AV} {v:Value} (h:RepI F w x v) (hx:x.one=true):v.oneCell'=true:=(Rep.one_cell (β:=fun _=>none) (.imm h) hx).1
theorem Q9 {α:Type} {l m:List α} {i:Nat} {d:α} (h:i < l.length):(l++m).getD i d=l.getD i d:=by simp [List.getD,List.getElem?_append_left h]
theorem O0 {α:Type} {l m:List α} {i:Nat} {d:α} (h:l.length<=i):(l++m).getD i d=m.getD (i - l.length) d:=by simp [List.getD,List.getElem?_append_right h]
theorem a0M {α:Type} {sz:Nat} {d:α} {enc:α->List AV} {l l':List α} {go gn:Nat->Nat->Value} {rest:List Value} {w':World}
  (ho:∀ i j,i < l.length->j < sz->RepI F w' ((enc (l.getD i d)).getD j .any) (go i j)) (hn:∀ i j,i < l'.length->j < sz->RepI F w' ((enc (l'.getD i d)).getD j .any) (gn i j))
  {vs:Array Value} (hvs:vs.toList=d9 go l.length sz++d9 gn l'.length sz++rest) :
  ∀ i j,i < (l++l').length->j < sz->RepI F w' ((enc ((l++l').getD i d)).getD j .any) (vs.getD (i * sz + j) undef):=by
 intro i j hi hj
 have hget:∀ k v,(d9 go l.length sz++d9 gn l'.length sz++rest)[k]? = some v->vs.getD k undef=v:=fun k v h=>by
  rw [<- hvs] at h
  have:vs[k]? = some v:=by simpa using h
  simp [Array.getD_eq_getD_getElem?,this]
 by_cases h:i < l.length
 ·rw [Q9 h,hget _ (go i j) ?_]
  ·exact ho i j h hj
  ·have:=i8 h hj
   rw [List.append_assoc,List.getElem?_append_left (by rw [d7]; exact this)]
   exact D6 h hj
 ·have hle:=Nat.le_of_not_lt h
  have hi':i - l.length < l'.length:=by simp at hi; omega
  rw [O0 hle,hget _ (gn (i - l.length) j) ?_]
  ·exact hn _ _ hi' hj
  ·have e:i * sz + j - l.length * sz=(i - l.length) * sz + j:=by rw [Nat.sub_mul]; have:=Nat.mul_le_mul_right sz hle; omega
   have h2:l.length * sz<=i * sz:=Nat.mul_le_mul_right sz hle
   have h3:=i8 hi' hj
   rw [List.append_assoc,List.getElem?_append_right (by rw [d7]; omega),d7,e,List.getElem?_append_left (by rw [d7]; exact h3)]
   exact D6 hi' hj
theorem a42 {α:Type} {sz:Nat} {d:α} {enc:α->List AV} {l:List α} {g:Nat->Nat->Value} (hcl:∀ y ∈ l,(enc y).length=sz/\s9 (enc y)=true/\I2 (enc y)=true)
  (hr:∀ i j,i < l.length->j < sz->RepI F w ((enc (l.getD i d)).getD j .any) (g i j)):∀ u ∈ d9 g l.length sz,u.oneCell'=true:=by
 intro u hu
 obtain ⟨k,hk,rfl⟩:=List.mem_map.1 hu
 have hlt:k < l.length * sz:=List.mem_range.1 hk
 have hsz:0 < sz:=Nat.pos_of_ne_zero fun e=>by simp [e] at hlt
 have h1:k / sz < l.length:=(Nat.div_lt_iff_lt_mul hsz).2 hlt
 have h2:k % sz < sz:=Nat.mod_lt _ hsz
 have hm:l.getD (k / sz) d ∈ l:=by simp [List.getD,h1]
 obtain ⟨c1,c2,c3⟩:=hcl _ hm
 exact a0t (hr _ _ h1 h2) (N8 c3 _ (by omega))
theorem K2 (z:Array Value) (n:Nat):(Builtin.zeroCells z n).size=n * z.size:=by simp [Builtin.zeroCells]
theorem a8e (hR:Rel B w0 F0 S β F a w) {o:Oper} {c:Call} (ho:o.op = .call c) (hb:c.callee = .builtin .append) (hfree:∀ d,o.dst=some d->β d=none) {K:Out->List Nat->Prop}
  (h:evOp P o.dst (.call c) S.get S.row K) {Q:Exit->Act->World->Prop}:o.wp P a w (i7 B w0 F0 S β o.dst K) Q:=by
 simp only [evOp,hb] at h
 split at h
 case h_2=>exact h.elim
 rename_i s x t t' hsx htt
 have e1:=a0i hsx
 have e2:=a0i htt
 split at h
 case h_2=>exact h.elim
 rename_i d e hd hu ht'
 have ht:=Nat.eq_of_beq_eq_true ht'
 subst ht
 split at h
 case h_2=>exact h.elim
 rename_i i z hi hz
 split at h
 case h_2=>exact h.elim
 rename_i hzs
 have hzs':=Nat.eq_of_beq_eq_true hzs
 split at h
 case h_2=>exact h.elim
 rename_i hpos
 have hpos':0 < i.size:=by simpa [Nat.blt_eq] using hpos
 split at h
 case h_2=>exact h.elim
 rename_i hbase
 obtain ⟨D,l',hDsz,hsl,hsl',hbytes,hlen,hcl,hK⟩:=h
 obtain ⟨i',zv,hi',hzv,_,hzr⟩:=F5 (β:=β) (F:=F) (w:=w) hz
 rw [hi] at hi'; cases hi'
 have hzsz:zv.cells.size=i.size:=by rw [<- hzr.1]; exact hzs'
 have hs:∀ cs,builtin .append c.argTypes o.type cs (c.args.map a.eval)=(do pure (.value (<- Builtin.append_ #[t,t] o.type #[a.eval s,a.eval x]))):=fun cs=>by
  rw [e1,e2]; simp [builtin]
 have hcl1:∀ y ∈ D.l,(D.enc y).length=D.sz/\s9 (D.enc y)=true/\I2 (D.enc y)=true:=fun y hy=>hcl y (List.mem_append_left _ hy)
 have hcl2:∀ y ∈ l',(D.enc y).length=D.sz/\s9 (D.enc y)=true/\I2 (D.enc y)=true:=fun y hy=>hcl y (List.mem_append_right _ hy)
 have hsv:=hR.get s
 have hxv:=hR.get x
 have hsrc:=b3f hR hxv hsl' hcl2
 have fd:=hfree d hd
 -- how it ends, given the run
 have fin:∀ (hd':Hd) (w':World),(Builtin.append_ #[t,t] o.type #[a.eval s,a.eval x]).run P w = .ok (.slice (hd'.b.map fun b=>⟨b,0,none⟩) hd'.len hd'.cap) w'->w.heap.size<=w'.heap.size ->
   (w'.os=w.os/\w'.tape=w.tape/\w'.output=w.output)->(∀ k,k < w.heap.size->(∀ c ∈ M6 (S.get s),S.row c ≠ .none->¬ occ β c k)->w'.heap[k]? = w.heap[k]?) ->
   (∀ b,hasB (some hd') b->b < w'.heap.size/\((∃ c ∈ M6 (S.get s),S.row c ≠ .none/\occ β c b)∨w.heap.size<=b)) ->
   (∀ β',β' d=some hd'->(∀ j,β j≠none->β' j=β j)->n4 F w w'->j8 β' F w' d (.vec e D.sz D.d D.enc (D.l++l')))->o.wp P a w (i7 B w0 F0 S β o.dst K) Q:=by
  intro hd' w' hrun g1 g2 g3 g4 g5
  obtain ⟨β',F',q1,q2⟩:=hR.retie fd (cons:=M6 (S.get s)) (dst:=o.dst) (hd':=hd') g1 g2 g3 g4 g5 (fun _ _ _ _ h=>by cases h)
  exact v6 ho hb hs hrun ⟨_,_,hK,β',F',fun j hj=>q1 j (fun e=>hj (by rw [e]; exact hd)),q2⟩
 have hmx:(D.l++l').length<=maxLen:=by simp only [List.length_append,maxLen]; omega
 -- a new block
 have fresh:∀ (go gn:Nat->Nat->Value) (cap:Nat),D.l.length + l'.length<=cap->cap<=maxLen ->
   (∀ i j,i < D.l.length->j < D.sz->RepI F w ((D.enc (D.l.getD i D.d)).getD j .any) (go i j))->(∀ i j,i < l'.length->j < D.sz->RepI F w ((D.enc (l'.getD i D.d)).getD j .any) (gn i j)) ->
   (Builtin.append_ #[t,t] o.type #[a.eval s,a.eval x]).run P w = .ok (.slice (some ⟨w.heap.size,0,none⟩) (D.l.length + l'.length) cap)
    (w.drew.alloc (.cells ((d9 go D.l.length D.sz).toArray++(d9 gn l'.length D.sz).toArray++Builtin.zeroCells zv.cells (cap - (D.l.length + l'.length))) e)) ->
   o.wp P a w (i7 B w0 F0 S β o.dst K) Q:=by
  intro go gn cap hc hcm hgo hgn hrun
  refine fin ⟨some w.heap.size,D.l.length + l'.length,cap,noM⟩ _ hrun (by simp) ⟨rfl,rfl,rfl⟩ (fun k hk _=>RowKit.Below.heap_alloc w.drew _ k hk) (fun b hb => ?_) (fun β' hβ' _ hk => ?_)
  ·simp only [hasB_plain,Option.some.injEq] at hb
   subst hb
   exact ⟨by simp,.inr (Nat.le_refl _)⟩
  ·refine ⟨_,hβ',rfl,by simp,.inr ⟨w.heap.size,_,rfl,heap_alloc_new w.drew _,by simpa using hc,hcm,?_,?_⟩⟩
   ·simp only [Array.size_append,List.size_toArray,d7,K2,hzsz,<- hDsz,<- Nat.add_mul]
    congr 1; omega
   ·exact a0M (go:=go) (gn:=gn) (fun i j h1 h2=>(hgo i j h1 h2).mono (fun _ h=>h) hk) (fun i j h1 h2=>(hgn i j h1 h2).mono (fun _ h=>h) hk)
     (rest:=(Builtin.zeroCells zv.cells (cap - (D.l.length + l'.length))).toList) (by simp)
 -- the base
 have nilbase:a.eval s = .slice none 0 0->D.l=[]->o.wp P a w (i7 B w0 F0 S β o.dst K) Q:=by
  intro hv0 hl0
  have same:l'=[]->(Builtin.append_ #[t,t] o.type #[a.eval s,a.eval x]).run P w = .ok (.slice none 0 0) w->o.wp P a w (i7 B w0 F0 S β o.dst K) Q:=by
   intro hl' hrun
   refine fin ⟨none,0,0,noM⟩ w hrun (Nat.le_refl _) ⟨rfl,rfl,rfl⟩ (fun _ _ _=>rfl) (fun b hb=>by rw [hasB_plain] at hb; cases hb) (fun β' hβ' _ _=>⟨_,hβ',rfl,by simp [hl0,hl'],.inl ⟨by simp [hl0,hl'],rfl,rfl⟩⟩)
  rcases hsrc with ⟨hl',x0,c0,hvx⟩ | ⟨b,ob,cap,g,hvx,hcell,hrep⟩
  ·refine same hl' ?_
   rw [hv0,hvx]; exact Q8 hu hi none 0 0 (Nat.le_refl _) x0 c0
  ·by_cases hm:l'.length=0
   ·refine same (List.eq_nil_of_length_eq_zero hm) ?_
    rw [hv0,hvx]
    simp only [hm]
    exact a19 hu hi _ _
   ·have hr:=run_append_nil (P:=P) w t o.type e i zv hu hi hzv ⟨b,ob,none⟩ l'.length cap (d9 g l'.length D.sz) (by rw [d7,hDsz]) (u6 hcell) (by omega) (by omega)
     (by simp only [hl0,List.length_nil,Nat.zero_add] at hbytes; omega)
    refine fresh (fun _ _=>undef) g (grownCap w l'.length 0 e) ?_ ?_ (fun i j h1=>by simp [hl0] at h1) hrep ?_
    ·simp only [hl0,List.length_nil,Nat.zero_add]; exact grownCap_ge w l'.length 0 e
    ·exact grownCap_le_maxLen w l'.length 0 e (by simp only [maxLen]; omega)
    ·rw [hv0,hvx,hr]
     simp [hl0,d9]
 have base:∀ (id b cap:Nat) (cur:Array Value) (go:Nat->Nat->Value),S.get s = .own id->S.row id ≠ .none->occ β id b->a.eval s = .slice (some ⟨b,0,none⟩) D.l.length cap->w.heap[b]? = some (.cells cur e (0,0)) ->
   D.l.length<=cap->cap<=maxLen->cur.size=cap * D.sz->(∀ i j,i < D.l.length->j < D.sz->w.cell? ⟨b,0 + i * D.sz + j,none⟩=some (go i j)) ->
   (∀ i j,i < D.l.length->j < D.sz->RepI F w ((D.enc (D.l.getD i D.d)).getD j .any) (go i j))->o.wp P a w (i7 B w0 F0 S β o.dst K) Q:=by
  intro id b cap cur go hown hlive hblk hv0 hb0 hnc hcm hcs hcell0 hrep0
  have hbB:=hR.bB id b hblk
  have hfold:d9 go D.l.length D.sz=cur.toList.take (D.l.length * D.sz):=by
   apply List.ext_getElem?
   intro k
   by_cases hk:k < D.l.length * D.sz
   ·have hsz:0 < D.sz:=by omega
    have h1:k / D.sz < D.l.length:=(Nat.div_lt_iff_lt_mul hsz).2 hk
    have h2:k % D.sz < D.sz:=Nat.mod_lt _ hsz
    have he:k=k / D.sz * D.sz + k % D.sz:=by rw [Nat.mul_comm]; exact (Nat.div_add_mod k D.sz).symm
    have h3:=D6 (g:=go) h1 h2
    rw [<- he] at h3
    have h4:=hcell0 _ _ h1 h2
    rw [Nat.zero_add,<- he] at h4
    have hlt:k < cur.size:=by
     have:D.l.length * D.sz<=cap * D.sz:=Nat.mul_le_mul_right _ hnc
     omega
    have h5:=t7 hb0 hlt
    rw [h5] at h4
    rw [h3,List.getElem?_take_of_lt hk,<- h4]
    simp [hlt]
   ·rw [List.getElem?_eq_none (by rw [d7]; omega),List.getElem?_eq_none (by rw [List.length_take]; omega)]
  by_cases hroom:D.l.length + l'.length<=cap
  ·rcases hsrc with ⟨hl',x0,c0,hvx⟩ | ⟨bx,ob,capx,g,hvx,hcell,hrep⟩
   ·refine fin ⟨some b,D.l.length,cap,noM⟩ w ?_ (Nat.le_refl _) ⟨rfl,rfl,rfl⟩ (fun _ _ _=>rfl) (fun b' hb' => ?_) (fun β' hβ' _ _ => ?_)
    ·rw [hv0,hvx]; exact Q8 hu hi _ _ _ hnc x0 c0
    ·simp only [hasB_plain,Option.some.injEq] at hb'
     subst hb'
     exact ⟨hbB.2,.inl ⟨id,by rw [hown]; simp [M6],hlive,hblk⟩⟩
    ·have hl0:l'=[]:=hl'
     refine ⟨_,hβ',rfl,by simp [hl0],.inr ⟨b,cur,rfl,hb0,by simpa [hl0] using hnc,hcm,hcs,fun p q hp hq => ?_⟩⟩
     have hp':p < D.l.length:=by simpa [hl0] using hp
     have h4:=hcell0 _ _ hp' hq
     rw [Nat.zero_add,t7 hb0 (by rw [hcs]; exact i8 (by omega) hq)] at h4
     simp only [Option.some.injEq] at h4
     rw [hl0,List.append_nil,h4]
     exact hrep0 p q hp' hq
   ·have hfit:D.l.length * i.size + (d9 g l'.length D.sz).length<=cur.size:=by
     rw [d7,hcs,<- hDsz,<- Nat.add_mul]; exact Nat.mul_le_mul_right _ hroom
    have hr:=run_append_room (P:=P) w t o.type e i hu hi b D.l.length cap cur hb0 ⟨bx,ob,none⟩ l'.length capx (d9 g l'.length D.sz) (by rw [d7,hDsz]) (u6 hcell)
     (a42 hcl2 hrep) hroom hfit
    obtain ⟨f1,f2,f3⟩:=A3 b cur (cur.toList.take (D.l.length * i.size)++d9 g l'.length D.sz++cur.toList.drop (D.l.length * i.size + (d9 g l'.length D.sz).length)).toArray e (0,0) hb0
    refine fin ⟨some b,D.l.length + l'.length,cap,noM⟩ _ (by rw [hv0,hvx]; exact hr) (by rw [f1.2.2.2]; exact Nat.le_refl _) ⟨f1.1,f1.2.1,f1.2.2.1⟩ (fun k hk hn=>f2 k fun e => ?_) (fun b' hb' => ?_) (fun β' hβ' _ hk => ?_)
    ·subst e; exact hn id (by rw [hown]; simp [M6]) hlive hblk
    ·simp only [hasB_plain,Option.some.injEq] at hb'
     subst hb'
     exact ⟨by rw [f1.2.2.2]; exact hbB.2,.inl ⟨id,by rw [hown]; simp [M6],hlive,hblk⟩⟩
    ·refine ⟨_,hβ',rfl,by simp,.inr ⟨b,_,rfl,f3,by simpa using hroom,hcm,?_,?_⟩⟩
     ·simp only [List.size_toArray,List.length_append,List.length_take,List.length_drop,Array.length_toList]
      rw [<- hcs]; omega
     ·refine a0M (go:=go) (gn:=g) (fun i j h1 h2=>(hrep0 i j h1 h2).mono (fun _ h=>h) hk) (fun i j h1 h2=>(hrep i j h1 h2).mono (fun _ h=>h) hk)
       (rest:=cur.toList.drop (D.l.length * i.size + (d9 g l'.length D.sz).length)) ?_
      rw [hfold,hDsz]
  ·rcases hsrc with ⟨hl',x0,c0,hvx⟩ | ⟨bx,ob,capx,g,hvx,hcell,hrep⟩
   ·have hl0:l'=[]:=hl'
    simp [hl0] at hroom; omega
   ·have hfs:d9 go D.l.length D.sz=d9 go D.l.length i.size:=by rw [hDsz]
    have hr:=run_append_grow (P:=P) w t o.type e i zv hu hi hzv ⟨b,0,none⟩ D.l.length cap (d9 go D.l.length D.sz) (by rw [d7,hDsz]) (u6 hcell0) ⟨bx,ob,none⟩ l'.length capx (d9 g l'.length D.sz)
     (by rw [d7,hDsz]) (u6 hcell) (by omega) (by omega) (growslice_fits (by omega) (by omega))
    refine fresh go g (grownCap w (D.l.length + l'.length) cap e) (grownCap_ge w _ _ e) (grownCap_le_maxLen w _ _ e (by simp only [maxLen]; omega)) hrep0 hrep ?_
    rw [hv0,hvx,hr]
 have fl:P7 S.row (S.get s) (S.get x)=true->0 < l'.length:=fun h=>by
  unfold P7 at h
  split at h
  ·split at h
   ·rename_i q hgx
    split at h
    ·rename_i hq
     rw [hgx] at hsl'
     simp only [IsSl,hq] at hsl'
     have:=W7 hsl'.2
     simp at this
     omega
    ·cases h
   ·cases h
  ·cases h
 have sfb:∀ (y:Addr) (go:Nat->Nat->Value),a.eval s = .slice (some y) D.l.length D.l.length->0 < l'.length->(∀ j v,(d9 go D.l.length D.sz)[j]? = some v->w.cell? (y.add j)=some v) ->
   (∀ i j,i < D.l.length->j < D.sz->RepI F w ((D.enc (D.l.getD i D.d)).getD j .any) (go i j))->o.wp P a w (i7 B w0 F0 S β o.dst K) Q:=by
  intro y go hv0 hne hcell0 hrep0
  rcases hsrc with ⟨hl',x0,c0,hvx⟩ | ⟨bx,ob,capx,g,hvx,hcell,hrep⟩
  ·have h0:l'=[]:=hl'
   rw [h0] at hne
   exact absurd hne (Nat.lt_irrefl 0)
  ·have hr:=run_append_grow (P:=P) w t o.type e i zv hu hi hzv y D.l.length D.l.length (d9 go D.l.length D.sz) (by rw [d7,hDsz]) hcell0 ⟨bx,ob,none⟩ l'.length capx (d9 g l'.length D.sz)
    (by rw [d7,hDsz]) (u6 hcell) (by omega) (by omega) (growslice_fits (by omega) (by omega))
   refine fresh go g (grownCap w (D.l.length + l'.length) D.l.length e) (grownCap_ge w _ _ e) (grownCap_le_maxLen w _ _ e (by simp only [maxLen]; omega)) hrep0 hrep ?_
   rw [hv0,hvx,hr]
 by_cases hfull:P7 S.row (S.get s) (S.get x)=true
 ·have hne:=fl hfull
  cases hg:S.get s<;>rw [hg] at hfull hsl hsv<;>simp only [P7,IsSl] at hfull hsl
  case sf =>
   subst hsl
   rcases hsv.sf_inv with ⟨hl0,x0,hv0⟩ | ⟨b,ob,g0,hv0,hcell0,hrep0⟩
   ·cases x0 with
    | none=>exact nilbase hv0 hl0
    | some y=>exact sfb y (fun _ _=>undef) (by rw [hv0]; simp [hl0]) hne (fun j v h=>by simp [hl0,d9] at h) (fun i j h1=>by simp [hl0] at h1)
   ·exact sfb ⟨b,ob,none⟩ g0 hv0 hne (u6 fun i j hi hj=>(hcell0 i j hi hj).2) hrep0
  all_goals cases hfull
 have hfull':P7 S.row (S.get s) (S.get x)=false:=by simpa using hfull
 rw [hfull',Bool.or_false] at hbase
 cases hg:S.get s<;>rw [hg] at hsl hbase<;>simp only [IsSl,a1f] at hsl hbase
 case nils =>
  rw [hg] at hsv
  exact nilbase hsv.nils_inv hsl
 case own id =>
  rw [hg] at hsv
  obtain ⟨hd0,hβ,hv0⟩:=hsv.own_inv
  have hty:∀ {ty},(S.row id).tyIs e=true->(∀ {α} {sz d enc} {l:List α},S.row id = .vec ty sz d enc l->ty=e)/\(∀ {sz css},S.row id = .lit ty sz css->ty=e):=by
   intro ty hty
   refine ⟨fun h => ?_,fun h => ?_⟩<;>(rw [h] at hty; exact Nat.eq_of_beq_eq_true hty)
  split at hsl
  ·rename_i ty sz dd enc l hr
   obtain rfl:=(hty hbase).1 hr
   obtain ⟨q2,q3⟩:=G9 hR hr hβ
   subst hsl
   rcases q3 with ⟨h1,h2,h3⟩ | ⟨b,vs,h1,h2,h3,h4,h5,h6⟩
   ·refine nilbase ?_ h1
    rw [hv0,h2,q2,h3,h1]; rfl
   ·exact base id b hd0.cap vs (fun i j=>vs.getD (i * _ + j) undef) hg (by rw [hr]; simp) (by rw [occ,hβ]; exact n9 h1) (by rw [hv0,h1,q2]; rfl) h2 h3 h4 h5
     (fun i j hi hj=>by rw [Nat.zero_add]; exact t7 h2 (by rw [h5]; exact i8 (Nat.lt_of_lt_of_le hi h3) hj)) h6
  ·rename_i ty sz css hr
   obtain rfl:=(hty hbase).2 hr
   obtain ⟨q1,q2⟩:=hsl
   have:=hR.rows id
   rw [hr] at this
   obtain ⟨hd',b,vs,p1,pm,p2,p3,p4,p5,p6,p7,p8⟩:=this
   rw [hβ] at p1; cases p1
   have hlen:css.length=D.l.length:=W7 q2
   refine base id b hd0.cap vs (fun i j=>vs.getD (i * D.sz + j) undef) hg (by rw [hr]; simp) (by rw [occ,hβ]; exact n9 p2) (by rw [hv0,p2,p4,hlen]; rfl) p3 (by omega) (by omega) (by rw [p6,p5,q1])
    (fun i j hi hj=>by rw [Nat.zero_add]; exact t7 p3 (by rw [p6,q1]; exact i8 (by omega) hj)) (fun i j hi hj => ?_)
   have hgi:=a3Y (d:=D.d) q2 hi
   have hm:D.l.getD i D.d ∈ D.l:=by simp [List.getD,hi]
   have:=p8 i j (by omega) (by rw [q1]; exact hj)
   rw [q1] at this
   have hc:=t9 (hcl1 _ hm).2.1 j
   rw [<- hgi,Q6] at hc ⊢
   exact this.tts.shut hc
  ·exact hsl.elim
 all_goals simp at hbase
end

end Go.Ev
