/- Helper lemmas. -/
import Derived.Test.YtpmmjoccamogdaaGreatEvTwo
import Derived.IntWalk
set_option linter.unusedVariables false
set_option linter.unusedSimpArgs false
/- Each operation does what its abstract twin says (sixth part): places in structs and slices, new slices. A helper text: it speaks of no program. -/
namespace Go.Ev
section
variable {P:Program} {B:Nat->Prop} {w0:World} {F0:Env P} {S:St} {β:Nat->Option Hd} {F:Nat->Prop} {a:Act} {w:World}
theorem kY (hR:Rel B w0 F0 S β F a w) {o:Oper} {s:TypeId} {x:Operand} {f:Nat} (ho:o.op = .fieldAddr s x f) {K:Out->List Nat->Prop} (h:o5 P o.dst (.fieldAddr s x f) S.get S.row K) {Q:Exit->Act->World->Prop} :
  o.wp P a w (s7 B w0 F0 S β o.dst K) Q:=by
 simp only [o5] at h
 split at h
 case h_2=>exact h.elim
 rename_i fs hu
 split at h
 case h_2=>exact h.elim
 rename_i fd hf
 split at h
 case h_2=>exact h.elim
 rename_i i hi
 split at h
 case h_1=>exact h.elim
 rename_i hz
 have Kq:i.size≠0:=fun e=>by rw [e] at hz;simp at hz
 have hx:=hR.get x
 have C9:execOp a.eval o=(do pure (.value (<- Instr.fieldAt s (a.eval x) f))):=by simp [execOp,ho]
 have A7:∀ b ob,(Instr.fieldAt s (.pointer (some ⟨b,ob,none⟩)) f).run P w = .ok (.pointer (some ⟨b,ob + fd.offset,none⟩)) w:=fun b ob=>by
  simp [Instr.fieldAt,run_underlying hu,hf,Instr.sureAddr,fieldPlace,sizeOf,typeInfo,hi,Kq,G0]
 split at h
 ·rename_i cs off hg
  rw [hg] at hx
  obtain ⟨b,ob,g,hv,hc,hr⟩:=hx.pt_inv
  rw [hv] at C9
  refine C4 C9 (A7 _ _) (s7.still hR (.imm ?_) h)
  rw [Nat.add_assoc]
  exact .pt g hc hr
 ·rename_i id sz j off hg
  rw [hg] at hx
  obtain ⟨hd,b,hb,hh,hv⟩:=hx.ptr_inv
  rw [hv] at C9
  refine C4 C9 (A7 _ _) (s7.still hR ?_ h)
  rw [Nat.add_assoc]
  exact .ptr hb hh
 ·exact h.elim
theorem pa (hR:Rel B w0 F0 S β F a w) {o:Oper} {x:Operand} {i:Nat} (ho:o.op = .extract x i) {K:Out->List Nat->Prop} (h:o5 P o.dst (.extract x i) S.get S.row K) {Q:Exit->Act->World->Prop} :
  o.wp P a w (s7 B w0 F0 S β o.dst K) Q:=by
 simp only [o5] at h
 split at h
 case h_2=>exact h.elim
 rename_i l hg
 split at h
 case h_2=>exact h.elim
 rename_i u2
 have hx:=hR.get x
 rw [hg] at hx
 obtain ⟨vs,hv,hl,hr⟩:=hx.tup_inv
 have GY:i < l.length:=by simpa [Nat.blt_eq] using u2
 have C9:execOp a.eval o=(do pure (.value (<- Instr.extract (a.eval x) i))):=by simp [execOp,ho]
 rw [hv] at C9
 refine C4 C9 (v:=vs.getD i undef) (w':=w) ?_ (s7.still hR (hr i GY) h)
 simp [Instr.extract,show i < vs.size by omega]
theorem pb (hR:Rel B w0 F0 S β F a w) {o:Oper} {src t:TypeId} {x:Operand} (ho:o.op = .convert src t x) {K:Out->List Nat->Prop} (h:o5 P o.dst (.convert src t x) S.get S.row K) {Q:Exit->Act->World->Prop} :
  o.wp P a w (s7 B w0 F0 S β o.dst K) Q:=by
 simp only [o5] at h
 split at h
 case h_2=>exact h.elim
 rename_i d k kk n hs ht hg
 have hx:=hR.get x
 rw [hg] at hx
 have C9:execOp a.eval o=(do pure (.value (<- convert src t (a.eval x)))):=by simp [execOp,ho]
 rw [hx.int_inv] at C9
 exact C4 C9 (v := .int k (k.wrap n)) (w':=w) (by simp [convert,run_underlying hs,run_underlying ht,Conv.intToInt]) (s7.still hR (.imm (.int _ _)) h)
theorem E0 (hR:Rel B w0 F0 S β F a w) (xs:Array Operand):(xs.toList.map S.get).length=(xs.map a.eval).size/\∀ i,i < (xs.toList.map S.get).length->v7 β F w ((xs.toList.map S.get).getD i .any) ((xs.map a.eval).getD i undef):=by
 refine ⟨by simp,fun i hi=>?_⟩
 have U3:i < xs.size:=by simpa using hi
 have e1:(xs.toList.map S.get).getD i .any=S.get xs[i]:=by simp [List.getD,U3]
 have e2:(xs.map a.eval).getD i undef=a.eval xs[i]:=by simp [Array.getD_eq_getD_getElem?,U3]
 rw [e1,e2]
 exact hR.get _
theorem mU (hR:Rel B w0 F0 S β F a w) {o:Oper} {f:Fn} {xs ys:Array Operand} (ho:o.op = .makeFunc f xs ys) {K:Out->List Nat->Prop} (h:o5 P o.dst (.makeFunc f xs ys) S.get S.row K) {Q:Exit->Act->World->Prop} :
  o.wp P a w (s7 B w0 F0 S β o.dst K) Q:=by
 simp only [o5] at h
 have C9:execOp a.eval o=(do pure (.value (<- Instr.makeFunc f (xs.map a.eval) (ys.map a.eval)))):=by simp [execOp,ho]
 obtain ⟨h1,h2⟩:=E0 hR xs
 obtain ⟨h3,h4⟩:=E0 hR ys
 exact C4 C9 (v := .func f (xs.map a.eval) (ys.map a.eval)) (w':=w) (by simp [Instr.makeFunc]) (s7.still hR (.fn h1 h2 h3 h4) h)
theorem mV (hR:Rel B w0 F0 S β F a w) {o:Oper} {x:Operand} (ho:o.op = .nilCheck x) {K:Out->List Nat->Prop} (h:o5 P o.dst (.nilCheck x) S.get S.row K) {Q:Exit->Act->World->Prop} :
  o.wp P a w (s7 B w0 F0 S β o.dst K) Q:=by
 simp only [o5] at h
 have hx:=hR.get x
 split at h
 ·rename_i c cs off hg
  rw [hg] at hx
  obtain ⟨b,ob,g,hv,_,_⟩:=hx.pt_inv
  exact V3 (v:=a.eval x) (w':=w) (by simp [execOp,ho,hv]) (s7.still hR hx h)
 ·rename_i id sz j off hg
  rw [hg] at hx
  obtain ⟨hd,b,hb,hh,hv⟩:=hx.ptr_inv
  exact V3 (v:=a.eval x) (w':=w) (by simp [execOp,ho,hv]) (s7.still hR hx h)
 ·exact h.elim
theorem ur (hR:Rel B w0 F0 S β F a w) {o:Oper} {t:TypeId} {x ix:Operand} (ho:o.op = .index t x ix) {K:Out->List Nat->Prop} (h:o5 P o.dst (.index t x ix) S.get S.row K) {Q:Exit->Act->World->Prop} :
  o.wp P a w (s7 B w0 F0 S β o.dst K) Q:=by
 simp only [o5] at h
 split at h
 case h_2=>exact h.elim
 rename_i k n hn
 have zX:=hR.get ix
 rw [hn] at zX
 have C9:execOp a.eval o=(do pure (.value (<- Instr.index t (a.eval x) (a.eval ix)))):=by simp [execOp,ho]
 split at h
 ·rename_i s hg
  have hx:=hR.get x
  rw [hg] at hx
  split at h
  case h_2=>exact h.elim
  rename_i hu
  obtain ⟨⟨h0,h1⟩,h⟩:=(y7 _ _ _).1 h
  have V4:a.eval x = .string s:=by
   generalize a.eval x=v at hx
   cases hx with|imm h=>cases h;rfl
  rw [zX.int_inv,V4] at C9
  have u2:n.toNat < s.size:=by omega
  have hb:s[n.toNat]? = some s[n.toNat]:=by simp [u2]
  refine C4 C9 (v := .int .u8 (fO s n.toNat)) (w':=w) ?_ (s7.still hR (.imm (.int _ _)) h)
  simp [Instr.index,run_underlying hu,asIntOf,h0,fO,hb]
 ·rename_i l hg
  have hx:=hR.get x
  rw [hg] at hx
  split at h
  case h_2=>exact h.elim
  rename_i len e hu
  split at h
  case h_2=>exact h.elim
  rename_i inf d hi hd
  split at h
  case h_2=>exact h.elim
  rename_i hc
  simp only [Bool.and_eq_true,Bool.not_eq_true'] at hc
  obtain ⟨c1,c2,c3⟩:=hc
  have c2:=Nat.eq_of_beq_eq_true c2
  have c3:=Nat.eq_of_beq_eq_true c3
  obtain ⟨⟨h0,h1⟩,h⟩:=(y7 _ _ _).1 h
  obtain ⟨vs,hv,hl,hr⟩:=hx.agg_inv
  rw [zX.int_inv,hv] at C9
  have u2:n.toNat < l.length:=by omega
  have wF:n.toNat < vs.size:=by omega
  have he:vs[n.toNat]? = some (vs.getD n.toNat undef):=by simp [Array.getD_eq_getD_getElem?,wF]
  have C1:(sizeOf e).run P w = .ok 1 w:=by rw [run_sizeOf w hi];simp [Program.cellsOf,hi,c2]
  have Kr:(isAgg e).run P w = .ok false w:=by
   cases d<;>simp [Q3] at c1<;>simp [isAgg,run_underlying hd]
  refine C4 C9 (v:=vs.getD n.toNat undef) (w':=w) ?_ (s7.still hR (hr _ u2) h)
  generalize vs.getD n.toNat undef=u at he
  simp [Instr.index,run_underlying hu,asIntOf,h0,h1,part,C1,Kr,he]
 ·exact h.elim
theorem kZ (hR:Rel B w0 F0 S β F a w) {o:Oper} {t:TypeId} {x ix:Operand} (ho:o.op = .indexAddr t x ix) {K:Out->List Nat->Prop} (h:o5 P o.dst (.indexAddr t x ix) S.get S.row K) {Q:Exit->Act->World->Prop} :
  o.wp P a w (s7 B w0 F0 S β o.dst K) Q:=by
 simp only [o5] at h
 split at h
 case h_2=>exact h.elim
 rename_i k n hn
 have zX:=hR.get ix
 rw [hn] at zX
 have hx:=hR.get x
 have C9:execOp a.eval o=(do pure (.value (<- Instr.indexAt t (a.eval x) (a.eval ix)))):=by simp [execOp,ho]
 rw [zX.int_inv] at C9
 split at h
 ·rename_i e hu
  split at h
  case h_2=>exact h.elim
  rename_i inf hi
  have A7:∀ b ob len cap,0<=n->n < (len:Nat)->(Instr.indexAt t (.slice (some ⟨b,ob,none⟩) len cap) (.int k n)).run P w = .ok (.pointer (some ⟨b,ob + n.toNat * inf.size,none⟩)) w:=fun b ob len cap h0 h1=>by
   simp [Instr.indexAt,run_underlying hu,asIntOf,h0,h1,sizeOf,typeInfo,hi,G0]
  split at h
  ·rename_i α sz d enc l hg
   rw [hg] at hx
   split at h
   case h_2=>exact h.elim
   rename_i C1
   have fP:=Nat.eq_of_beq_eq_true C1
   obtain ⟨⟨h0,h1⟩,h⟩:=(y7 _ _ _).1 h
   split at h
   case h_2=>exact h.elim
   rename_i hlen
   have BO:=Nat.eq_of_beq_eq_true hlen
   rcases hx.sl_inv with ⟨hl,_⟩|⟨b,ob,cap,g,hv,hc,hb,hr⟩
   ·rw [hl] at h1;simp at h1;omega
   ·rw [hv] at C9
    refine C4 C9 (A7 _ _ _ _ h0 h1) (s7.still hR (.imm ?_) h)
    have EF:n.toNat < l.length:=by omega
    have:=p9.pt (F:=F) (w:=w) (cs:=enc (l.getD n.toNat d)) (off:=0) (b:=b) (o:=ob + n.toNat * sz) (fun j=>g n.toNat j) (fun j hj=>hb _ _ EF (by omega)) (fun j hj=>hr _ _ EF (by omega))
    rw [<- fP];exact this
  ·rename_i sz z7 hg
   rw [hg] at hx
   split at h
   case h_2=>exact h.elim
   rename_i C1
   have fP:=Nat.eq_of_beq_eq_true C1
   obtain ⟨⟨h0,h1⟩,h⟩:=(y7 _ _ _).1 h
   split at h
   case h_2=>exact h.elim
   rename_i hlen
   have BO:=Nat.le_of_ble_eq_true hlen
   rcases hx.slc_inv with ⟨hl,_⟩|⟨b,ob,cap,g,hv,hc,hb,hr⟩
   ·rw [hl] at h1;simp at h1;omega
   ·rw [hv] at C9
    refine C4 C9 (A7 _ _ _ _ h0 h1) (s7.still hR (.imm ?_) h)
    have EF:n.toNat < z7.length:=by omega
    have:=p9.pt (F:=F) (w:=w) (cs:=z7.getD n.toNat []) (off:=0) (b:=b) (o:=ob + n.toNat * sz) (fun j=>g n.toNat j) (fun j hj=>hb _ _ EF (by omega)) (fun j hj=>hr _ _ EF (by omega))
    rw [<- fP];exact this
  ·rename_i id hg
   rw [hg] at hx
   obtain ⟨hd,hb,hv⟩:=hx.own_inv
   split at h
   ·rename_i α ty sz d enc l hr
    split at h
    case h_2=>exact h.elim
    rename_i C1
    have fP:=Nat.eq_of_beq_eq_true C1
    obtain ⟨⟨h0,h1⟩,h⟩:=(y7 _ _ _).1 h
    obtain ⟨dX,cV⟩:=Q5 hR hr hb
    rcases cV with ⟨h2,_⟩|⟨b,vs,e1,_⟩
    ·rw [h2] at h1;simp at h1;omega
    ·rw [hv,e1] at C9
     refine C4 C9 (A7 _ _ _ _ h0 (by omega)) (s7.still hR ?_ h)
     rw [Nat.zero_add,<- fP]
     exact .ptr hb e1
   ·rename_i ty sz z7 hr
    split at h
    case h_2=>exact h.elim
    rename_i C1
    have fP:=Nat.eq_of_beq_eq_true C1
    obtain ⟨⟨h0,h1⟩,h⟩:=(y7 _ _ _).1 h
    obtain ⟨b,vs,e1,_,dX,_⟩:=iK hR hr hb
    rw [hv,e1] at C9
    refine C4 C9 (A7 _ _ _ _ h0 (by omega)) (s7.still hR ?_ h)
    rw [Nat.zero_add,<- fP]
    exact .ptr hb e1
   ·exact h.elim
  ·exact h.elim
 ·rename_i len e hu
  split at h
  case h_2=>exact h.elim
  rename_i inf hi
  obtain ⟨⟨h0,h1⟩,h⟩:=(y7 _ _ _).1 h
  have A7:∀ b ob,(Instr.indexAt t (.pointer (some ⟨b,ob,none⟩)) (.int k n)).run P w = .ok (.pointer (some ⟨b,ob + n.toNat * inf.size,none⟩)) w:=fun b ob=>by
   simp [Instr.indexAt,run_underlying hu,asIntOf,Instr.sureAddr,h0,h1,sizeOf,typeInfo,hi,G0]
  split at h
  ·rename_i cs off hg
   rw [hg] at hx
   obtain ⟨b,ob,g,hv,hc,hr⟩:=hx.pt_inv
   rw [hv] at C9
   refine C4 C9 (A7 _ _) (s7.still hR (.imm ?_) h)
   rw [Nat.add_assoc]
   exact .pt g hc hr
  ·rename_i id sz j off hg
   rw [hg] at hx
   obtain ⟨hd,b,hb,hh,hv⟩:=hx.ptr_inv
   rw [hv] at C9
   refine C4 C9 (A7 _ _) (s7.still hR ?_ h)
   rw [Nat.add_assoc]
   exact .ptr hb hh
  ·exact h.elim
 ·exact h.elim
theorem D8 (z:List AV):∀ n,(List.replicate n z).flatten.length=n * z.length
 | 0=>by simp
 | n + 1=>by simp [List.replicate_succ,D8 z n,Nat.add_mul];omega
theorem Q6 (z:List AV) (hz:0 < z.length):∀ n i,i < n * z.length->(List.replicate n z).flatten.getD i .any=z.getD (i % z.length) .any
 | 0,i,h=>by simp at h
 | n + 1,i,h=>by
  rw [List.replicate_succ,List.flatten_cons]
  by_cases hi:i < z.length
  ·rw [Nat.mod_eq_of_lt hi]
   simp [List.getD,List.getElem?_append_left hi]
  ·have h':i - z.length < n * z.length:=by rw [Nat.add_mul] at h;omega
   have ih:=Q6 z hz n (i - z.length) h'
   have e:i % z.length=(i - z.length) % z.length:=by rw [Nat.mod_eq_sub_mod (by omega)]
   rw [e,<- ih]
   simp [List.getD,List.getElem?_append_right (Nat.le_of_not_lt hi)]
theorem uu {zv:Array Value} {z:List AV} (hz:bT (v7 β F w) z zv) (h0:0 < z.length) (n:Nat):bT (v7 β F w) (List.replicate n z).flatten ((Array.range (n * z.length)).map (zv[· % zv.size]!)):=by
 refine ⟨by rw [D8];simp,fun i hi=>?_⟩
 rw [D8] at hi
 rw [Q6 z h0 n i hi]
 have hm:i % z.length < z.length:=Nat.mod_lt _ h0
 have e:((Array.range (n * z.length)).map (zv[· % zv.size]!)).getD i undef=zv.getD (i % z.length) undef:=by
  have Jn:i % zv.size < zv.size:=by rw [<- hz.1];exact hm
  have uv:i < n * zv.size:=by rw [<- hz.1];exact hi
  simp [Array.getD_eq_getD_getElem?,uv,hz.1,Jn,getElem!_pos]
 rw [e]
 exact hz.2 _ hm
theorem rA (cs:List AV) (sz n i j:Nat) (hi:i < n) (hj:j < sz):((((List.range n).map fun j=>(cs.drop (j * sz)).take sz)).getD i []).getD j .any=cs.getD (i * sz + j) .any:=by
 have e:((List.range n).map fun j=>(cs.drop (j * sz)).take sz).getD i []=(cs.drop (i * sz)).take sz:=by simp [List.getD,hi]
 rw [e,cj _ _ _ _ hj]
theorem iZ (hR:Rel B w0 F0 S β F a w) {o:Oper} {t:TypeId} {n:Nat} {ps:Array (Nat×Operand)} (ho:o.op = .buildSlice t n ps) (u5:∀ d,o.dst=some d->β d=none) {K:Out->List Nat->Prop}
  (h:o5 P o.dst (.buildSlice t n ps) S.get S.row K) {Q:Exit->Act->World->Prop}:o.wp P a w (s7 B w0 F0 S β o.dst K) Q:=by
 simp only [o5] at h
 split at h
 case h_2=>exact h.elim
 rename_i d e hd hu
 split at h
 case h_2=>exact h.elim
 rename_i i z hi hz
 split at h
 case h_2=>exact h.elim
 rename_i pc
 have uw:=Nat.eq_of_beq_eq_true pc
 split at h
 case h_2=>exact h.elim
 rename_i hle
 simp only [Bool.and_eq_true,Nat.blt_eq] at hle
 have Ks:=Nat.le_of_ble_eq_true hle.1
 have GZ:=hle.2
 split at h
 case h_2=>exact h.elim
 rename_i cs hf
 obtain ⟨i',zv,U3,kW,_,vX⟩:=O4 (β:=β) (F:=F) (w:=w) hz
 rw [hi] at U3; cases U3
 have Ha:=uu vX (by omega) n
 obtain ⟨p1,p2⟩:=lV hR ps
 obtain ⟨us,ry,sZ⟩:=ew p1 p2 Ha hf
 have hl:=vX.1
 have C9:execOp a.eval o=(do pure (.value (<- Instr.buildSlice t n (ps.map fun (i,x)=>(i,a.eval x))))):=by simp [execOp,ho]
 have N0:cs.length=n * i.size:=by
  have:∀ {place:Nat->Option (Nat×Nat)} {S8:List (Nat×AV)} {xs cs:List AV},ag place xs S8=some cs->cs.length=xs.length:=by
   intro place S8
   induction S8 with
   | nil=>intro xs cs h;simp [ag] at h;rw [h]
   | cons p S8 ih =>
    intro xs cs h
    obtain ⟨k,x⟩:=p
    simp only [ag] at h
    split at h
    ·cases h
    ·split at h
     ·cases h
     ·split at h
      ·cases h
      ·rename_i h1
       split at h
       ·cases h
       ·rename_i h2
        have e1:=Nat.eq_of_beq_eq_true h1
        have e2:=Nat.le_of_ble_eq_true h2
        rw [ih h,V2 (by omega)]
  rw [this hf,D8,uw]
 have A7:(Instr.buildSlice t n (ps.map fun (i,x)=>(i,a.eval x))).run P w = .ok (.slice (some ⟨w.heap.size,0,none⟩) n n) (w.alloc (.cells us e)):=by
  have vY:¬ (2 ^ 24 < n * i.size):=by omega
  rw [uw] at ry
  simp only [Instr.buildSlice,Sem.run_bind,run_underlying hu,Result.andThen_ok,run_sizeOf w hi,Program.cellsOf,hi,Option.map_some,Option.getD_some,gt_iff_lt,vY,if_false,Sem.run_pure]
  split
  ·rename_i h0
   have e0:∀ (f g:Nat->Value),(Array.range (n * i.size)).map f=(Array.range (n * i.size)).map g:=fun f g=>by rw [h0];simp
   simp only [Sem.run_bind,Sem.run_pure,Result.andThen_ok]
   rw [e0 _ (zv.cells[· % zv.cells.size]!),ry]
   simp [newRow]
  ·simp only [Sem.run_bind,zeroValue,typeInfo,run_program,hi,kW,Result.andThen_ok,Sem.run_pure,ry]
   simp [newRow]
 obtain ⟨β',h1,h2⟩:=hR.alloc (u5 d hd) (dst:=o.dst) (x := .own d) (v := .slice (some ⟨w.heap.size,0,none⟩) n n) (r := .lit e i.size ((List.range n).map fun j=>(cs.drop (j * i.size)).take i.size)) (vs:=us) (ty:=e) n n
  (fun β' hb _=>by have:=v7.own (F:=F) (w:=w.alloc (.cells us e)) hb;simpa using this)
  (fun β' hb hg hk=>⟨_,w.heap.size,us,hb,rfl,rfl,G9 w _,by simp,by simp,by rw [<- sZ.1,N0];simp,by
    simp only [List.length_map,List.length_range,maxLen]
    have:n * 1<=n * i.size:=Nat.mul_le_mul_left n GZ
    omega,fun p q hp hq=>by
    have fQ:p < n:=by simpa using hp
    rw [rA _ _ _ _ _ fQ hq]
    exact (sZ.2 _ (by rw [N0];exact u1 fQ hq)).grow hg (fun _ h=>h) hk⟩) (fun _ _ _ _ h=>by cases h)
 exact C4 C9 A7 ⟨_,_,h,β',F,fun j hj=>h1 j (fun e=>hj (by rw [e];exact hd)),h2⟩
end
/- Each operation does what its abstract twin says (seventh part): slices, built-in functions, calls. A helper text: it speaks of no program. -/
section
variable {P:Program} {B:Nat->Prop} {w0:World} {F0:Env P} {S:St} {β:Nat->Option Hd} {F:Nat->Prop} {a:Act} {w:World}
theorem rB (hR:Rel B w0 F0 S β F a w) {o:Oper} {t:TypeId} {x m:Operand} {lo hi:Option Operand} (ho:o.op = .slice t x lo hi (some m)) {K:Out->List Nat->Prop}
  (h:o5 P o.dst (.slice t x lo hi (some m)) S.get S.row K) {Q:Exit->Act->World->Prop} :
  o.wp P a w (s7 B w0 F0 S β o.dst K) Q:=by
 cases lo with
 | some _=>simp only [o5] at h
 | none =>
 cases hi with
 | none=>simp only [o5] at h
 | some hh =>
 simp only [o5] at h
 split at h
 case h_2=>exact h.elim
 rename_i e hu
 split at h
 case h_2=>exact h.elim
 rename_i inf U3
 split at h
 case h_2=>exact h.elim
 rename_i α sz d enc l hg
 split at h
 case h_2=>exact h.elim
 rename_i C1
 have fP:=Nat.eq_of_beq_eq_true C1
 split at h
 case h_2=>exact h.elim
 rename_i kb q kc c zG zH
 obtain ⟨⟨h0,h1,h2⟩,hK⟩:=(y7 _ _ _).1 h
 subst h2
 have hx:=hR.get x
 rw [hg] at hx
 have Kt:a.eval hh = .int kb c:=by have:=hR.get hh;rw [zG] at this;exact this.int_inv
 have Ku:a.eval m = .int kc c:=by have:=hR.get m;rw [zH] at this;exact this.int_inv
 have C9:execOp a.eval o=(do pure (.value (<- Instr.sliceAt t (a.eval x) none (some (.int kb c)) (some (.int kc c))))):=by
  rw [<- Kt,<- Ku]
  simp [execOp,ho]
 have hb:∀ cap:Nat,l.length<=cap->(Instr.sliceBounds true l.length cap none (some (.int kb c)) (some (.int kc c))).run P w = .ok (0,c.toNat,c.toNat) w:=by
  intro cap wG
  have c2:c<=(cap:Int):=by omega
  have c3:c<=max c 0:=by omega
  simp [Instr.sliceBounds,Instr.sliceBound,asIntOf,h0,c2,c3]
 rcases hx.sl_inv with ⟨ak,x0,c0,hv⟩|⟨b,ob,cap,g,hv,hc,B7,hr⟩
 ·rw [hv] at C9
  subst ak
  have hq:c=0:=by simp at h1;omega
  subst hq
  have ta:=hb c0 (by simp)
  simp only [List.length_nil] at ta
  obtain ⟨v',Hb⟩:∃ v',(Instr.sliceAt t (.slice x0 0 c0) none (some (.int kb 0)) (some (.int kc 0))).run P w = .ok (.slice v' 0 0) w:=by
   simp only [Instr.sliceAt,Instr.slice,Sem.run_bind,run_underlying hu,Result.andThen_ok,ta,run_sizeOf w U3,Sem.run_pure]
   simp
  refine C4 C9 Hb (s7.still hR (.imm ?_) hK)
  simp;exact .sfnil
 ·rw [hv] at C9
  have pd:=hb cap hc
  have hlen:(l.take c.toNat).length=c.toNat:=by simp;omega
  refine C4 C9 (v := .slice (some ⟨b,ob,none⟩) c.toNat c.toNat) (w':=w) ?_ (s7.still hR (.imm ?_) hK)
  ·simp only [Instr.sliceAt,Instr.slice,Sem.run_bind,run_underlying hu,Result.andThen_ok,pd,run_sizeOf w U3,Sem.run_pure,Program.cellsOf,U3,Option.map_some,Option.getD_some,G0]
   simp
  ·have ao:∀ i,i < c.toNat->(l.take c.toNat).getD i d=l.getD i d:=fun i hi=>by
    simp [List.getD,List.getElem?_take,hi]
   have key:p9 F w (.sf sz d enc (l.take c.toNat)) (.slice (some ⟨b,ob,none⟩) (l.take c.toNat).length (l.take c.toNat).length):=by
    refine .sf g (fun i j hi hj=>?_) (fun i j hi hj=>?_)
    ·rw [hlen] at hi
     exact B7 i j (by omega) hj
    ·rw [hlen] at hi
     rw [ao i hi]
     exact hr _ _ (by omega) hj
   rwa [hlen] at key
theorem ux (hR:Rel B w0 F0 S β F a w) {o:Oper} {t:TypeId} {x:Operand} {lo hi mx:Option Operand} (ho:o.op = .slice t x lo hi mx) {K:Out->List Nat->Prop} (h:o5 P o.dst (.slice t x lo hi mx) S.get S.row K) {Q:Exit->Act->World->Prop} :
  o.wp P a w (s7 B w0 F0 S β o.dst K) Q:=by
 cases mx with
 | some m=>exact rB hR ho h
 | none =>
 simp only [o5] at h
 split at h
 case h_2=>exact h.elim
 rename_i e hu
 split at h
 case h_2=>exact h.elim
 rename_i inf U3
 split at h
 case h_2=>exact h.elim
 rename_i α sz d enc l hg
 split at h
 case h_2=>exact h.elim
 rename_i C1
 have fP:=Nat.eq_of_beq_eq_true C1
 split at h
 case h_2=>exact h.elim
 rename_i ka p kb q Ed zG
 obtain ⟨⟨h0,h1,h2⟩,hK⟩:=(y7 _ _ _).1 h
 have hx:=hR.get x
 rw [hg] at hx
 have C9:execOp a.eval o=(do pure (.value (<- Instr.sliceAt t (a.eval x) (lo.map a.eval) (hi.map a.eval) none))):=by simp [execOp,ho]
 -- the bounds
 have EG:lo=none/\p=0∨∃ k,lo.map a.eval=some (.int k p):=by
  cases lo with
  | none=>simp [zE] at Ed;exact .inl ⟨rfl,Ed.2.symm⟩
  | some y=>simp only [zE] at Ed;have:=hR.get y;rw [Ed] at this;exact .inr ⟨_,by simp [this.int_inv];rfl⟩
 have Hc:hi=none/\q=l.length∨∃ k,hi.map a.eval=some (.int k q):=by
  cases hi with
  | none=>simp [zE] at zG;exact .inl ⟨rfl,zG.2.symm⟩
  | some y=>simp only [zE] at zG;have:=hR.get y;rw [zG] at this;exact .inr ⟨_,by simp [this.int_inv];rfl⟩
 have hb:∀ cap:Nat,l.length<=cap->(Instr.sliceBounds true l.length cap (lo.map a.eval) (hi.map a.eval) none).run P w = .ok (p.toNat,q.toNat,cap) w:=by
  intro cap wG
  have c1:0<=q:=by omega
  have c2:q<=(cap:Int):=by omega
  have c3:p<=max q 0:=by omega
  have c4:p<=(l.length:Int):=by omega
  rcases Hc with ⟨rfl,rfl⟩|⟨k,hk⟩
  ·rcases EG with ⟨rfl,rfl⟩|⟨k',fJ⟩
   ·simp [Instr.sliceBounds]
   ·rw [fJ]
    simp [Instr.sliceBounds,Instr.sliceBound,asIntOf,h0,c4]
  ·rw [hk]
   rcases EG with ⟨rfl,rfl⟩|⟨k',fJ⟩
   ·simp [Instr.sliceBounds,Instr.sliceBound,asIntOf,c1,c2]
   ·rw [fJ]
    simp [Instr.sliceBounds,Instr.sliceBound,asIntOf,h0,c1,c2,c3]
 rcases hx.sl_inv with ⟨ak,x0,c0,hv⟩|⟨b,ob,cap,g,hv,hc,B7,hr⟩
 ·rw [hv] at C9
  subst ak
  have hp:p=0:=by simp at h2;omega
  have hq:q=0:=by simp at h2;omega
  have ta:=hb c0 (by simp)
  simp only [List.length_nil] at ta
  obtain ⟨v',Hb⟩:∃ v',(Instr.sliceAt t (.slice x0 0 c0) (lo.map a.eval) (hi.map a.eval) none).run P w = .ok (.slice v' 0 c0) w:=by
   simp only [Instr.sliceAt,Instr.slice,Sem.run_bind,run_underlying hu,Result.andThen_ok,ta,run_sizeOf w U3,Sem.run_pure]
   simp [hp,hq]
  refine C4 C9 Hb (s7.still hR (.imm ?_) hK)
  ·simp;exact .slnil
 ·rw [hv] at C9
  have pd:=hb cap hc
  have hlen:((l.drop p.toNat).take (q - p).toNat).length=q.toNat - p.toNat:=by simp;omega
  refine C4 C9 (v := .slice (some (if cap=p.toNat then ⟨b,ob,none⟩ else ⟨b,ob + p.toNat * inf.size,none⟩)) (q.toNat - p.toNat) (cap - p.toNat)) (w':=w) ?_ (s7.still hR (.imm ?_) hK)
  ·simp only [Instr.sliceAt,Instr.slice,Sem.run_bind,run_underlying hu,Result.andThen_ok,pd,run_sizeOf w U3,Sem.run_pure,Program.cellsOf,U3,Option.map_some,Option.getD_some,G0]
   split<;>rfl
  ·have ao:∀ i,i < q.toNat - p.toNat->((l.drop p.toNat).take (q - p).toNat).getD i d=l.getD (p.toNat + i) d:=fun i hi=>by
    simp [List.getD,List.getElem?_take,show i < (q - p).toNat by omega]
   rw [<- hlen]
   split
   ·rename_i Mh
    exact .sl (fun _ _=>undef) (by omega) (fun i j hi hj=>by omega) (fun i j hi hj=>by omega)
   ·refine .sl (fun i j=>g (p.toNat + i) j) (by omega) (fun i j hi hj=>?_) (fun i j hi hj=>?_)
    ·rw [hlen] at hi
     have:=B7 (p.toNat + i) j (by omega) hj
     rw [<- fP,show ob + p.toNat * sz + i * sz + j=ob + (p.toNat + i) * sz + j by rw [Nat.add_mul];omega]
     exact this
    ·rw [hlen] at hi
     rw [ao i hi]
     exact hr _ _ (by omega) hj
theorem la (hR:Rel B w0 F0 S β F a w) {o:Oper} {t:TypeId} {x y:Operand} (ho:o.op = .makeSlice t x y) (u5:∀ d,o.dst=some d->β d=none) {K:Out->List Nat->Prop}
  (h:o5 P o.dst (.makeSlice t x y) S.get S.row K) {Q:Exit->Act->World->Prop}:o.wp P a w (s7 B w0 F0 S β o.dst K) Q:=by
 simp only [o5] at h
 split at h
 case h_2=>exact h.elim
 rename_i d e hd hu
 split at h
 case h_2=>exact h.elim
 rename_i i z hi hz
 split at h
 case h_2=>exact h.elim
 rename_i pc
 have uw:=Nat.eq_of_beq_eq_true pc
 split at h
 case h_2=>exact h.elim
 rename_i k n k' c hx hy
 obtain ⟨α,yy,enc,he,iU,h0,h1,He,hK⟩:=h
 subst iU
 obtain ⟨i',zv,U3,kW,_,vX⟩:=O4 (β:=β) (F:=F) (w:=w) hz
 rw [hi] at U3; cases U3
 have V4:=hR.get x
 have gP:=hR.get y
 rw [hx] at V4
 rw [hy] at gP
 have C9:execOp a.eval o=(do pure (.value (<- Instr.makeSlice t (a.eval x) (a.eval y)))):=by simp [execOp,ho]
 rw [V4.int_inv,gP.int_inv] at C9
 have hw:IntKind.i64.wrap n=n:=IntWalk.i64_in n (by omega)
 have Hf:(i.bytes:Int) * n<=1048576 * 1048576:=Int.mul_le_mul (show (i.bytes:Int)<=1048576 by omega) h1 h0 (by omega)
 have Cx:¬ ((281474976710656:Int) < (i.bytes:Int) * n):=by omega
 have wH:¬ n < 0:=by omega
 have P1:¬ (roomBytes < n.toNat * i.bytes):=by
  have e:((n.toNat * i.bytes:Nat):Int)=(i.bytes:Int) * n:=by rw [Int.natCast_mul,Int.toNat_of_nonneg h0,Int.mul_comm]
  simp only [roomBytes];omega
 let cells:Array Value:=(Array.range (n.toNat * i.size)).map (zv.cells[· % zv.cells.size]!)
 have A7:(Instr.makeSlice t (.int k n) (.int k' n)).run P w = .ok (.slice (some ⟨w.heap.size,0,none⟩) n.toNat n.toNat) (w.alloc (.cells cells e)):=by
  simp only [Instr.makeSlice,Sem.run_bind,run_underlying hu,Result.andThen_ok,asInt,asIntOf,Sem.run_pure,typeInfo,run_program,hi,hw]
  simp only [wH,decide_false,Bool.false_or,Bool.or_false,gt_iff_lt,Int.lt_irrefl,show (2:Int) ^ 48=281474976710656 by rfl,Cx,Bool.false_eq_true,if_false,askRoom,P1]
  simp only [Sem.run_bind,Sem.run_pure,Result.andThen_ok,run_sizeOf w hi,Program.cellsOf,hi,Option.map_some,Option.getD_some]
  split
  ·rename_i Hg
   have e0:∀ (f g:Nat->Value),(Array.range (n.toNat * i.size)).map f=(Array.range (n.toNat * i.size)).map g:=fun f g=>by rw [Hg];simp
   simp only [Sem.run_bind,Sem.run_pure,Result.andThen_ok]
   rw [e0 _ (zv.cells[· % zv.cells.size]!)]
   simp [newRow,cells]
  ·simp only [Sem.run_bind,zeroValue,typeInfo,run_program,hi,kW,Result.andThen_ok,Sem.run_pure]
   simp [newRow,cells]
 have Hh:∀ j,j < i.size->p9 F w (z.getD j .any) (zv.cells.getD j undef):=fun j hj=>by
  obtain ⟨i2,z2,e1,e2,e3,e4⟩:=O4 (β:=β) (F:=F) (w:=w) hz
  rw [hi] at e1;cases e1
  rw [kW] at e2;cases e2
  have fI:j < zv.cells.size:=by rw [<- e4.1];omega
  have e:z.getD j .any=AV.ofConst (zv.cells.getD j undef):=by
   rw [e3];simp [List.getD,Array.getD_eq_getD_getElem?,fI]
  rw [e];exact .ofConst _
 obtain ⟨β',g1,g2⟩:=hR.alloc (u5 d hd) (dst:=o.dst) (x := .own d) (v := .slice (some ⟨w.heap.size,0,none⟩) n.toNat n.toNat) (r := .vec e i.size yy enc (List.replicate n.toNat yy)) (vs:=cells) (ty:=e) n.toNat n.toNat
  (fun β' hb _=>by have:=v7.own (F:=F) (w:=w.alloc (.cells cells e)) hb;simpa using this)
  (fun β' hb hg hk=>⟨_,hb,rfl,by simp,.inr ⟨w.heap.size,cells,rfl,G9 w _,by simp,by simp only [maxLen];omega,by simp [cells],fun p q hp hq=>by
    have fQ:p < n.toNat:=by simpa using hp
    have e1:(List.replicate n.toNat yy).getD p yy=yy:=by simp [List.getD,fQ]
    have fK:=u1 fQ hq
    have C1:zv.cells.size=i.size:=by rw [<- vX.1];exact uw
    have hm:(p * i.size + q) % i.size=q:=by rw [Nat.mul_comm,Nat.mul_add_mod];exact Nat.mod_eq_of_lt hq
    have e2:cells.getD (p * i.size + q) undef=zv.cells.getD q undef:=by
     have vZ:q < zv.cells.size:=by omega
     simp [cells,Array.getD_eq_getD_getElem?,fK,C1,hm]
     rw [getElem!_pos zv.cells q vZ]
     simp [vZ]
    rw [e1,he,e2]
    exact (Hh q hq).mono (fun _ h=>h) hk⟩⟩) (fun _ _ _ _ h=>by cases h)
 exact C4 C9 A7 ⟨_,_,hK,β',F,fun j hj=>g1 j (fun e=>hj (by rw [e];exact hd)),g2⟩
theorem bK {α:Type} {xs:Array α} {l:List α} (h:xs.toList=l):xs=l.toArray:=by rw [<- h]
theorem D1 {o:Oper} {c:Call} {b:Builtin} (ho:o.op = .call c) (hb:c.callee = .builtin b) {s:Sem Value}
  (hs:∀ cs,builtin b c.argTypes o.type cs (c.args.map a.eval)=(do pure (.value (<- s)))) {v:Value} {w':World} (hr:s.run P w = .ok v w') {next:Act->World->Prop} {Q:Exit->Act->World->Prop} (hn:next (a.put o.dst v) w'):o.wp P a w next Q:=by
 refine V3 (v:=v) (w':=w') ?_ hn
 simp only [execOp,ho,resolve,hb,Sem.run_bind,Sem.run_pure,Result.andThen_ok,invoke,hs,hr]
theorem zY (hR:Rel B w0 F0 S β F a w) {o:Oper} {c:Call} (ho:o.op = .call c) (hb:c.callee = .builtin .len) {K:Out->List Nat->Prop} (h:o5 P o.dst (.call c) S.get S.row K) {Q:Exit->Act->World->Prop} :
  o.wp P a w (s7 B w0 F0 S β o.dst K) Q:=by
 simp only [o5,hb] at h
 split at h
 case h_2=>exact h.elim
 rename_i x t hx ht
 have e1:=bK hx
 have e2:=bK ht
 have hs:∀ cs,builtin .len c.argTypes o.type cs (c.args.map a.eval)=(do pure (.value (<- Builtin.len_ #[t] o.type #[a.eval x]))):=fun cs=>by
  rw [e1,e2];simp [builtin]
 have hv:=hR.get x
 split at h
 ·rename_i e hu
  have A7:∀ p n cap,(Builtin.len_ #[t] o.type #[.slice p n cap]).run P w = .ok (.int .i64 n) w:=fun p n cap=>by
   simp [Builtin.len_,run_underlying hu,goInt]
  split at h
  ·rename_i hg
   rw [hg] at hv
   rw [hv.nils_inv] at hs
   exact D1 ho hb hs (A7 _ _ _) (s7.still hR (.imm (.int _ _)) h)
  ·rename_i α sz d enc l hg
   rw [hg] at hv
   rcases hv.sl_inv with ⟨hl,x0,c0,hv⟩|⟨b,ob,cap,g,hv,_⟩
   ·rw [hv] at hs;subst hl
    exact D1 ho hb hs (A7 _ _ _) (s7.still hR (.imm (.int _ _)) h)
   ·rw [hv] at hs
    exact D1 ho hb hs (A7 _ _ _) (s7.still hR (.imm (.int _ _)) h)
  ·rename_i sz z7 hg
   rw [hg] at hv
   rcases hv.slc_inv with ⟨hl,hv⟩|⟨b,ob,cap,g,hv,_⟩
   ·rw [hv] at hs;subst hl
    exact D1 ho hb hs (A7 _ _ _) (s7.still hR (.imm (.int _ _)) h)
   ·rw [hv] at hs
    exact D1 ho hb hs (A7 _ _ _) (s7.still hR (.imm (.int _ _)) h)
  ·rename_i id hg
   rw [hg] at hv
   obtain ⟨hd,hβ,hv⟩:=hv.own_inv
   rw [hv] at hs
   split at h
   ·rename_i hr
    obtain ⟨hl,_⟩:=Q5 hR hr hβ
    rw [<- hl] at h
    exact D1 ho hb hs (A7 _ _ _) (s7.still hR (.imm (.int _ _)) h)
   ·rename_i hr
    have:=hR.rows id
    rw [hr] at this
    obtain ⟨hd',b',vs,q1,qm,q2,q3,q4,_⟩:=this
    rw [hβ] at q1;cases q1
    rw [<- q4] at h
    exact D1 ho hb hs (A7 _ _ _) (s7.still hR (.imm (.int _ _)) h)
   ·exact h.elim
  ·exact h.elim
 ·rename_i n e hu
  refine D1 ho hb hs (v := .int .i64 n) (w':=w) ?_ (s7.still hR (.imm (.int _ _)) h)
  simp [Builtin.len_,run_underlying hu,goInt]
 ·exact h.elim
theorem zZ (hR:Rel B w0 F0 S β F a w) {o:Oper} {c:Call} (ho:o.op = .call c) (hb:c.callee = .builtin .max) {K:Out->List Nat->Prop} (h:o5 P o.dst (.call c) S.get S.row K) {Q:Exit->Act->World->Prop} :
  o.wp P a w (s7 B w0 F0 S β o.dst K) Q:=by
 simp only [o5,hb] at h
 split at h
 case h_2=>exact h.elim
 rename_i x y hx
 have e1:=bK hx
 split at h
 case h_2=>exact h.elim
 rename_i k p k' q EH EI
 have EJ:=hR.get x
 have cV:=hR.get y
 rw [EH] at EJ
 rw [EI] at cV
 have hs:∀ cs,builtin .max c.argTypes o.type cs (c.args.map a.eval)=(do pure (.value (<- Builtin.max_ c.argTypes o.type #[.int k p,.int k' q]))):=fun cs=>by
  rw [<- EJ.int_inv,<- cV.int_inv,e1];simp [builtin]
 exact D1 ho hb hs (v := .int k (if q > p then q else p)) (w':=w) (by simp [Builtin.max_,Builtin.max2]) (s7.still hR (.imm (.int _ _)) h)
theorem Aa (hR:Rel B w0 F0 S β F a w) {o:Oper} {c:Call} (ho:o.op = .call c) (hb:c.callee = .builtin .min) {K:Out->List Nat->Prop} (h:o5 P o.dst (.call c) S.get S.row K) {Q:Exit->Act->World->Prop} :
  o.wp P a w (s7 B w0 F0 S β o.dst K) Q:=by
 simp only [o5,hb] at h
 split at h
 case h_2=>exact h.elim
 rename_i x y hx
 have e1:=bK hx
 split at h
 case h_2=>exact h.elim
 rename_i k p k' q EH EI
 have EJ:=hR.get x
 have cV:=hR.get y
 rw [EH] at EJ
 rw [EI] at cV
 have hs:∀ cs,builtin .min c.argTypes o.type cs (c.args.map a.eval)=(do pure (.value (<- Builtin.min_ c.argTypes o.type #[.int k p,.int k' q]))):=fun cs=>by
  rw [<- EJ.int_inv,<- cV.int_inv,e1];simp [builtin]
 exact D1 ho hb hs (v := .int k (if q < p then q else p)) (w':=w) (by simp [Builtin.min_,Builtin.min2]) (s7.still hR (.imm (.int _ _)) h)
theorem wI (hR:Rel B w0 F0 S β F a w) {o:Oper} {c:Call} {f:Operand} (ho:o.op = .call c) (hb:c.callee = .value f) {K:Out->List Nat->Prop} (h:o5 P o.dst (.call c) S.get S.row K) {Q:Exit->Act->World->Prop} :
  o.wp P a w (s7 B w0 F0 S β o.dst K) Q:=by
 simp only [o5,hb] at h
 split at h
 case h_2=>exact h.elim
 rename_i bk first u4 hg
 have hf:=hR.get f
 rw [hg] at hf
 obtain ⟨vs,us,hv,l1,l2,r1,r2⟩:=hf.fn_inv
 obtain ⟨l3,r3⟩:=E0 hR c.args
 -- the arguments, as they are handed over
 have hlen:(vs++c.args.map a.eval++us).size=(first++c.args.toList.map S.get++u4).length:=by simp [l1,l2]
 have tb:∀ i,i < (first++c.args.toList.map S.get++u4).length->v7 β F w ((first++c.args.toList.map S.get++u4).getD i .any) ((vs++c.args.map a.eval++us).getD i undef):=by
  intro i hi
  by_cases h1:i < first.length
  ·have e1:(first++c.args.toList.map S.get++u4).getD i .any=first.getD i .any:=by simp [List.getD,List.getElem?_append,h1]
   have e2:(vs++c.args.map a.eval++us).getD i undef=vs.getD i undef:=by
    have:i < vs.size:=by omega
    simp [Array.getD_eq_getD_getElem?,Array.getElem?_append,this]
   rw [e1,e2];exact r1 i h1
  ·by_cases h2:i < first.length + (c.args.toList.map S.get).length
   ·have e1:(first++c.args.toList.map S.get++u4).getD i .any=(c.args.toList.map S.get).getD (i - first.length) .any:=by
     simp only [List.getD,List.append_assoc]
     rw [List.getElem?_append_right (by omega),List.getElem?_append_left (by omega)]
    have e2:(vs++c.args.map a.eval++us).getD i undef=(c.args.map a.eval).getD (i - first.length) undef:=by
     simp only [Array.getD_eq_getD_getElem?,Array.append_assoc]
     rw [Array.getElem?_append_right (by omega),Array.getElem?_append_left (by rw [<- l1,<- l3];omega),l1]
    rw [e1,e2];exact r3 _ (by omega)
   ·have e1:(first++c.args.toList.map S.get++u4).getD i .any=u4.getD (i - first.length - (c.args.toList.map S.get).length) .any:=by
     simp only [List.getD,List.append_assoc]
     rw [List.getElem?_append_right (by omega),List.getElem?_append_right (by omega)]
    have e2:(vs++c.args.map a.eval++us).getD i undef=us.getD (i - first.length - (c.args.toList.map S.get).length) undef:=by
     simp only [Array.getD_eq_getD_getElem?,Array.append_assoc]
     rw [Array.getElem?_append_right (by omega),Array.getElem?_append_right (by rw [<- l1,<- l3];omega),l1,l3]
    rw [e1,e2]
    exact r2 _ (by simp only [List.length_append] at hi;omega)
 generalize hA:first++c.args.toList.map S.get++u4=A at *
 generalize hV:vs++c.args.map a.eval++us=V at *
 have hex:execOp a.eval o=callFunc bk V:=by
  simp only [execOp,ho,resolve,hb,hv,Deferred.ofValue]
  rw [<- hV]
  rfl
 -- what follows the call
 have run:∀ (Fc:Nat->Prop) (ar:List AV) (res:AV),(∀ b,Fc b->b < w.heap.size)->ar.length=A.length->(∀ i,i < ar.length->p9 Fc w (ar.getD i .any) (V.getD i undef))->PC P bk ar res ->
   (∀ v w',RowKit.Below w.heap.size w w'->p9 (fun b=>Fc b∨w.heap.size<=b) w' res v->s7 B w0 F0 S β o.dst K (a.put o.dst v) w')->o.wp P a w (s7 B w0 F0 S β o.dst K) Q:=by
  intro Fc ar res Kv eC Kw EK hn
  rcases EK Fc w V Kv (by omega) Kw with ⟨h1,h2⟩|⟨v,h1,h2⟩
  ·unfold Oper.wp
   rw [hex,h1]
   refine h2.mono fun e w' ⟨v,he,bU,G8⟩=>?_
   subst he
   exact hn v w' bU G8
  ·unfold Oper.wp
   rw [hex,h1]
   exact hn v w (RowKit.Below.refl _ _) (h2.mono (fun _ h => .inl h) (fun _ _ _ _ h=>h))
 split at h
 ·rename_i N0
  rw [R8] at h
  obtain ⟨res,EK,hK⟩:=h
  refine run F A res (fun b iJ=>(hR.FB b iJ).1) rfl (fun i hi=>(tb i hi).shut (B8 N0 i)) EK fun v w' bU G8=>?_
  obtain ⟨F',F7⟩:=hR.called bU (dst:=o.dst) (x:=res) (v:=v) (fun F' g1 g2 _ => .imm (G8.there.mono (fun b iJ=>by
   rcases iJ.1 with h|h
   ·exact g1 b h
   ·exact g2 b h iJ.2) (fun _ _ _ _ h=>h)))
  exact ⟨_,_,hK,β,F',fun _ _=>rfl,F7⟩
 ·rw [R8] at h
  obtain ⟨res,EK,hK⟩:=h
  split at hK
  ·rename_i wJ
   refine run (fun b=>F b∨et S β b) (A.map (z8 4 S.row)) res (fun b iJ => ?_) (by simp) (fun i hi=>?_) EK fun v w' bU G8=>?_
   ·rcases iJ with h|⟨i,_,h⟩
    ·exact (hR.FB b h).1
    ·exact (hR.bB i b h).2
   ·rw [n4 _ (F9 _ _)]
    exact C0 hR 4 (tb i (by simpa using hi))
   ·obtain ⟨F',F7⟩:=hR.called bU (dst:=o.dst) (x:=res) (v:=v) (fun F' _ _ _ => .imm (G8.lift wJ))
    exact ⟨_,_,hK,β,F',fun _ _=>rfl,F7⟩
  ·exact hK.elim
end
/- Each operation does what its abstract twin says (eighth part): append. A helper text: it speaks of no program. -/
section
variable {P:Program} {B:Nat->Prop} {w0:World} {F0:Env P} {S:St} {β:Nat->Option Hd} {F:Nat->Prop} {a:Act} {w:World}
theorem L7 (h:List Row) (cons:List Nat) (j:Nat):(m0 h (cons.map fun i=>(i,.none))).getD j .none=if j ∈ cons then .none else h.getD j .none:=by
 induction cons generalizing h with
 | nil=>simp [m0]
 | cons i l ih =>
  simp only [List.map_cons,m0,ih,l9,List.mem_cons]
  by_cases h1:j ∈ l
  ·simp [h1]
  ·by_cases h2:j=i
   ·subst h2
    by_cases h3:j < h.length
    ·simp [h1,h3]
    ·simp [h1,h3,List.getElem?_eq_none (Nat.le_of_not_lt h3)]
   ·simp [h1,h2,Ne.symm h2]
theorem Q7 (h:List Row) (l m:List (Nat×Row)):m0 h (l++m)=m0 (m0 h l) m:=by
 induction l generalizing h with
 | nil=>rfl
 | cons x l ih=>obtain ⟨i,r⟩:=x;exact ih _
theorem Q8 (h:List Row) (l:List (Nat×Row)):(m0 h l).length=h.length:=by
 induction l generalizing h with
 | nil=>rfl
 | cons x l ih=>obtain ⟨i,r⟩:=x;simp [m0,ih]
theorem Rel.retie (hR:Rel B w0 F0 S β F a w) {d:Nat} (hd:β d=none) {cons:List Nat} {dst:Option Nat} {hd':Hd} {r:Row} {w':World}
  (C1:w.heap.size<=w'.heap.size) (cR:w'.os=w.os/\w'.tape=w.tape/\w'.output=w.output)
  (J9:∀ k,k < w.heap.size->(∀ c ∈ cons,S.row c ≠ .none->¬ o7 β c k)->w'.heap[k]? = w.heap[k]?)
  (hb:∀ b,N4 (some hd') b->b < w'.heap.size/\((∃ c ∈ cons,S.row c ≠ .none/\o7 β c b)∨w.heap.size<=b))
  (hr:∀ β',β' d=some hd'->(∀ j,β j≠none->β' j=β j)->y0 F w w'->s9 β' F w' d r) (iU:∀ l xs k e,r ≠ .ctr l xs k e) :
  ∃ β' F',(∀ j,j≠d->β' j=β j)/\Rel B w0 F0 (S.put dst ⟨.own d,cons.map (fun i=>(i,.none))++[(d,r)]⟩) β' F' (a.put dst (.slice (hd'.b.map fun b=>⟨b,0,none⟩) hd'.len hd'.cap)) w':=by
 let β':Nat->Option Hd:=fun j=>if j=d then some hd' else β j
 have h1:β' d=some hd':=by simp [β']
 have h2:∀ j,j≠d->β' j=β j:=fun j hj=>by simp [β',hj]
 have h3:∀ j,β j≠none->β' j=β j:=fun j hj=>h2 j (fun e=>hj (e ▸ hd))
 have b1:∀ b,o7 β' d b↔N4 (some hd') b:=fun b=>by rw [o7,h1]
 have b2:∀ j b,j≠d->(o7 β' j b↔o7 β j b):=fun j b hj=>by rw [o7,o7,h2 j hj]
 have hk:y0 F w w':=fun k o u hF hc=>by
  rw [World.cell?_of_block (w:=w) (J9 k (hR.FB k hF).1 fun c _ hc hb=>hR.bF c k hc hb hF)];exact hc
 have o9:∀ j,(m0 S.h (cons.map (fun i=>(i,.none))++[(d,r)])).getD j .none=if d=j/\d < S.h.length then r else if j ∈ cons then .none else S.row j:=fun j=>by
  rw [Q7]
  simp only [m0,l9,L7,Q8]
  rfl
 have live:∀ j,j≠d->(m0 S.h (cons.map (fun i=>(i,.none))++[(d,r)])).getD j .none ≠ .none->j ∉ cons/\S.row j ≠ .none:=fun j hj hl=>by
  rw [o9,if_neg (fun h=>hj h.1.symm)] at hl
  split at hl
  ·exact absurd rfl hl
  ·rename_i hc;exact ⟨hc,hl⟩
 refine ⟨β',F,h2,hR.step h3 (fun _ h=>h) (fun b hb=>⟨Nat.lt_of_lt_of_le (hR.FB b hb).1 C1,(hR.FB b hb).2⟩) hk cR C1 (.own h1) ?_ ?_ ?_ ?_ (fun k hk hn=>J9 k hk fun c _ hc=>hn c hc) ?_ (fun b hb => .inl hb) ?_⟩
 ·intro j
  rw [o9]
  split
  ·rename_i h;obtain ⟨rfl,_⟩:=h;exact hr β' h1 h3 hk
  ·split
   ·trivial
   ·rename_i Y6 iU
    by_cases hn:S.row j = .none
    ·rw [hn];trivial
    ·refine (hR.rows j).grow h3 (fun _ h=>h) hk fun b J5=>J9 b (hR.bB j b J5).2 fun c hc N0 dE=>?_
     exact iU (hR.inj j c b hn N0 J5 dE ▸ hc)
 ·intro i j b hi hj u9 J5
  by_cases e:i=d
  ·by_cases e':j=d
   ·exact e.trans e'.symm
   ·exfalso
    subst e
    rw [b1] at u9;rw [b2 j _ e'] at J5
    obtain ⟨Ab,Ee⟩:=live j e' hj
    rcases (hb b u9).2 with ⟨c,hc,N0,dE⟩|h
    ·exact Ab (hR.inj c j b N0 Ee dE J5 ▸ hc)
    ·have:=(hR.bB j b J5).2;omega
  ·by_cases e':j=d
   ·exfalso
    subst e'
    rw [b1] at J5;rw [b2 i _ e] at u9
    obtain ⟨wa,Cy⟩:=live i e hi
    rcases (hb b J5).2 with ⟨c,hc,N0,dE⟩|h
    ·exact wa (hR.inj c i b N0 Cy dE u9 ▸ hc)
    ·have:=(hR.bB i b u9).2;omega
   ·rw [b2 i _ e] at u9;rw [b2 j _ e'] at J5
    exact hR.inj i j b (live i e hi).2 (live j e' hj).2 u9 J5
 ·intro i b hi u9 hF
  by_cases e:i=d
  ·subst e
   rw [b1] at u9
   rcases (hb b u9).2 with ⟨c,hc,N0,dE⟩|h
   ·exact hR.bF c b N0 dE hF
   ·have:=(hR.FB b hF).1;omega
  ·rw [b2 i _ e] at u9
   exact hR.bF i b (live i e hi).2 u9 hF
 ·intro i b u9
  by_cases e:i=d
  ·subst e
   rw [b1] at u9
   refine ⟨?_,(hb b u9).1⟩
   rcases (hb b u9).2 with ⟨c,hc,N0,dE⟩|h
   ·exact (hR.bB c b dE).1
   ·exact hR.BW b h
  ·rw [b2 i _ e] at u9
   have:=hR.bB i b u9
   exact ⟨this.1,Nat.lt_of_lt_of_le this.2 C1⟩
 ·intro i b hi u9
  by_cases e:i=d
  ·subst e
   rw [b1] at u9
   rcases (hb b u9).2 with ⟨c,_,N0,dE⟩|h
   ·exact .inl ⟨c,N0,dE⟩
   ·exact .inr h
  ·rw [b2 i _ e] at u9
   exact .inl ⟨i,(live i e hi).2,u9⟩
 ·intro id l xs k e h
  rw [o9] at h
  split at h
  ·exact absurd h (iU l xs k e)
  ·split at h
   ·cases h
   ·exact h
theorem Ac (hR:Rel B w0 F0 S β F a w) {x:AV} {v:Value} (hx:v7 β F w x v) {D:Ct} (hD:iW S.row x D) (N0:∀ y ∈ D.l,(D.enc y).length=D.sz/\B4 (D.enc y)=true/\T0 (D.enc y)=true) :
  (D.l=[]/\∃ x cap,v = .slice x 0 cap)∨∃ (b o cap:Nat) (g:Nat->Nat->Value),v = .slice (some ⟨b,o,none⟩) D.l.length cap /\
   (∀ i j,i < D.l.length->j < D.sz->w.cell? ⟨b,o + i * D.sz + j,none⟩=some (g i j))/\∀ i j,i < D.l.length->j < D.sz->p9 F w ((D.enc (D.l.getD i D.d)).getD j .any) (g i j):=by
 cases x<;>simp only [iW] at hD
 case nils=>exact .inl ⟨hD,_,_,hx.nils_inv⟩
 case sl α sz d enc l =>
  subst hD
  rcases hx.sl_inv with h|⟨b,o,cap,g,h1,h2,h3,h4⟩
  ·exact .inl h
  ·exact .inr ⟨b,o,cap,g,h1,fun i j hi hj=>(h3 i j hi hj).2,h4⟩
 case sf α sz d enc l =>
  subst hD
  rcases hx.sf_inv with ⟨h,y,hv⟩|⟨b,o,g,h1,h3,h4⟩
  ·exact .inl ⟨h,y,0,hv⟩
  ·exact .inr ⟨b,o,_,g,h1,fun i j hi hj=>(h3 i j hi hj).2,h4⟩
 case slc sz z7 =>
  obtain ⟨h1,h2⟩:=hD
  subst h1
  have hg:∀ i,i < D.l.length->z7.getD i []=D.enc (D.l.getD i D.d):=fun i hi=>by rw [h2];simp [List.getD,hi]
  have hlen:z7.length=D.l.length:=by rw [h2];simp
  rcases hx.slc_inv with ⟨h,hv⟩|⟨b,o,cap,g,h1,_,h3,h4⟩
  ·refine .inl ⟨?_,_,_,hv⟩
   rw [h] at hlen;exact List.eq_nil_of_length_eq_zero hlen.symm
  ·rw [hlen] at h1 h3 h4
   exact .inr ⟨b,o,cap,g,h1,fun i j hi hj=>(h3 i j hi hj).2,fun i j hi hj=>by rw [<- hg i hi];exact h4 i j hi hj⟩
 case own id =>
  obtain ⟨hd,hβ,hv⟩:=hx.own_inv
  split at hD
  ·rename_i hr
   subst hD
   obtain ⟨hl,h⟩:=Q5 hR hr hβ
   rcases h with ⟨h1,h2,h3⟩|⟨b,vs,h1,h2,h3,h4,h5,h6⟩
   ·refine .inl ⟨h1,none,0,?_⟩
    rw [hv,h2,hl,h3,h1];rfl
   ·refine .inr ⟨b,0,hd.cap,fun i j=>vs.getD (i * _ + j) undef,by rw [hv,h1,hl];rfl,fun i j hi hj=>?_,h6⟩
    rw [Nat.zero_add]
    exact A6 h2 (by rw [h5];exact u1 (Nat.lt_of_lt_of_le hi h3) hj)
  ·rename_i hr
   obtain ⟨e1,e2⟩:=hD
   subst e1
   have:=hR.rows id
   rw [hr] at this
   obtain ⟨hd',b,vs,q1,qm,q2,q3,q4,q5,q6,q7,q8⟩:=this
   rw [hβ] at q1;cases q1
   rename_i ty z7
   have hlen:z7.length=D.l.length:=cd e2
   refine .inr ⟨b,0,hd.cap,fun i j=>vs.getD (i * D.sz + j) undef,by rw [hv,q2,q4,hlen];rfl,fun i j hi hj=>?_,fun i j hi hj=>?_⟩
   ·rw [Nat.zero_add]
    exact A6 q3 (by rw [q6];exact u1 (by omega) hj)
   ·have hg:=lR (d:=D.d) e2 hi
    have hm:D.l.getD i D.d ∈ D.l:=by simp [List.getD,hi]
    have hc:=B8 (N0 _ hm).2.1 j
    rw [<- hg,aC] at hc ⊢
    exact (q8 i j (by omega) hj).tts.shut hc
  ·exact hD.elim
def n7 (g:Nat->Nat->Value) (n sz:Nat):List Value:=(List.range (n * sz)).map fun k=>g (k / sz) (k % sz)
theorem n6 (g:Nat->Nat->Value) (n sz:Nat):(n7 g n sz).length=n * sz:=by simp [n7]
theorem M4 {g:Nat->Nat->Value} {n sz i j:Nat} (hi:i < n) (hj:j < sz):(n7 g n sz)[i * sz + j]? = some (g i j):=by
 have h:=u1 hi hj
 have h1:(i * sz + j) / sz=i:=by
  rw [Nat.mul_comm,Nat.mul_add_div (by omega),Nat.div_eq_of_lt hj,Nat.add_zero]
 have h2:(i * sz + j) % sz=j:=by rw [Nat.mul_comm,Nat.mul_add_mod];exact Nat.mod_eq_of_lt hj
 simp [n7,h,h1,h2]
theorem D0 {g:Nat->Nat->Value} {n sz b o:Nat} (h:∀ i j,i < n->j < sz->w.cell? ⟨b,o + i * sz + j,none⟩=some (g i j)):∀ j u,(n7 g n sz)[j]? = some u->w.cell? ((⟨b,o,none⟩:Addr).add j)=some u:=by
 intro j u hu
 have u2:j < n * sz:=by
  rcases Nat.lt_or_ge j (n * sz) with h|h
  ·exact h
  ·rw [List.getElem?_eq_none (by rw [n6];exact h)] at hu;cases hu
 have C1:0 < sz:=Nat.pos_of_ne_zero fun e=>by simp [e] at u2
 have Cz:j % sz < sz:=Nat.mod_lt _ C1
 have mT:j / sz < n:=(Nat.div_lt_iff_lt_mul C1).2 u2
 have he:j=j / sz * sz + j % sz:=by rw [Nat.mul_comm];exact (Nat.div_add_mod j sz).symm
 have h3:=M4 (g:=g) mT Cz
 rw [<- he] at h3
 rw [h3] at hu
 cases hu
 rw [G0]
 have:=h _ _ mT Cz
 rw [show o + j / sz * sz + j % sz=o + j by omega] at this
 exact this
end
/- Each operation does what its abstract twin says (last part): append; and all of them together. A helper text: it speaks of no program. -/
section
variable {P:Program} {B:Nat->Prop} {w0:World} {F0:Env P} {S:St} {β:Nat->Option Hd} {F:Nat->Prop} {a:Act} {w:World}
theorem aE {t ty e:TypeId} {i:TypeInfo} (ht:P.underlying t=some (.slice e)) (hi:P.info? e=some i) (base:Option Addr) (n cap:Nat) (hn:n<=cap) (x:Option Addr) (c:Nat) :
  (Builtin.append_ #[t,t] ty #[.slice base n cap,.slice x 0 c]).run P w = .ok (.slice base n cap) w:=by
 cases base<;>cases x<;>simp [Builtin.append_,run_underlying ht,sizeOf,typeInfo,hi,Builtin.lenOf,hn,Builtin.firstCells,storeCells,loadCells,loadCellsFrom]
theorem iB {t ty e:TypeId} {i:TypeInfo} (ht:P.underlying t=some (.slice e)) (hi:P.info? e=some i) (x:Addr) (c:Nat) :
  (Builtin.append_ #[t,t] ty #[.slice none 0 0,.slice (some x) 0 c]).run P w = .ok (.slice none 0 0) w:=by
 simp [Builtin.append_,run_underlying ht,sizeOf,typeInfo,hi,Builtin.lenOf,Builtin.firstCells,loadCells,loadCellsFrom]
theorem ja {x:AV} {v:Value} (h:p9 F w x v) (hx:x.one=true):v.oneCell'=true:=(v7.one_cell (β:=fun _=>none) (.imm h) hx).1
theorem M7 {α:Type} {l m:List α} {i:Nat} {d:α} (h:i < l.length):(l++m).getD i d=l.getD i d:=by simp [List.getD,List.getElem?_append_left h]
theorem L8 {α:Type} {l m:List α} {i:Nat} {d:α} (h:l.length<=i):(l++m).getD i d=m.getD (i - l.length) d:=by simp [List.getD,List.getElem?_append_right h]
theorem eD {α:Type} {sz:Nat} {d:α} {enc:α->List AV} {l l':List α} {go gn:Nat->Nat->Value} {rest:List Value} {w':World}
  (ho:∀ i j,i < l.length->j < sz->p9 F w' ((enc (l.getD i d)).getD j .any) (go i j)) (hn:∀ i j,i < l'.length->j < sz->p9 F w' ((enc (l'.getD i d)).getD j .any) (gn i j))
  {vs:Array Value} (tc:vs.toList=n7 go l.length sz++n7 gn l'.length sz++rest) :
  ∀ i j,i < (l++l').length->j < sz->p9 F w' ((enc ((l++l').getD i d)).getD j .any) (vs.getD (i * sz + j) undef):=by
 intro i j hi hj
 have ao:∀ k v,(n7 go l.length sz++n7 gn l'.length sz++rest)[k]? = some v->vs.getD k undef=v:=fun k v h=>by
  rw [<- tc] at h
  have:vs[k]? = some v:=by simpa using h
  simp [Array.getD_eq_getD_getElem?,this]
 by_cases h:i < l.length
 ·rw [M7 h,ao _ (go i j) ?_]
  ·exact ho i j h hj
  ·have:=u1 h hj
   rw [List.append_assoc,List.getElem?_append_left (by rw [n6];exact this)]
   exact M4 h hj
 ·have hle:=Nat.le_of_not_lt h
  have U3:i - l.length < l'.length:=by simp at hi;omega
  rw [L8 hle,ao _ (gn (i - l.length) j) ?_]
  ·exact hn _ _ U3 hj
  ·have e:i * sz + j - l.length * sz=(i - l.length) * sz + j:=by rw [Nat.sub_mul];have:=Nat.mul_le_mul_right sz hle;omega
   have h2:l.length * sz<=i * sz:=Nat.mul_le_mul_right sz hle
   have h3:=u1 U3 hj
   rw [List.append_assoc,List.getElem?_append_right (by rw [n6];omega),n6,e,List.getElem?_append_left (by rw [n6];exact h3)]
   exact M4 U3 hj
theorem mW {α:Type} {sz:Nat} {d:α} {enc:α->List AV} {l:List α} {g:Nat->Nat->Value} (N0:∀ y ∈ l,(enc y).length=sz/\B4 (enc y)=true/\T0 (enc y)=true)
  (hr:∀ i j,i < l.length->j < sz->p9 F w ((enc (l.getD i d)).getD j .any) (g i j)):∀ u ∈ n7 g l.length sz,u.oneCell'=true:=by
 intro u hu
 obtain ⟨k,hk,rfl⟩:=List.mem_map.1 hu
 have u2:k < l.length * sz:=List.mem_range.1 hk
 have C1:0 < sz:=Nat.pos_of_ne_zero fun e=>by simp [e] at u2
 have h1:k / sz < l.length:=(Nat.div_lt_iff_lt_mul C1).2 u2
 have h2:k % sz < sz:=Nat.mod_lt _ C1
 have hm:l.getD (k / sz) d ∈ l:=by simp [List.getD,h1]
 obtain ⟨c1,c2,c3⟩:=N0 _ hm
 exact ja (hr _ _ h1 h2) (Y8 c3 _ (by omega))
theorem O1 (z:Array Value) (n:Nat):(Builtin.zeroCells z n).size=n * z.size:=by simp [Builtin.zeroCells]
theorem rC (hR:Rel B w0 F0 S β F a w) {o:Oper} {c:Call} (ho:o.op = .call c) (hb:c.callee = .builtin .append) (u5:∀ d,o.dst=some d->β d=none) {K:Out->List Nat->Prop}
  (h:o5 P o.dst (.call c) S.get S.row K) {Q:Exit->Act->World->Prop}:o.wp P a w (s7 B w0 F0 S β o.dst K) Q:=by
 simp only [o5,hb] at h
 split at h
 case h_2=>exact h.elim
 rename_i s x t t' pf uy
 have e1:=bK pf
 have e2:=bK uy
 split at h
 case h_2=>exact h.elim
 rename_i d e hd hu Hi
 have ht:=Nat.eq_of_beq_eq_true Hi
 subst ht
 split at h
 case h_2=>exact h.elim
 rename_i i z hi hz
 split at h
 case h_2=>exact h.elim
 rename_i pc
 have uw:=Nat.eq_of_beq_eq_true pc
 split at h
 case h_2=>exact h.elim
 rename_i uz
 have Jo:0 < i.size:=by simpa [Nat.blt_eq] using uz
 split at h
 case h_2=>exact h.elim
 rename_i aF
 obtain ⟨D,l',ld,uA,Ad,mX,hlen,N0,hK⟩:=h
 obtain ⟨i',zv,U3,kW,_,vX⟩:=O4 (β:=β) (F:=F) (w:=w) hz
 rw [hi] at U3; cases U3
 have CA:zv.cells.size=i.size:=by rw [<- vX.1];exact uw
 have hs:∀ cs,builtin .append c.argTypes o.type cs (c.args.map a.eval)=(do pure (.value (<- Builtin.append_ #[t,t] o.type #[a.eval s,a.eval x]))):=fun cs=>by
  rw [e1,e2];simp [builtin]
 have Hj:∀ y ∈ D.l,(D.enc y).length=D.sz/\B4 (D.enc y)=true/\T0 (D.enc y)=true:=fun y hy=>N0 y (List.mem_append_left _ hy)
 have Ae:∀ y ∈ l',(D.enc y).length=D.sz/\B4 (D.enc y)=true/\T0 (D.enc y)=true:=fun y hy=>N0 y (List.mem_append_right _ hy)
 have wb:=hR.get s
 have V4:=hR.get x
 have uB:=Ac hR V4 Ad Ae
 have fd:=u5 d hd
 -- how it ends, given the run
 have fin:∀ (hd':Hd) (w':World),(Builtin.append_ #[t,t] o.type #[a.eval s,a.eval x]).run P w = .ok (.slice (hd'.b.map fun b=>⟨b,0,none⟩) hd'.len hd'.cap) w'->w.heap.size<=w'.heap.size ->
   (w'.os=w.os/\w'.tape=w.tape/\w'.output=w.output)->(∀ k,k < w.heap.size->(∀ c ∈ X5 (S.get s),S.row c ≠ .none->¬ o7 β c k)->w'.heap[k]? = w.heap[k]?) ->
   (∀ b,N4 (some hd') b->b < w'.heap.size/\((∃ c ∈ X5 (S.get s),S.row c ≠ .none/\o7 β c b)∨w.heap.size<=b)) ->
   (∀ β',β' d=some hd'->(∀ j,β j≠none->β' j=β j)->y0 F w w'->s9 β' F w' d (.vec e D.sz D.d D.enc (D.l++l')))->o.wp P a w (s7 B w0 F0 S β o.dst K) Q:=by
  intro hd' w' A7 g1 g2 g3 g4 g5
  obtain ⟨β',F',q1,q2⟩:=hR.retie fd (cons:=X5 (S.get s)) (dst:=o.dst) (hd':=hd') g1 g2 g3 g4 g5 (fun _ _ _ _ h=>by cases h)
  exact D1 ho hb hs A7 ⟨_,_,hK,β',F',fun j hj=>q1 j (fun e=>hj (by rw [e];exact hd)),q2⟩
 have zH:(D.l++l').length<=maxLen:=by simp only [List.length_append,maxLen];omega
 -- a new block
 have fresh:∀ (go gn:Nat->Nat->Value) (cap:Nat),D.l.length + l'.length<=cap->cap<=maxLen ->
   (∀ i j,i < D.l.length->j < D.sz->p9 F w ((D.enc (D.l.getD i D.d)).getD j .any) (go i j))->(∀ i j,i < l'.length->j < D.sz->p9 F w ((D.enc (l'.getD i D.d)).getD j .any) (gn i j)) ->
   (Builtin.append_ #[t,t] o.type #[a.eval s,a.eval x]).run P w = .ok (.slice (some ⟨w.heap.size,0,none⟩) (D.l.length + l'.length) cap)
    (w.drew.alloc (.cells ((n7 go D.l.length D.sz).toArray++(n7 gn l'.length D.sz).toArray++Builtin.zeroCells zv.cells (cap - (D.l.length + l'.length))) e)) ->
   o.wp P a w (s7 B w0 F0 S β o.dst K) Q:=by
  intro go gn cap hc rD Kx EL A7
  refine fin ⟨some w.heap.size,D.l.length + l'.length,cap,bd⟩ _ A7 (by simp) ⟨rfl,rfl,rfl⟩ (fun k hk _=>RowKit.Below.heap_alloc w.drew _ k hk) (fun b hb=>?_) (fun β' dF _ hk=>?_)
  ·simp only [F8,Option.some.injEq] at hb
   subst hb
   exact ⟨by simp,.inr (Nat.le_refl _)⟩
  ·refine ⟨_,dF,rfl,by simp,.inr ⟨w.heap.size,_,rfl,heap_alloc_new w.drew _,by simpa using hc,rD,?_,?_⟩⟩
   ·simp only [Array.size_append,List.size_toArray,n6,O1,CA,<- ld,<- Nat.add_mul]
    congr 1;omega
   ·exact eD (go:=go) (gn:=gn) (fun i j h1 h2=>(Kx i j h1 h2).mono (fun _ h=>h) hk) (fun i j h1 h2=>(EL i j h1 h2).mono (fun _ h=>h) hk)
     (rest:=(Builtin.zeroCells zv.cells (cap - (D.l.length + l'.length))).toList) (by simp)
 -- the base
 have mY:a.eval s = .slice none 0 0->D.l=[]->o.wp P a w (s7 B w0 F0 S β o.dst K) Q:=by
  intro cW ak
  have same:l'=[]->(Builtin.append_ #[t,t] o.type #[a.eval s,a.eval x]).run P w = .ok (.slice none 0 0) w->o.wp P a w (s7 B w0 F0 S β o.dst K) Q:=by
   intro kP A7
   refine fin ⟨none,0,0,bd⟩ w A7 (Nat.le_refl _) ⟨rfl,rfl,rfl⟩ (fun _ _ _=>rfl) (fun b hb=>by rw [F8] at hb;cases hb) (fun β' dF _ _=>⟨_,dF,rfl,by simp [ak,kP],.inl ⟨by simp [ak,kP],rfl,rfl⟩⟩)
  rcases uB with ⟨kP,x0,c0,kQ⟩|⟨b,ob,cap,g,kQ,B7,G8⟩
  ·refine same kP ?_
   rw [cW,kQ];exact aE hu hi none 0 0 (Nat.le_refl _) x0 c0
  ·by_cases hm:l'.length=0
   ·refine same (List.eq_nil_of_length_eq_zero hm) ?_
    rw [cW,kQ]
    simp only [hm]
    exact iB hu hi _ _
   ·have hr:=run_append_nil (P:=P) w t o.type e i zv hu hi kW ⟨b,ob,none⟩ l'.length cap (n7 g l'.length D.sz) (by rw [n6,ld]) (D0 B7) (by omega) (by omega)
     (by simp only [ak,List.length_nil,Nat.zero_add] at mX;omega)
    refine fresh (fun _ _=>undef) g (grownCap w l'.length 0 e) ?_ ?_ (fun i j h1=>by simp [ak] at h1) G8 ?_
    ·simp only [ak,List.length_nil,Nat.zero_add];exact grownCap_ge w l'.length 0 e
    ·exact grownCap_le_maxLen w l'.length 0 e (by simp only [maxLen];omega)
    ·rw [cW,kQ,hr]
     simp [ak,n7]
 have base:∀ (id b cap:Nat) (cur:Array Value) (go:Nat->Nat->Value),S.get s = .own id->S.row id ≠ .none->o7 β id b->a.eval s = .slice (some ⟨b,0,none⟩) D.l.length cap->w.heap[b]? = some (.cells cur e (0,0)) ->
   D.l.length<=cap->cap<=maxLen->cur.size=cap * D.sz->(∀ i j,i < D.l.length->j < D.sz->w.cell? ⟨b,0 + i * D.sz + j,none⟩=some (go i j)) ->
   (∀ i j,i < D.l.length->j < D.sz->p9 F w ((D.enc (D.l.getD i D.d)).getD j .any) (go i j))->o.wp P a w (s7 B w0 F0 S β o.dst K) Q:=by
  intro id b cap cur go K8 v5 eA cW ta iU rD oO bm jb
  have oN:=hR.bB id b eA
  have iX:n7 go D.l.length D.sz=cur.toList.take (D.l.length * D.sz):=by
   apply List.ext_getElem?
   intro k
   by_cases hk:k < D.l.length * D.sz
   ·have C1:0 < D.sz:=by omega
    have h1:k / D.sz < D.l.length:=(Nat.div_lt_iff_lt_mul C1).2 hk
    have h2:k % D.sz < D.sz:=Nat.mod_lt _ C1
    have he:k=k / D.sz * D.sz + k % D.sz:=by rw [Nat.mul_comm];exact (Nat.div_add_mod k D.sz).symm
    have h3:=M4 (g:=go) h1 h2
    rw [<- he] at h3
    have h4:=bm _ _ h1 h2
    rw [Nat.zero_add,<- he] at h4
    have u2:k < cur.size:=by
     have:D.l.length * D.sz<=cap * D.sz:=Nat.mul_le_mul_right _ iU
     omega
    have h5:=A6 ta u2
    rw [h5] at h4
    rw [h3,List.getElem?_take_of_lt hk,<- h4]
    simp [u2]
   ·rw [List.getElem?_eq_none (by rw [n6];omega),List.getElem?_eq_none (by rw [List.length_take];omega)]
  by_cases P1:D.l.length + l'.length<=cap
  ·rcases uB with ⟨kP,x0,c0,kQ⟩|⟨bx,ob,wK,g,kQ,B7,G8⟩
   ·refine fin ⟨some b,D.l.length,cap,bd⟩ w ?_ (Nat.le_refl _) ⟨rfl,rfl,rfl⟩ (fun _ _ _=>rfl) (fun b' iJ => ?_) (fun β' dF _ _=>?_)
    ·rw [cW,kQ];exact aE hu hi _ _ _ iU x0 c0
    ·simp only [F8,Option.some.injEq] at iJ
     subst iJ
     exact ⟨oN.2,.inl ⟨id,by rw [K8];simp [X5],v5,eA⟩⟩
    ·have ak:l'=[]:=kP
     refine ⟨_,dF,rfl,by simp [ak],.inr ⟨b,cur,rfl,ta,by simpa [ak] using iU,rD,oO,fun p q hp hq=>?_⟩⟩
     have fQ:p < D.l.length:=by simpa [ak] using hp
     have h4:=bm _ _ fQ hq
     rw [Nat.zero_add,A6 ta (by rw [oO];exact u1 (by omega) hq)] at h4
     simp only [Option.some.injEq] at h4
     rw [ak,List.append_nil,h4]
     exact jb p q fQ hq
   ·have dC:D.l.length * i.size + (n7 g l'.length D.sz).length<=cur.size:=by
     rw [n6,oO,<- ld,<- Nat.add_mul];exact Nat.mul_le_mul_right _ P1
    have hr:=run_append_room (P:=P) w t o.type e i hu hi b D.l.length cap cur ta ⟨bx,ob,none⟩ l'.length wK (n7 g l'.length D.sz) (by rw [n6,ld]) (D0 B7)
     (mW Ae G8) P1 dC
    obtain ⟨f1,f2,f3⟩:=E8 b cur (cur.toList.take (D.l.length * i.size)++n7 g l'.length D.sz++cur.toList.drop (D.l.length * i.size + (n7 g l'.length D.sz).length)).toArray e (0,0) ta
    refine fin ⟨some b,D.l.length + l'.length,cap,bd⟩ _ (by rw [cW,kQ];exact hr) (by rw [f1.2.2.2];exact Nat.le_refl _) ⟨f1.1,f1.2.1,f1.2.2.1⟩ (fun k hk hn=>f2 k fun e=>?_) (fun b' iJ => ?_) (fun β' dF _ hk=>?_)
    ·subst e;exact hn id (by rw [K8];simp [X5]) v5 eA
    ·simp only [F8,Option.some.injEq] at iJ
     subst iJ
     exact ⟨by rw [f1.2.2.2];exact oN.2,.inl ⟨id,by rw [K8];simp [X5],v5,eA⟩⟩
    ·refine ⟨_,dF,rfl,by simp,.inr ⟨b,_,rfl,f3,by simpa using P1,rD,?_,?_⟩⟩
     ·simp only [List.size_toArray,List.length_append,List.length_take,List.length_drop,Array.length_toList]
      rw [<- oO];omega
     ·refine eD (go:=go) (gn:=g) (fun i j h1 h2=>(jb i j h1 h2).mono (fun _ h=>h) hk) (fun i j h1 h2=>(G8 i j h1 h2).mono (fun _ h=>h) hk)
       (rest:=cur.toList.drop (D.l.length * i.size + (n7 g l'.length D.sz).length)) ?_
      rw [iX,ld]
  ·rcases uB with ⟨kP,x0,c0,kQ⟩|⟨bx,ob,wK,g,kQ,B7,G8⟩
   ·have ak:l'=[]:=kP
    simp [ak] at P1;omega
   ·have Mi:n7 go D.l.length D.sz=n7 go D.l.length i.size:=by rw [ld]
    have hr:=run_append_grow (P:=P) w t o.type e i zv hu hi kW ⟨b,0,none⟩ D.l.length cap (n7 go D.l.length D.sz) (by rw [n6,ld]) (D0 bm) ⟨bx,ob,none⟩ l'.length wK (n7 g l'.length D.sz)
     (by rw [n6,ld]) (D0 B7) (by omega) (by omega) (growslice_fits (by omega) (by omega))
    refine fresh go g (grownCap w (D.l.length + l'.length) cap e) (grownCap_ge w _ _ e) (grownCap_le_maxLen w _ _ e (by simp only [maxLen];omega)) jb G8 ?_
    rw [cW,kQ,hr]
 have fl:ah S.row (S.get s) (S.get x)=true->0 < l'.length:=fun h=>by
  unfold ah at h
  split at h
  ·split at h
   ·rename_i q fR
    split at h
    ·rename_i hq
     rw [fR] at Ad
     simp only [iW,hq] at Ad
     have:=cd Ad.2
     simp at this
     omega
    ·cases h
   ·cases h
  ·cases h
 have Jp:∀ (y:Addr) (go:Nat->Nat->Value),a.eval s = .slice (some y) D.l.length D.l.length->0 < l'.length->(∀ j v,(n7 go D.l.length D.sz)[j]? = some v->w.cell? (y.add j)=some v) ->
   (∀ i j,i < D.l.length->j < D.sz->p9 F w ((D.enc (D.l.getD i D.d)).getD j .any) (go i j))->o.wp P a w (s7 B w0 F0 S β o.dst K) Q:=by
  intro y go cW R9 bm jb
  rcases uB with ⟨kP,x0,c0,kQ⟩|⟨bx,ob,wK,g,kQ,B7,G8⟩
  ·have h0:l'=[]:=kP
   rw [h0] at R9
   exact absurd R9 (Nat.lt_irrefl 0)
  ·have hr:=run_append_grow (P:=P) w t o.type e i zv hu hi kW y D.l.length D.l.length (n7 go D.l.length D.sz) (by rw [n6,ld]) bm ⟨bx,ob,none⟩ l'.length wK (n7 g l'.length D.sz)
    (by rw [n6,ld]) (D0 B7) (by omega) (by omega) (growslice_fits (by omega) (by omega))
   refine fresh go g (grownCap w (D.l.length + l'.length) D.l.length e) (grownCap_ge w _ _ e) (grownCap_le_maxLen w _ _ e (by simp only [maxLen];omega)) jb G8 ?_
   rw [cW,kQ,hr]
 by_cases jc:ah S.row (S.get s) (S.get x)=true
 ·have R9:=fl jc
  cases hg:S.get s<;>rw [hg] at jc uA wb<;>simp only [ah,iW] at jc uA
  case sf =>
   subst uA
   rcases wb.sf_inv with ⟨ak,x0,cW⟩|⟨b,ob,g0,cW,bm,jb⟩
   ·cases x0 with
    | none=>exact mY cW ak
    | some y=>exact Jp y (fun _ _=>undef) (by rw [cW];simp [ak]) R9 (fun j v h=>by simp [ak,n7] at h) (fun i j h1=>by simp [ak] at h1)
   ·exact Jp ⟨b,ob,none⟩ g0 cW R9 (D0 fun i j hi hj=>(bm i j hi hj).2) jb
  all_goals cases jc
 have CB:ah S.row (S.get s) (S.get x)=false:=by simpa using jc
 rw [CB,Bool.or_false] at aF
 cases hg:S.get s<;>rw [hg] at uA aF<;>simp only [iW,fN] at uA aF
 case nils =>
  rw [hg] at wb
  exact mY wb.nils_inv uA
 case own id =>
  rw [hg] at wb
  obtain ⟨Q9,hβ,cW⟩:=wb.own_inv
  have EM:∀ {ty},(S.row id).tyIs e=true->(∀ {α} {sz d enc} {l:List α},S.row id = .vec ty sz d enc l->ty=e)/\(∀ {sz z7},S.row id = .lit ty sz z7->ty=e):=by
   intro ty EM
   refine ⟨fun h=>?_,fun h=>?_⟩<;>(rw [h] at EM;exact Nat.eq_of_beq_eq_true EM)
  split at uA
  ·rename_i ty sz dd enc l hr
   obtain rfl:=(EM aF).1 hr
   obtain ⟨q2,q3⟩:=Q5 hR hr hβ
   subst uA
   rcases q3 with ⟨h1,h2,h3⟩|⟨b,vs,h1,h2,h3,h4,h5,h6⟩
   ·refine mY ?_ h1
    rw [cW,h2,q2,h3,h1];rfl
   ·exact base id b Q9.cap vs (fun i j=>vs.getD (i * _ + j) undef) hg (by rw [hr];simp) (by rw [o7,hβ];exact w8 h1) (by rw [cW,h1,q2];rfl) h2 h3 h4 h5
     (fun i j hi hj=>by rw [Nat.zero_add];exact A6 h2 (by rw [h5];exact u1 (Nat.lt_of_lt_of_le hi h3) hj)) h6
  ·rename_i ty sz z7 hr
   obtain rfl:=(EM aF).2 hr
   obtain ⟨q1,q2⟩:=uA
   have:=hR.rows id
   rw [hr] at this
   obtain ⟨hd',b,vs,p1,pm,p2,p3,p4,p5,p6,p7,p8⟩:=this
   rw [hβ] at p1;cases p1
   have hlen:z7.length=D.l.length:=cd q2
   refine base id b Q9.cap vs (fun i j=>vs.getD (i * D.sz + j) undef) hg (by rw [hr];simp) (by rw [o7,hβ];exact w8 p2) (by rw [cW,p2,p4,hlen];rfl) p3 (by omega) (by omega) (by rw [p6,p5,q1])
    (fun i j hi hj=>by rw [Nat.zero_add];exact A6 p3 (by rw [p6,q1];exact u1 (by omega) hj)) (fun i j hi hj=>?_)
   have Ky:=lR (d:=D.d) q2 hi
   have hm:D.l.getD i D.d ∈ D.l:=by simp [List.getD,hi]
   have:=p8 i j (by omega) (by rw [q1];exact hj)
   rw [q1] at this
   have hc:=B8 (Hj _ hm).2.1 j
   rw [<- Ky,aC] at hc ⊢
   exact this.tts.shut hc
  ·exact uA.elim
 all_goals simp at aF
end

end Go.Ev
