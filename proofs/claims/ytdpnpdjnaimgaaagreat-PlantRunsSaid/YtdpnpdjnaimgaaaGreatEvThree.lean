/- Helper lemmas. -/
import Derived.Test.YtdpnpdjnaimgaaaGreatEvTwo
import Derived.IntWalk
set_option linter.unusedVariables false
set_option linter.unusedSimpArgs false
/- Each operation does what its abstract twin says (sixth part): places in structs and slices, new slices. A helper text: it speaks of no program. -/
namespace Go.Ev
section
variable {P:Program}{B:Nat->Prop}{w0:World}{F0:Env P}{S:St}{β:Nat->Option Hd}{F:Nat->Prop}{a:Act}{w:World}
theorem a1A(hR:Rel B w0 F0 S β F a w){o:Oper}{s:TypeId}{x:Operand}{f:Nat}(ho:o.op = .fieldAddr s x f){K:Out->List Nat->Prop}(h:k7 P o.dst (.fieldAddr s x f) S.get S.row K){Q:Exit->Act->World->Prop} :
  o.wp P a w (y6 B w0 F0 S β o.dst K) Q:=by
 simp only[k7]at h;split at h
 case h_2=>exact h.elim
 rename_i fs hu;split at h
 case h_2=>exact h.elim
 rename_i fd hf;split at h
 case h_2=>exact h.elim
 rename_i i hi;split at h
 case h_1=>exact h.elim
 rename_i hz;have Zc:i.size≠0:=fun e=>by rw[e]at hz;simp at hz
 have hx:=hR.get x;have M4:execOp a.eval o=(do pure (.value (<- Instr.fieldAt s (a.eval x) f))):=by simp[execOp,ho]
 have L9:∀ b ob,(Instr.fieldAt s (.pointer (some ⟨b,ob,none⟩)) f).run P w = .ok (.pointer (some ⟨b,ob+fd.offset,none⟩)) w:=fun b ob=>by
  simp[Instr.fieldAt,run_underlying hu,hf,Instr.sureAddr,fieldPlace,sizeOf,typeInfo,hi,Zc,U8]
 split at h
 ·rename_i cs off hg;rw[hg]at hx;obtain⟨b,ob,g,hv,hc,hr⟩:=hx.pt_inv;rw[hv]at M4;refine K5 M4 (L9 _ _) (y6.still hR (.imm ?_) h);rw[Nat.add_assoc];exact .pt g hc hr
 ·rename_i id sz j off hg;rw[hg]at hx;obtain⟨hd,b,hb,hh,hv⟩:=hx.ptr_inv;rw[hv]at M4;refine K5 M4 (L9 _ _) (y6.still hR ?_ h);rw[Nat.add_assoc];exact .ptr hb hh
 ·exact h.elim
theorem yI(hR:Rel B w0 F0 S β F a w){o:Oper}{x:Operand}{i:Nat}(ho:o.op = .extract x i){K:Out->List Nat->Prop}(h:k7 P o.dst (.extract x i) S.get S.row K){Q:Exit->Act->World->Prop} :
  o.wp P a w (y6 B w0 F0 S β o.dst K) Q:=by
 simp only[k7]at h;split at h
 case h_2=>exact h.elim
 rename_i l hg;split at h
 case h_2=>exact h.elim
 rename_i A2;have hx:=hR.get x;rw[hg]at hx;obtain⟨vs,hv,hl,hr⟩:=hx.tup_inv;have VM:i<l.length:=by simpa[Nat.blt_eq]using A2
 have M4:execOp a.eval o=(do pure (.value (<- Instr.extract (a.eval x) i))):=by simp[execOp,ho]
 rw[hv]at M4;refine K5 M4 (v:=vs.getD i undef) (w':=w) ?_ (y6.still hR (hr i VM) h);simp[Instr.extract,show i<vs.size by omega]
theorem yJ(hR:Rel B w0 F0 S β F a w){o:Oper}{src t:TypeId}{x:Operand}(ho:o.op = .convert src t x){K:Out->List Nat->Prop}(h:k7 P o.dst (.convert src t x) S.get S.row K){Q:Exit->Act->World->Prop} :
  o.wp P a w (y6 B w0 F0 S β o.dst K) Q:=by
 simp only[k7]at h;split at h
 case h_2=>exact h.elim
 rename_i d k kk n hs ht hg;have hx:=hR.get x;rw[hg]at hx;have M4:execOp a.eval o=(do pure (.value (<- convert src t (a.eval x)))):=by simp[execOp,ho]
 rw[hx.int_inv]at M4;exact K5 M4 (v := .int k (k.wrap n)) (w':=w) (by simp[convert,run_underlying hs,run_underlying ht,Conv.intToInt]) (y6.still hR (.imm (.int _ _)) h)
theorem L0(hR:Rel B w0 F0 S β F a w)(xs:Array Operand):(xs.toList.map S.get).length=(xs.map a.eval).size/\∀ i,i<(xs.toList.map S.get).length->B4 β F w ((xs.toList.map S.get).getD i .any) ((xs.map a.eval).getD i undef):=by
 refine⟨by simp,fun i hi=>?_⟩;have bO:i<xs.size:=by simpa using hi
 have e1:(xs.toList.map S.get).getD i .any=S.get xs[i]:=by simp[List.getD,bO]
 have e2:(xs.map a.eval).getD i undef=a.eval xs[i]:=by simp[Array.getD_eq_getD_getElem?,bO]
 rw[e1,e2];exact hR.get _
theorem vT(hR:Rel B w0 F0 S β F a w){o:Oper}{f:Fn}{xs ys:Array Operand}(ho:o.op = .makeFunc f xs ys){K:Out->List Nat->Prop}(h:k7 P o.dst (.makeFunc f xs ys) S.get S.row K){Q:Exit->Act->World->Prop} :
  o.wp P a w (y6 B w0 F0 S β o.dst K) Q:=by
 simp only[k7]at h;have M4:execOp a.eval o=(do pure (.value (<- Instr.makeFunc f (xs.map a.eval) (ys.map a.eval)))):=by simp[execOp,ho]
 obtain⟨h1,h2⟩:=L0 hR xs;obtain⟨h3,h4⟩:=L0 hR ys;exact K5 M4 (v := .func f (xs.map a.eval) (ys.map a.eval)) (w':=w) (by simp[Instr.makeFunc]) (y6.still hR (.fn h1 h2 h3 h4) h)
theorem vU(hR:Rel B w0 F0 S β F a w){o:Oper}{x:Operand}(ho:o.op = .nilCheck x){K:Out->List Nat->Prop}(h:k7 P o.dst (.nilCheck x) S.get S.row K){Q:Exit->Act->World->Prop} :
  o.wp P a w (y6 B w0 F0 S β o.dst K) Q:=by
 simp only[k7]at h;have hx:=hR.get x;split at h
 ·rename_i c cs off hg;rw[hg]at hx;obtain⟨b,ob,g,hv,_,_⟩:=hx.pt_inv;exact eC (v:=a.eval x) (w':=w) (by simp[execOp,ho,hv]) (y6.still hR hx h)
 ·rename_i id sz j off hg;rw[hg]at hx;obtain⟨hd,b,hb,hh,hv⟩:=hx.ptr_inv;exact eC (v:=a.eval x) (w':=w) (by simp[execOp,ho,hv]) (y6.still hR hx h)
 ·exact h.elim
theorem FO(hR:Rel B w0 F0 S β F a w){o:Oper}{t:TypeId}{x ix:Operand}(ho:o.op = .index t x ix){K:Out->List Nat->Prop}(h:k7 P o.dst (.index t x ix) S.get S.row K){Q:Exit->Act->World->Prop} :
  o.wp P a w (y6 B w0 F0 S β o.dst K) Q:=by
 simp only[k7]at h;split at h
 case h_2=>exact h.elim
 rename_i k n hn;have MH:=hR.get ix;rw[hn]at MH;have M4:execOp a.eval o=(do pure (.value (<- Instr.index t (a.eval x) (a.eval ix)))):=by simp[execOp,ho]
 split at h
 ·rename_i s hg;have hx:=hR.get x;rw[hg]at hx;split at h
  case h_2=>exact h.elim
  rename_i hu;obtain⟨⟨h0,h1⟩,h⟩:=(C3 _ _ _).1 h;have Ce:a.eval x = .string s:=by
   generalize a.eval x=v at hx;cases hx with|imm h=>cases h;rfl
  rw[MH.int_inv,Ce]at M4;have A2:n.toNat<s.size:=by omega
  have hb:s[n.toNat]? = some s[n.toNat]:=by simp[A2]
  refine K5 M4 (v := .int .u8 (mZ s n.toNat)) (w':=w) ?_ (y6.still hR (.imm (.int _ _)) h);simp[Instr.index,run_underlying hu,asIntOf,h0,mZ,hb]
 ·rename_i l hg;have hx:=hR.get x;rw[hg]at hx;split at h
  case h_2=>exact h.elim
  rename_i len e hu;split at h
  case h_2=>exact h.elim
  rename_i inf d hi hd;split at h
  case h_2=>exact h.elim
  rename_i hc;simp only[zA2,Bool.not_eq_true']at hc;obtain⟨c1,c2,c3⟩:=hc;have c2:=zA8 c2;have c3:=zA8 c3;obtain⟨⟨h0,h1⟩,h⟩:=(C3 _ _ _).1 h;obtain⟨vs,hv,hl,hr⟩:=hx.agg_inv;rw[MH.int_inv,hv]at M4;have A2:n.toNat<l.length:=by omega
  have IM:n.toNat<vs.size:=by omega
  have he:vs[n.toNat]? = some (vs.getD n.toNat undef):=by simp[Array.getD_eq_getD_getElem?,IM]
  have H5:(sizeOf e).run P w = .ok 1 w:=by rw[run_sizeOf w hi];simp[Program.cellsOf,hi,c2]
  have Zd:(isAgg e).run P w = .ok false w:=by
   cases d<;>simp[aw]at c1<;>simp[isAgg,run_underlying hd]
  refine K5 M4 (v:=vs.getD n.toNat undef) (w':=w) ?_ (y6.still hR (hr _ A2) h);generalize vs.getD n.toNat undef=u at he;simp[Instr.index,run_underlying hu,asIntOf,h0,h1,part,H5,Zd,he]
 ·exact h.elim
theorem tx(hR:Rel B w0 F0 S β F a w){o:Oper}{t:TypeId}{x ix:Operand}(ho:o.op = .indexAddr t x ix){K:Out->List Nat->Prop}(h:k7 P o.dst (.indexAddr t x ix) S.get S.row K){Q:Exit->Act->World->Prop} :
  o.wp P a w (y6 B w0 F0 S β o.dst K) Q:=by
 simp only[k7]at h;split at h
 case h_2=>exact h.elim
 rename_i k n hn;have MH:=hR.get ix;rw[hn]at MH;have hx:=hR.get x;have M4:execOp a.eval o=(do pure (.value (<- Instr.indexAt t (a.eval x) (a.eval ix)))):=by simp[execOp,ho]
 rw[MH.int_inv]at M4;split at h
 ·rename_i e hu;split at h
  case h_2=>exact h.elim
  rename_i inf hi;have L9:∀ b ob len cap,0<=n->n<(len:Nat)->(Instr.indexAt t (.slice (some ⟨b,ob,none⟩) len cap) (.int k n)).run P w = .ok (.pointer (some ⟨b,ob+n.toNat*inf.size,none⟩)) w:=fun b ob len cap h0 h1=>by
   simp[Instr.indexAt,run_underlying hu,asIntOf,h0,h1,sizeOf,typeInfo,hi,U8]
  split at h
  ·rename_i α sz d enc l hg;rw[hg]at hx;split at h
   case h_2=>exact h.elim
   rename_i H5;have iH:=zA8 H5;obtain⟨⟨h0,h1⟩,h⟩:=(C3 _ _ _).1 h;split at h
   case h_2=>exact h.elim
   rename_i hlen;have Pu:=zA8 hlen;rcases hx.sl_inv with ⟨hl,_⟩|⟨b,ob,cap,g,hv,hc,hb,hr⟩
   ·rw[hl]at h1;simp at h1;omega
   ·rw[hv]at M4;refine K5 M4 (L9 _ _ _ _ h0 h1) (y6.still hR (.imm ?_) h);have Tr:n.toNat<l.length:=by omega
    have:=v7.pt (F:=F) (w:=w) (cs:=enc (l.getD n.toNat d)) (off:=0) (b:=b) (o:=ob+n.toNat*sz) (fun j=>g n.toNat j) (fun j hj=>hb _ _ Tr va5) (fun j hj=>hr _ _ Tr va5);rw[<- iH];exact this
  ·rename_i sz D5 hg;rw[hg]at hx;split at h
   case h_2=>exact h.elim
   rename_i H5;have iH:=zA8 H5;obtain⟨⟨h0,h1⟩,h⟩:=(C3 _ _ _).1 h;split at h
   case h_2=>exact h.elim
   rename_i hlen;have Pu:=Nat.le_of_ble_eq_true hlen;rcases hx.slc_inv with ⟨hl,_⟩|⟨b,ob,cap,g,hv,hc,hb,hr⟩
   ·rw[hl]at h1;simp at h1;omega
   ·rw[hv]at M4;refine K5 M4 (L9 _ _ _ _ h0 h1) (y6.still hR (.imm ?_) h);have Tr:n.toNat<D5.length:=by omega
    have:=v7.pt (F:=F) (w:=w) (cs:=D5.getD n.toNat []) (off:=0) (b:=b) (o:=ob+n.toNat*sz) (fun j=>g n.toNat j) (fun j hj=>hb _ _ Tr va5) (fun j hj=>hr _ _ Tr va5);rw[<- iH];exact this
  ·rename_i id hg;rw[hg]at hx;obtain⟨hd,hb,hv⟩:=hx.own_inv;split at h
   ·rename_i α ty sz d enc l hr;split at h
    case h_2=>exact h.elim
    rename_i H5;have iH:=zA8 H5;obtain⟨⟨h0,h1⟩,h⟩:=(C3 _ _ _).1 h;obtain⟨lf,jJ⟩:=ay hR hr hb;rcases jJ with ⟨h2,_⟩|⟨b,vs,e1,_⟩
    ·rw[h2]at h1;simp at h1;omega
    ·rw[hv,e1]at M4;refine K5 M4 (L9 _ _ _ _ h0 va5) (y6.still hR ?_ h);rw[Nat.zero_add,<- iH];exact .ptr hb e1
   ·rename_i ty sz D5 hr;split at h
    case h_2=>exact h.elim
    rename_i H5;have iH:=zA8 H5;obtain⟨⟨h0,h1⟩,h⟩:=(C3 _ _ _).1 h;obtain⟨b,vs,e1,_,lf,_⟩:=vS hR hr hb;rw[hv,e1]at M4;refine K5 M4 (L9 _ _ _ _ h0 va5) (y6.still hR ?_ h);rw[Nat.zero_add,<- iH];exact .ptr hb e1
   ·exact h.elim
  ·exact h.elim
 ·rename_i len e hu;split at h
  case h_2=>exact h.elim
  rename_i inf hi;obtain⟨⟨h0,h1⟩,h⟩:=(C3 _ _ _).1 h;have L9:∀ b ob,(Instr.indexAt t (.pointer (some ⟨b,ob,none⟩)) (.int k n)).run P w = .ok (.pointer (some ⟨b,ob+n.toNat*inf.size,none⟩)) w:=fun b ob=>by
   simp[Instr.indexAt,run_underlying hu,asIntOf,Instr.sureAddr,h0,h1,sizeOf,typeInfo,hi,U8]
  split at h
  ·rename_i cs off hg;rw[hg]at hx;obtain⟨b,ob,g,hv,hc,hr⟩:=hx.pt_inv;rw[hv]at M4;refine K5 M4 (L9 _ _) (y6.still hR (.imm ?_) h);rw[Nat.add_assoc];exact .pt g hc hr
  ·rename_i id sz j off hg;rw[hg]at hx;obtain⟨hd,b,hb,hh,hv⟩:=hx.ptr_inv;rw[hv]at M4;refine K5 M4 (L9 _ _) (y6.still hR ?_ h);rw[Nat.add_assoc];exact .ptr hb hh
  ·exact h.elim
 ·exact h.elim
theorem K7(z:List AV):∀ n,(List.replicate n z).flatten.length=n*z.length
 | 0=>by simp
 | n+1=>by simp[List.replicate_succ,K7 z n,Nat.add_mul];omega
theorem az(z:List AV)(hz:0<z.length):∀ n i,i<n*z.length->(List.replicate n z).flatten.getD i .any=z.getD (i % z.length) .any
 | 0,i,h=>by simp at h
 | n+1,i,h=>by
  rw[List.replicate_succ,List.flatten_cons];by_cases hi:i<z.length
  ·rw[Nat.mod_eq_of_lt hi];simp[List.getD,List.getElem?_append_left hi]
  ·have h':i-z.length<n*z.length:=by rw[Nat.add_mul]at h;omega
   have ih:=az z hz n (i-z.length) h';have e:i % z.length=(i-z.length) % z.length:=by rw[Nat.mod_eq_sub_mod va5]
   rw[e,<- ih];simp[List.getD,List.getElem?_append_right (Nat.le_of_not_lt hi)]
theorem FP{zv:Array Value}{z:List AV}(hz:il (B4 β F w) z zv)(h0:0<z.length)(n:Nat):il (B4 β F w) (List.replicate n z).flatten ((Array.range (n*z.length)).map (zv[· % zv.size]!)):=by
 refine⟨by rw[K7];simp,fun i hi=>?_⟩;rw[K7]at hi;rw[az z h0 n i hi];have hm:i % z.length<z.length:=Nat.mod_lt _ h0;have e:((Array.range (n*z.length)).map (zv[· % zv.size]!)).getD i undef=zv.getD (i % z.length) undef:=by
  have Yc:i % zv.size<zv.size:=by rw[<- hz.1];exact hm
  have IN:i<n*zv.size:=by rw[<- hz.1];exact hi
  simp[Array.getD_eq_getD_getElem?,IN,hz.1,Yc,getElem!_pos]
 rw[e];exact hz.2 _ hm
theorem Cf(cs:List AV)(sz n i j:Nat)(hi:i<n)(hj:j<sz):((((List.range n).map fun j=>(cs.drop (j*sz)).take sz)).getD i []).getD j .any=cs.getD (i*sz+j) .any:=by
 have e:((List.range n).map fun j=>(cs.drop (j*sz)).take sz).getD i []=(cs.drop (i*sz)).take sz:=by simp[List.getD,hi]
 rw[e,iG _ _ _ _ hj]
theorem qu(hR:Rel B w0 F0 S β F a w){o:Oper}{t:TypeId}{n:Nat}{ps:Array (Nat×Operand)}(ho:o.op = .buildSlice t n ps)(B3:∀ d,o.dst=some d->β d=none){K:Out->List Nat->Prop}
  (h:k7 P o.dst (.buildSlice t n ps) S.get S.row K) {Q:Exit->Act->World->Prop}:o.wp P a w (y6 B w0 F0 S β o.dst K) Q:=by
 simp only[k7]at h;split at h
 case h_2=>exact h.elim
 rename_i d e hd hu;split at h
 case h_2=>exact h.elim
 rename_i i z hi hz;split at h
 case h_2=>exact h.elim
 rename_i tj;have FQ:=zA8 tj;split at h
 case h_2=>exact h.elim
 rename_i hle;simp only[zA2,Nat.blt_eq]at hle;have Ze:=Nat.le_of_ble_eq_true hle.1;have VN:=hle.2;split at h
 case h_2=>exact h.elim
 rename_i cs hf;obtain⟨i',zv,bO,BQ,_,Is⟩:=Y6 (β:=β) (F:=F) (w:=w) hz;rw[hi]at bO; cases bO
 have VO:=FP Is va5 n;obtain⟨p1,p2⟩:=uy hR ps;obtain⟨us,Cc,Ee⟩:=lA p1 p2 VO hf;have hl:=Is.1;have M4:execOp a.eval o=(do pure (.value (<- Instr.buildSlice t n (ps.map fun(i,x)=>(i,a.eval x))))):=by simp[execOp,ho]
 have Y7:cs.length=n*i.size:=by
  have:∀ {place:Nat->Option (Nat×Nat)} {k9:List (Nat×AV)} {xs cs:List AV},ew place xs k9=some cs->cs.length=xs.length:=by
   intro place k9
   induction k9 with
   | nil=>intro xs cs h;simp[ew]at h;rw[h]
   | cons p k9 ih =>
    intro xs cs h;obtain⟨k,x⟩:=p;simp only[ew]at h;split at h
    ·cases h
    ·split at h
     ·cases h
     ·split at h
      ·cases h
      ·rename_i h1;split at h
       ·cases h
       ·rename_i h2;have e1:=zA8 h1;have e2:=Nat.le_of_ble_eq_true h2;rw[ih h,cy va5]
  rw[this hf,K7,FQ]
 have L9:(Instr.buildSlice t n (ps.map fun(i,x)=>(i,a.eval x))).run P w = .ok (.slice (some ⟨w.heap.size,0,none⟩) n n) (w.alloc (.cells us e)):=by
  have Qa:¬ (2^24<n*i.size):=by omega
  rw[FQ]at Cc;simp only[Instr.buildSlice,Sem.run_bind,run_underlying hu,Result.andThen_ok,run_sizeOf w hi,Program.cellsOf,hi,Option.map_some,Option.getD_some,gt_iff_lt,Qa,if_false,Sem.run_pure];split
  ·rename_i h0;have e0:∀ (f g:Nat->Value),(Array.range (n*i.size)).map f=(Array.range (n*i.size)).map g:=fun f g=>by rw[h0];simp
   simp only[Sem.run_bind,Sem.run_pure,Result.andThen_ok];rw[e0 _ (zv.cells[· % zv.cells.size]!),Cc];simp[newRow]
  ·simp only[Sem.run_bind,zeroValue,typeInfo,run_program,hi,BQ,Result.andThen_ok,Sem.run_pure,Cc];simp[newRow]
 obtain⟨β',h1,h2⟩:=hR.alloc (B3 d hd) (dst:=o.dst) (x := .own d) (v := .slice (some ⟨w.heap.size,0,none⟩) n n) (r := .lit e i.size ((List.range n).map fun j=>(cs.drop (j*i.size)).take i.size)) (vs:=us) (ty:=e) n n
  (fun β' hb _=>by have:=B4.own (F:=F) (w:=w.alloc (.cells us e)) hb;simpa using this)
  (fun β' hb hg hk=>⟨_,w.heap.size,us,hb,rfl,rfl,O4 w _,by simp,by simp,by rw[<- Ee.1,Y7];simp,by
    simp only[List.length_map,List.length_range,maxLen];have:n*1<=n*i.size:=Nat.mul_le_mul_left n VN;omega,fun p q hp hq=>by
    have na:p<n:=by simpa using hp
    rw[Cf _ _ _ _ _ na hq]
    exact(Ee.2 _ (by rw[Y7];exact z5 na hq)).grow hg (fun _ h=>h) hk⟩) (fun _ _ _ _ h=>by cases h)
 exact K5 M4 L9 ⟨_,_,h,β',F,fun j hj=>h1 j (fun e=>hj (by rw[e];exact hd)),h2⟩
end
/- Each operation does what its abstract twin says (seventh part): slices, built-in functions, calls. A helper text: it speaks of no program. -/
section
variable {P:Program}{B:Nat->Prop}{w0:World}{F0:Env P}{S:St}{β:Nat->Option Hd}{F:Nat->Prop}{a:Act}{w:World}
theorem Cg(hR:Rel B w0 F0 S β F a w){o:Oper}{t:TypeId}{x m:Operand}{lo hi:Option Operand}(ho:o.op = .slice t x lo hi (some m)){K:Out->List Nat->Prop}
  (h:k7 P o.dst (.slice t x lo hi (some m)) S.get S.row K) {Q:Exit->Act->World->Prop} :
  o.wp P a w (y6 B w0 F0 S β o.dst K) Q:=by
 cases lo with
 | some _=>simp only[k7]at h
 | none =>
 cases hi with
 | none=>simp only[k7]at h
 | some hh =>
 simp only[k7]at h;split at h
 case h_2=>exact h.elim
 rename_i e hu;split at h
 case h_2=>exact h.elim
 rename_i inf bO;split at h
 case h_2=>exact h.elim
 rename_i α sz d enc l hg;split at h
 case h_2=>exact h.elim
 rename_i H5;have iH:=zA8 H5;split at h
 case h_2=>exact h.elim
 rename_i kb q kc c Mq Mr;obtain⟨⟨h0,h1,h2⟩,hK⟩:=(C3 _ _ _).1 h;subst h2;have hx:=hR.get x;rw[hg]at hx;have Zf:a.eval hh = .int kb c:=by have:=hR.get hh;rw[Mq]at this;exact this.int_inv
 have Zg:a.eval m = .int kc c:=by have:=hR.get m;rw[Mr]at this;exact this.int_inv
 have M4:execOp a.eval o=(do pure (.value (<- Instr.sliceAt t (a.eval x) none (some (.int kb c)) (some (.int kc c))))):=by
  rw[<- Zf,<- Zg];simp[execOp,ho]
 have hb:∀ cap:Nat,l.length<=cap->(Instr.sliceBounds true l.length cap none (some (.int kb c)) (some (.int kc c))).run P w = .ok (0,c.toNat,c.toNat) w:=by
  intro cap IP;have c2:c<=(cap:Int):=by omega
  have c3:c<=max c 0:=by omega
  simp[Instr.sliceBounds,Instr.sliceBound,asIntOf,h0,c2,c3]
 rcases hx.sl_inv with ⟨dC,x0,c0,hv⟩|⟨b,ob,cap,g,hv,hc,I5,hr⟩
 ·rw[hv]at M4;subst dC;have hq:c=0:=by simp at h1;omega
  subst hq;have Ch:=hb c0 va9;simp only[List.length_nil]at Ch;obtain⟨v',VP⟩:∃ v',(Instr.sliceAt t (.slice x0 0 c0) none (some (.int kb 0)) (some (.int kc 0))).run P w = .ok (.slice v' 0 0) w:=by
   simp only[Instr.sliceAt,Instr.slice,Sem.run_bind,run_underlying hu,Result.andThen_ok,Ch,run_sizeOf w bO,Sem.run_pure];simp
  refine K5 M4 VP (y6.still hR (.imm ?_) hK);simp;exact .sfnil
 ·rw[hv]at M4;have BS:=hb cap hc;have hlen:(l.take c.toNat).length=c.toNat:=by simp;omega
  refine K5 M4 (v := .slice (some ⟨b,ob,none⟩) c.toNat c.toNat) (w':=w) ?_ (y6.still hR (.imm ?_) hK)
  ·simp only[Instr.sliceAt,Instr.slice,Sem.run_bind,run_underlying hu,Result.andThen_ok,BS,run_sizeOf w bO,Sem.run_pure,Program.cellsOf,bO,Option.map_some,Option.getD_some,U8];simp
  ·have Y8:∀ i,i<c.toNat->(l.take c.toNat).getD i d=l.getD i d:=fun i hi=>by
    simp[List.getD,List.getElem?_take,hi]
   have key:v7 F w (.sf sz d enc (l.take c.toNat)) (.slice (some ⟨b,ob,none⟩) (l.take c.toNat).length (l.take c.toNat).length):=by
    refine .sf g (fun i j hi hj=>?_) (fun i j hi hj=>?_)
    ·rw[hlen]at hi;exact I5 i j va5 hj
    ·rw[hlen]at hi;rw[Y8 i hi];exact hr _ _ va5 hj
   rwa[hlen]at key
theorem FR(hR:Rel B w0 F0 S β F a w){o:Oper}{t:TypeId}{x:Operand}{lo hi mx:Option Operand}(ho:o.op = .slice t x lo hi mx){K:Out->List Nat->Prop}(h:k7 P o.dst (.slice t x lo hi mx) S.get S.row K){Q:Exit->Act->World->Prop} :
  o.wp P a w (y6 B w0 F0 S β o.dst K) Q:=by
 cases mx with
 | some m=>exact Cg hR ho h
 | none =>
 simp only[k7]at h;split at h
 case h_2=>exact h.elim
 rename_i e hu;split at h
 case h_2=>exact h.elim
 rename_i inf bO;split at h
 case h_2=>exact h.elim
 rename_i α sz d enc l hg;split at h
 case h_2=>exact h.elim
 rename_i H5;have iH:=zA8 H5;split at h
 case h_2=>exact h.elim
 rename_i ka p kb q Ms Mq;obtain⟨⟨h0,h1,h2⟩,hK⟩:=(C3 _ _ _).1 h;have hx:=hR.get x;rw[hg]at hx;have M4:execOp a.eval o=(do pure (.value (<- Instr.sliceAt t (a.eval x) (lo.map a.eval) (hi.map a.eval) none))):=by simp[execOp,ho]
 -- the bounds
 have Ts:lo=none/\p=0∨∃ k,lo.map a.eval=some (.int k p):=by
  cases lo with
  | none=>simp[Mp]at Ms;exact .inl ⟨rfl,Ms.2.symm⟩
  | some y=>simp only[Mp]at Ms;have:=hR.get y;rw[Ms]at this;exact .inr ⟨_,by simp[this.int_inv];rfl⟩
 have VQ:hi=none/\q=l.length∨∃ k,hi.map a.eval=some (.int k q):=by
  cases hi with
  | none=>simp[Mp]at Mq;exact .inl ⟨rfl,Mq.2.symm⟩
  | some y=>simp only[Mp]at Mq;have:=hR.get y;rw[Mq]at this;exact .inr ⟨_,by simp[this.int_inv];rfl⟩
 have hb:∀ cap:Nat,l.length<=cap->(Instr.sliceBounds true l.length cap (lo.map a.eval) (hi.map a.eval) none).run P w = .ok (p.toNat,q.toNat,cap) w:=by
  intro cap IP;have c1:0<=q:=by omega
  have c2:q<=(cap:Int):=by omega
  have c3:p<=max q 0:=by omega
  have c4:p<=(l.length:Int):=by omega
  rcases VQ with ⟨rfl,rfl⟩|⟨k,hk⟩
  ·rcases Ts with ⟨rfl,rfl⟩|⟨k',oI⟩
   ·simp[Instr.sliceBounds]
   ·rw[oI];simp[Instr.sliceBounds,Instr.sliceBound,asIntOf,h0,c4]
  ·rw[hk];rcases Ts with ⟨rfl,rfl⟩|⟨k',oI⟩
   ·simp[Instr.sliceBounds,Instr.sliceBound,asIntOf,c1,c2]
   ·rw[oI];simp[Instr.sliceBounds,Instr.sliceBound,asIntOf,h0,c1,c2,c3]
 rcases hx.sl_inv with ⟨dC,x0,c0,hv⟩|⟨b,ob,cap,g,hv,hc,I5,hr⟩
 ·rw[hv]at M4;subst dC;have hp:p=0:=by simp at h2;omega
  have hq:q=0:=by simp at h2;omega
  have Ch:=hb c0 va9;simp only[List.length_nil]at Ch;obtain⟨v',VP⟩:∃ v',(Instr.sliceAt t (.slice x0 0 c0) (lo.map a.eval) (hi.map a.eval) none).run P w = .ok (.slice v' 0 c0) w:=by
   simp only[Instr.sliceAt,Instr.slice,Sem.run_bind,run_underlying hu,Result.andThen_ok,Ch,run_sizeOf w bO,Sem.run_pure];simp[hp,hq]
  refine K5 M4 VP (y6.still hR (.imm ?_) hK)
  ·simp;exact .slnil
 ·rw[hv]at M4;have BS:=hb cap hc;have hlen:((l.drop p.toNat).take (q-p).toNat).length=q.toNat-p.toNat:=by simp;omega
  refine K5 M4 (v := .slice (some (if cap=p.toNat then⟨b,ob,none⟩else⟨b,ob+p.toNat*inf.size,none⟩)) (q.toNat-p.toNat) (cap-p.toNat)) (w':=w) ?_ (y6.still hR (.imm ?_) hK)
  ·simp only[Instr.sliceAt,Instr.slice,Sem.run_bind,run_underlying hu,Result.andThen_ok,BS,run_sizeOf w bO,Sem.run_pure,Program.cellsOf,bO,Option.map_some,Option.getD_some,U8];split<;>rfl
  ·have Y8:∀ i,i<q.toNat-p.toNat->((l.drop p.toNat).take (q-p).toNat).getD i d=l.getD (p.toNat+i) d:=fun i hi=>by
    simp[List.getD,List.getElem?_take,show i<(q-p).toNat by omega]
   rw[<- hlen];split
   ·rename_i hcp;exact .sl (fun _ _=>undef) va5 (fun i j hi hj=>by omega) (fun i j hi hj=>by omega)
   ·refine .sl (fun i j=>g (p.toNat+i) j) va5 (fun i j hi hj=>?_) (fun i j hi hj=>?_)
    ·rw[hlen]at hi;have:=I5 (p.toNat+i) j va5 hj;rw[<- iH,show ob+p.toNat*sz+i*sz+j=ob+(p.toNat+i)*sz+j by rw[Nat.add_mul];omega];exact this
    ·rw[hlen]at hi;rw[Y8 i hi];exact hr _ _ va5 hj
theorem tz(hR:Rel B w0 F0 S β F a w){o:Oper}{t:TypeId}{x y:Operand}(ho:o.op = .makeSlice t x y)(B3:∀ d,o.dst=some d->β d=none){K:Out->List Nat->Prop}
  (h:k7 P o.dst (.makeSlice t x y) S.get S.row K) {Q:Exit->Act->World->Prop}:o.wp P a w (y6 B w0 F0 S β o.dst K) Q:=by
 simp only[k7]at h;split at h
 case h_2=>exact h.elim
 rename_i d e hd hu;split at h
 case h_2=>exact h.elim
 rename_i i z hi hz;split at h
 case h_2=>exact h.elim
 rename_i tj;have FQ:=zA8 tj;split at h
 case h_2=>exact h.elim
 rename_i k n k' c hx hy;obtain⟨α,yy,enc,he,yB,h0,h1,Zh,hK⟩:=h;subst yB;obtain⟨i',zv,bO,BQ,_,Is⟩:=Y6 (β:=β) (F:=F) (w:=w) hz;rw[hi]at bO; cases bO
 have Ce:=hR.get x;have IQ:=hR.get y;rw[hx]at Ce;rw[hy]at IQ;have M4:execOp a.eval o=(do pure (.value (<- Instr.makeSlice t (a.eval x) (a.eval y)))):=by simp[execOp,ho]
 rw[Ce.int_inv,IQ.int_inv]at M4;have hw:IntKind.i64.wrap n=n:=IntWalk.i64_in n va5;have VS:(i.bytes:Int)*n<=1048576*1048576:=Int.mul_le_mul (show(i.bytes:Int)<=1048576 by omega) h1 h0 va5;have Qb:¬ ((281474976710656:Int)<(i.bytes:Int)*n):=by omega
 have IS:¬ n<0:=by omega
 have bP:¬ (roomBytes<n.toNat*i.bytes):=by
  have e:((n.toNat*i.bytes:Nat):Int)=(i.bytes:Int)*n:=by rw[Int.natCast_mul,Int.toNat_of_nonneg h0,Int.mul_comm]
  simp only[roomBytes];omega
 let cells:Array Value:=(Array.range (n.toNat*i.size)).map (zv.cells[· % zv.cells.size]!)
 have L9:(Instr.makeSlice t (.int k n) (.int k' n)).run P w = .ok (.slice (some ⟨w.heap.size,0,none⟩) n.toNat n.toNat) (w.alloc (.cells cells e)):=by
  simp only[Instr.makeSlice,Sem.run_bind,run_underlying hu,Result.andThen_ok,asInt,asIntOf,Sem.run_pure,typeInfo,run_program,hi,hw];simp only[IS,decide_false,Bool.false_or,Bool.or_false,gt_iff_lt,Int.lt_irrefl,show(2:Int)^48=281474976710656 by rfl,Qb,zB0,if_false,askRoom,bP];simp only[Sem.run_bind,Sem.run_pure,Result.andThen_ok,run_sizeOf w hi,Program.cellsOf,hi,Option.map_some,Option.getD_some];split
  ·rename_i VU;have e0:∀ (f g:Nat->Value),(Array.range (n.toNat*i.size)).map f=(Array.range (n.toNat*i.size)).map g:=fun f g=>by rw[VU];simp
   simp only[Sem.run_bind,Sem.run_pure,Result.andThen_ok];rw[e0 _ (zv.cells[· % zv.cells.size]!)];simp[newRow,cells]
  ·simp only[Sem.run_bind,zeroValue,typeInfo,run_program,hi,BQ,Result.andThen_ok,Sem.run_pure];simp[newRow,cells]
 have VV:∀ j,j<i.size->v7 F w (z.getD j .any) (zv.cells.getD j undef):=fun j hj=>by
  obtain⟨i2,z2,e1,e2,e3,e4⟩:=Y6 (β:=β) (F:=F) (w:=w) hz;rw[hi]at e1;cases e1
  rw[BQ]at e2;cases e2
  have lh:j<zv.cells.size:=by rw[<- e4.1];omega
  have e:z.getD j .any=AV.ofConst (zv.cells.getD j undef):=by
   rw[e3];simp[List.getD,Array.getD_eq_getD_getElem?,lh]
  rw[e];exact .ofConst _
 obtain⟨β',g1,g2⟩:=hR.alloc (B3 d hd) (dst:=o.dst) (x := .own d) (v := .slice (some ⟨w.heap.size,0,none⟩) n.toNat n.toNat) (r := .vec e i.size yy enc (List.replicate n.toNat yy)) (vs:=cells) (ty:=e) n.toNat n.toNat
  (fun β' hb _=>by have:=B4.own (F:=F) (w:=w.alloc (.cells cells e)) hb;simpa using this)
  (fun β' hb hg hk=>⟨_,hb,rfl,by simp,.inr ⟨w.heap.size,cells,rfl,O4 w _,by simp,by simp only[maxLen];omega,by simp[cells],fun p q hp hq=>by
    have na:p<n.toNat:=by simpa using hp
    have e1:(List.replicate n.toNat yy).getD p yy=yy:=by simp[List.getD,na]
    have oJ:=z5 na hq;have H5:zv.cells.size=i.size:=by rw[<- Is.1];exact FQ
    have hm:(p*i.size+q) % i.size=q:=by rw[Nat.mul_comm,Nat.mul_add_mod];exact Nat.mod_eq_of_lt hq
    have e2:cells.getD (p*i.size+q) undef=zv.cells.getD q undef:=by
     have Ef:q<zv.cells.size:=by omega
     simp[cells,Array.getD_eq_getD_getElem?,oJ,H5,hm];rw[getElem!_pos zv.cells q Ef];simp[Ef]
    rw[e1,he,e2]
    exact(VV q hq).mono (fun _ h=>h) hk⟩⟩) (fun _ _ _ _ h=>by cases h)
 exact K5 M4 L9 ⟨_,_,hK,β',F,fun j hj=>g1 j (fun e=>hj (by rw[e];exact hd)),g2⟩
theorem jW{α:Type}{xs:Array α}{l:List α}(h:xs.toList=l):xs=l.toArray:=by rw[<- h]
theorem K2{o:Oper}{c:Call}{b:Builtin}(ho:o.op = .call c)(hb:c.callee = .builtin b){s:Sem Value}
  (hs:∀ cs,builtin b c.argTypes o.type cs (c.args.map a.eval)=(do pure (.value (<- s)))) {v:Value} {w':World} (hr:s.run P w = .ok v w') {next:Act->World->Prop} {Q:Exit->Act->World->Prop} (hn:next (a.put o.dst v) w'):o.wp P a w next Q:=by
 refine eC (v:=v) (w':=w') ?_ hn;simp only[execOp,ho,resolve,hb,Sem.run_bind,Sem.run_pure,Result.andThen_ok,invoke,hs,hr]
theorem MI(hR:Rel B w0 F0 S β F a w){o:Oper}{c:Call}(ho:o.op = .call c)(hb:c.callee = .builtin .len){K:Out->List Nat->Prop}(h:k7 P o.dst (.call c) S.get S.row K){Q:Exit->Act->World->Prop} :
  o.wp P a w (y6 B w0 F0 S β o.dst K) Q:=by
 simp only[k7,hb]at h;split at h
 case h_2=>exact h.elim
 rename_i x t hx ht;have e1:=jW hx;have e2:=jW ht;have hs:∀ cs,builtin .len c.argTypes o.type cs (c.args.map a.eval)=(do pure (.value (<- Builtin.len_ #[t] o.type #[a.eval x]))):=fun cs=>by
  rw[e1,e2];simp[builtin]
 have hv:=hR.get x;split at h
 ·rename_i e hu;have L9:∀ p n cap,(Builtin.len_ #[t] o.type #[.slice p n cap]).run P w = .ok (.int .i64 n) w:=fun p n cap=>by
   simp[Builtin.len_,run_underlying hu,goInt]
  split at h
  ·rename_i hg;rw[hg]at hv;rw[hv.nils_inv]at hs;exact K2 ho hb hs (L9 _ _ _) (y6.still hR (.imm (.int _ _)) h)
  ·rename_i α sz d enc l hg;rw[hg]at hv;rcases hv.sl_inv with ⟨hl,x0,c0,hv⟩|⟨b,ob,cap,g,hv,_⟩
   ·rw[hv]at hs;subst hl;exact K2 ho hb hs (L9 _ _ _) (y6.still hR (.imm (.int _ _)) h)
   ·rw[hv]at hs;exact K2 ho hb hs (L9 _ _ _) (y6.still hR (.imm (.int _ _)) h)
  ·rename_i sz D5 hg;rw[hg]at hv;rcases hv.slc_inv with ⟨hl,hv⟩|⟨b,ob,cap,g,hv,_⟩
   ·rw[hv]at hs;subst hl;exact K2 ho hb hs (L9 _ _ _) (y6.still hR (.imm (.int _ _)) h)
   ·rw[hv]at hs;exact K2 ho hb hs (L9 _ _ _) (y6.still hR (.imm (.int _ _)) h)
  ·rename_i id hg;rw[hg]at hv;obtain⟨hd,hβ,hv⟩:=hv.own_inv;rw[hv]at hs;split at h
   ·rename_i hr;obtain⟨hl,_⟩:=ay hR hr hβ;rw[<- hl]at h;exact K2 ho hb hs (L9 _ _ _) (y6.still hR (.imm (.int _ _)) h)
   ·rename_i hr;have:=hR.rows id;rw[hr]at this;obtain⟨hd',b',vs,q1,qm,q2,q3,q4,_⟩:=this;rw[hβ]at q1;cases q1
    rw[<- q4]at h;exact K2 ho hb hs (L9 _ _ _) (y6.still hR (.imm (.int _ _)) h)
   ·exact h.elim
  ·exact h.elim
 ·rename_i n e hu;refine K2 ho hb hs (v := .int .i64 n) (w':=w) ?_ (y6.still hR (.imm (.int _ _)) h);simp[Builtin.len_,run_underlying hu,goInt]
 ·exact h.elim
theorem MJ(hR:Rel B w0 F0 S β F a w){o:Oper}{c:Call}(ho:o.op = .call c)(hb:c.callee = .builtin .max){K:Out->List Nat->Prop}(h:k7 P o.dst (.call c) S.get S.row K){Q:Exit->Act->World->Prop} :
  o.wp P a w (y6 B w0 F0 S β o.dst K) Q:=by
 simp only[k7,hb]at h;split at h
 case h_2=>exact h.elim
 rename_i x y hx;have e1:=jW hx;split at h
 case h_2=>exact h.elim
 rename_i k p k' q Tt Qc;have Tu:=hR.get x;have jJ:=hR.get y;rw[Tt]at Tu;rw[Qc]at jJ;have hs:∀ cs,builtin .max c.argTypes o.type cs (c.args.map a.eval)=(do pure (.value (<- Builtin.max_ c.argTypes o.type #[.int k p,.int k' q]))):=fun cs=>by
  rw[<- Tu.int_inv,<- jJ.int_inv,e1];simp[builtin]
 exact K2 ho hb hs (v := .int k (if q > p then q else p)) (w':=w) (by simp[Builtin.max_,Builtin.max2]) (y6.still hR (.imm (.int _ _)) h)
theorem MK(hR:Rel B w0 F0 S β F a w){o:Oper}{c:Call}(ho:o.op = .call c)(hb:c.callee = .builtin .min){K:Out->List Nat->Prop}(h:k7 P o.dst (.call c) S.get S.row K){Q:Exit->Act->World->Prop} :
  o.wp P a w (y6 B w0 F0 S β o.dst K) Q:=by
 simp only[k7,hb]at h;split at h
 case h_2=>exact h.elim
 rename_i x y hx;have e1:=jW hx;split at h
 case h_2=>exact h.elim
 rename_i k p k' q Tt Qc;have Tu:=hR.get x;have jJ:=hR.get y;rw[Tt]at Tu;rw[Qc]at jJ;have hs:∀ cs,builtin .min c.argTypes o.type cs (c.args.map a.eval)=(do pure (.value (<- Builtin.min_ c.argTypes o.type #[.int k p,.int k' q]))):=fun cs=>by
  rw[<- Tu.int_inv,<- jJ.int_inv,e1];simp[builtin]
 exact K2 ho hb hs (v := .int k (if q<p then q else p)) (w':=w) (by simp[Builtin.min_,Builtin.min2]) (y6.still hR (.imm (.int _ _)) h)
theorem IT(hR:Rel B w0 F0 S β F a w){o:Oper}{c:Call}{f:Operand}(ho:o.op = .call c)(hb:c.callee = .value f){K:Out->List Nat->Prop}(h:k7 P o.dst (.call c) S.get S.row K){Q:Exit->Act->World->Prop} :
  o.wp P a w (y6 B w0 F0 S β o.dst K) Q:=by
 simp only[k7,hb]at h;split at h
 case h_2=>exact h.elim
 rename_i fX first A6 hg
 have hf:=hR.get f;rw[hg]at hf;obtain⟨vs,us,hv,l1,l2,r1,r2⟩:=hf.fn_inv;obtain⟨l3,r3⟩:=L0 hR c.args
 -- the arguments, as they are handed over
 have hlen:(vs++c.args.map a.eval++us).size=(first++c.args.toList.map S.get++A6).length:=by simp[l1,l2]
 have Eg:∀ i,i<(first++c.args.toList.map S.get++A6).length->B4 β F w ((first++c.args.toList.map S.get++A6).getD i .any) ((vs++c.args.map a.eval++us).getD i undef):=by
  intro i hi;by_cases h1:i<first.length
  ·have e1:(first++c.args.toList.map S.get++A6).getD i .any=first.getD i .any:=by simp[List.getD,List.getElem?_append,h1]
   have e2:(vs++c.args.map a.eval++us).getD i undef=vs.getD i undef:=by
    have:i<vs.size:=by omega
    simp[Array.getD_eq_getD_getElem?,Array.getElem?_append,this]
   rw[e1,e2];exact r1 i h1
  ·by_cases h2:i<first.length+(c.args.toList.map S.get).length
   ·have e1:(first++c.args.toList.map S.get++A6).getD i .any=(c.args.toList.map S.get).getD (i-first.length) .any:=by
     simp only[List.getD,List.append_assoc];rw[List.getElem?_append_right va5,List.getElem?_append_left va5]
    have e2:(vs++c.args.map a.eval++us).getD i undef=(c.args.map a.eval).getD (i-first.length) undef:=by
     simp only[Array.getD_eq_getD_getElem?,Array.append_assoc];rw[Array.getElem?_append_right va5,Array.getElem?_append_left (by rw[<- l1,<- l3];omega),l1]
    rw[e1,e2];exact r3 _ va5
   ·have e1:(first++c.args.toList.map S.get++A6).getD i .any=A6.getD (i-first.length-(c.args.toList.map S.get).length) .any:=by
     simp only[List.getD,List.append_assoc];rw[List.getElem?_append_right va5,List.getElem?_append_right va5]
    have e2:(vs++c.args.map a.eval++us).getD i undef=us.getD (i-first.length-(c.args.toList.map S.get).length) undef:=by
     simp only[Array.getD_eq_getD_getElem?,Array.append_assoc];rw[Array.getElem?_append_right va5,Array.getElem?_append_right (by rw[<- l1,<- l3];omega),l1,l3]
    rw[e1,e2];exact r2 _ (by simp only[List.length_append]at hi;omega)
 generalize hA:first++c.args.toList.map S.get++A6=A at *
 generalize hV:vs++c.args.map a.eval++us=V at *
 have hex:execOp a.eval o=callFunc fX V:=by
  simp only[execOp,ho,resolve,hb,hv,Deferred.ofValue];rw[<- hV];rfl
 -- what follows the call
 have run:∀ (Fc:Nat->Prop) (ar:List AV) (res:AV),(∀ b,Fc b->b<w.heap.size)->ar.length=A.length->(∀ i,i<ar.length->v7 Fc w (ar.getD i .any) (V.getD i undef))->PC P fX ar res ->
   (∀ v w',RowKit.Below w.heap.size w w'->v7 (fun b=>Fc b∨w.heap.size<=b) w' res v->y6 B w0 F0 S β o.dst K (a.put o.dst v) w')->o.wp P a w (y6 B w0 F0 S β o.dst K) Q:=by
  intro Fc ar res Zi yK Zj Tv hn;rcases Tv Fc w V Zi va5 Zj with ⟨h1,h2⟩|⟨v,h1,h2⟩
  ·unfold Oper.wp;rw[hex,h1];refine h2.mono fun e w' ⟨v,he,U2,L4⟩=>?_
   subst he;exact hn v w' U2 L4
  ·unfold Oper.wp;rw[hex,h1];exact hn v w (RowKit.Below.refl _ _) (h2.mono (fun _ h => .inl h) (fun _ _ _ _ h=>h))
 split at h
 ·rename_i Y7;rw[aZ]at h;obtain⟨res,Tv,hK⟩:=h;refine run F A res (fun b pU=>(hR.FB b pU).1) rfl (fun i hi=>(Eg i hi).shut (G5 Y7 i)) Tv fun v w' U2 L4=>?_
  obtain⟨F',O5⟩:=hR.called U2 (dst:=o.dst) (x:=res) (v:=v) (fun F' g1 g2 _ => .imm (L4.there.mono (fun b pU=>by
   rcases pU.1 with h|h
   ·exact g1 b h
   ·exact g2 b h pU.2) (fun _ _ _ _ h=>h)))
  exact⟨_,_,hK,β,F',fun _ _=>rfl,O5⟩
 ·rw[aZ]at h;obtain⟨res,Tv,hK⟩:=h;split at hK
  ·rename_i IU;refine run (fun b=>F b∨lx S β b) (A.map (D6 4 S.row)) res (fun b pU => ?_) va9 (fun i hi=>?_) Tv fun v w' U2 L4=>?_
   ·rcases pU with h|⟨i,_,h⟩
    ·exact(hR.FB b h).1
    ·exact(hR.bB i b h).2
   ·rw[s7 _ (K1 _ _)];exact F5 hR 4 (Eg i (by simpa using hi))
   ·obtain⟨F',O5⟩:=hR.called U2 (dst:=o.dst) (x:=res) (v:=v) (fun F' _ _ _ => .imm (L4.lift IU));exact⟨_,_,hK,β,F',fun _ _=>rfl,O5⟩
  ·exact hK.elim
end
/- Each operation does what its abstract twin says (eighth part): append. A helper text: it speaks of no program. -/
section
variable {P:Program}{B:Nat->Prop}{w0:World}{F0:Env P}{S:St}{β:Nat->Option Hd}{F:Nat->Prop}{a:Act}{w:World}
theorem aA(h:List Row)(cons:List Nat)(j:Nat):(u6 h (cons.map fun i=>(i,.none))).getD j .none=if j ∈ cons then .none else h.getD j .none:=by
 induction cons generalizing h with
 | nil=>simp[u6]
 | cons i l ih =>
  simp only[List.map_cons,u6,ih,s9,List.mem_cons];by_cases h1:j ∈ l
  ·simp[h1]
  ·by_cases h2:j=i
   ·subst h2;by_cases h3:j<h.length
    ·simp[h1,h3]
    ·simp[h1,h3,zA7 (Nat.le_of_not_lt h3)]
   ·simp[h1,h2,Ne.symm h2]
theorem pk(h:List Row)(l m:List (Nat×Row)):u6 h (l++m)=u6 (u6 h l) m:=by
 induction l generalizing h with
 | nil=>rfl
 | cons x l ih=>obtain⟨i,r⟩:=x;exact ih _
theorem rm(h:List Row)(l:List (Nat×Row)):(u6 h l).length=h.length:=by
 induction l generalizing h with
 | nil=>rfl
 | cons x l ih=>obtain⟨i,r⟩:=x;simp[u6,ih]
theorem Rel.retie(hR:Rel B w0 F0 S β F a w){d:Nat}(hd:β d=none){cons:List Nat}{dst:Option Nat}{hd':Hd}{r:Row}{w':World}
  (H5:w.heap.size<=w'.heap.size) (kq:w'.os=w.os/\w'.tape=w.tape/\w'.output=w.output)
  (kr:∀ k,k<w.heap.size->(∀ c ∈ cons,S.row c ≠ .none->¬ y0 β c k)->w'.heap[k]? = w.heap[k]?)
  (hb:∀ b,ck (some hd') b->b<w'.heap.size/\((∃ c ∈ cons,S.row c ≠ .none/\y0 β c b)∨w.heap.size<=b))
  (hr:∀ β',β' d=some hd'->(∀ j,β j≠none->β' j=β j)->C5 F w w'->A3 β' F w' d r) (yB:∀ l xs k e,r ≠ .ctr l xs k e) :
  ∃ β' F',(∀ j,j≠d->β' j=β j)/\Rel B w0 F0 (S.put dst ⟨.own d,cons.map (fun i=>(i,.none))++[(d,r)]⟩) β' F' (a.put dst (.slice (hd'.b.map fun b=>⟨b,0,none⟩) hd'.len hd'.cap)) w':=by
 let β':Nat->Option Hd:=fun j=>if j=d then some hd' else β j
 have h1:β' d=some hd':=by simp[β']
 have h2:∀ j,j≠d->β' j=β j:=fun j hj=>by simp[β',hj]
 have h3:∀ j,β j≠none->β' j=β j:=fun j hj=>h2 j (fun e=>hj (e ▸ hd))
 have b1:∀ b,y0 β' d b↔ck (some hd') b:=fun b=>by rw[y0,h1]
 have b2:∀ j b,j≠d->(y0 β' j b↔y0 β j b):=fun j b hj=>by rw[y0,y0,h2 j hj]
 have hk:C5 F w w':=fun k o u hF hc=>by
  rw[World.cell?_of_block (w:=w) (kr k (hR.FB k hF).1 fun c _ hc hb=>hR.bF c k hc hb hF)];exact hc
 have C2:∀ j,(u6 S.h (cons.map (fun i=>(i,.none))++[(d,r)])).getD j .none=if d=j/\d<S.h.length then r else if j ∈ cons then .none else S.row j:=fun j=>by
  rw[pk];simp only[u6,s9,aA,rm];rfl
 have live:∀ j,j≠d->(u6 S.h (cons.map (fun i=>(i,.none))++[(d,r)])).getD j .none ≠ .none->j ∉ cons/\S.row j ≠ .none:=fun j hj hl=>by
  rw[C2,if_neg (fun h=>hj h.1.symm)]at hl;split at hl
  ·exact absurd rfl hl
  ·rename_i hc;exact⟨hc,hl⟩
 refine⟨β',F,h2,hR.step h3 (fun _ h=>h) (fun b hb=>⟨zB5 (hR.FB b hb).1 H5,(hR.FB b hb).2⟩) hk kq H5 (.own h1) ?_ ?_ ?_ ?_ (fun k hk hn=>kr k hk fun c _ hc=>hn c hc) ?_ (fun b hb => .inl hb) ?_⟩
 ·intro j;rw[C2];split
  ·rename_i h;obtain⟨rfl,_⟩:=h;exact hr β' h1 h3 hk
  ·split
   ·trivial
   ·rename_i dc yB;by_cases hn:S.row j = .none
    ·rw[hn];trivial
    ·refine(hR.rows j).grow h3 (fun _ h=>h) hk fun b U4=>kr b (hR.bB j b U4).2 fun c hc Y7 vV=>?_
     exact yB (hR.inj j c b hn Y7 U4 vV ▸ hc)
 ·intro i j b hi hj B9 U4;by_cases e:i=d
  ·by_cases e':j=d
   ·exact e.trans e'.symm
   ·exfalso;subst e;rw[b1]at B9;rw[b2 j _ e']at U4;obtain⟨Tw,Vc⟩:=live j e' hj;rcases(hb b B9).2 with ⟨c,hc,Y7,vV⟩|h
    ·exact Tw (hR.inj c j b Y7 Vc vV U4 ▸ hc)
    ·have:=(hR.bB j b U4).2;omega
  ·by_cases e':j=d
   ·exfalso;subst e';rw[b1]at U4;rw[b2 i _ e]at B9;obtain⟨Tx,Ty⟩:=live i e hi;rcases(hb b U4).2 with ⟨c,hc,Y7,vV⟩|h
    ·exact Tx (hR.inj c i b Y7 Ty vV B9 ▸ hc)
    ·have:=(hR.bB i b B9).2;omega
   ·rw[b2 i _ e]at B9;rw[b2 j _ e']at U4;exact hR.inj i j b (live i e hi).2 (live j e' hj).2 B9 U4
 ·intro i b hi B9 hF;by_cases e:i=d
  ·subst e;rw[b1]at B9;rcases(hb b B9).2 with ⟨c,hc,Y7,vV⟩|h
   ·exact hR.bF c b Y7 vV hF
   ·have:=(hR.FB b hF).1;omega
  ·rw[b2 i _ e]at B9;exact hR.bF i b (live i e hi).2 B9 hF
 ·intro i b B9;by_cases e:i=d
  ·subst e;rw[b1]at B9;refine⟨?_,(hb b B9).1⟩;rcases(hb b B9).2 with ⟨c,hc,Y7,vV⟩|h
   ·exact(hR.bB c b vV).1
   ·exact hR.BW b h
  ·rw[b2 i _ e]at B9;have:=hR.bB i b B9;exact⟨this.1,zB5 this.2 H5⟩
 ·intro i b hi B9;by_cases e:i=d
  ·subst e;rw[b1]at B9;rcases(hb b B9).2 with ⟨c,_,Y7,vV⟩|h
   ·exact .inl ⟨c,Y7,vV⟩
   ·exact .inr h
  ·rw[b2 i _ e]at B9;exact .inl ⟨i,(live i e hi).2,B9⟩
 ·intro id l xs k e h;rw[C2]at h;split at h
  ·exact absurd h (yB l xs k e)
  ·split at h
   ·cases h
   ·exact h
theorem ML(hR:Rel B w0 F0 S β F a w){x:AV}{v:Value}(hx:B4 β F w x v){D:MF}(hD:qp S.row x D)(Y7:∀ y ∈ D.l,(D.enc y).length=D.sz/\F9 (D.enc y)=true/\bf (D.enc y)=true) :
  (D.l=[]/\∃ x cap,v = .slice x 0 cap)∨∃ (b o cap:Nat) (g:Nat->Nat->Value),v = .slice (some ⟨b,o,none⟩) D.l.length cap /\
   (∀ i j,i<D.l.length->j<D.sz->w.cell? ⟨b,o+i*D.sz+j,none⟩=some (g i j))/\∀ i j,i<D.l.length->j<D.sz->v7 F w ((D.enc (D.l.getD i D.d)).getD j .any) (g i j):=by
 cases x<;>simp only[qp]at hD
 case nils=>exact .inl ⟨hD,_,_,hx.nils_inv⟩
 case sl α sz d enc l =>
  subst hD;rcases hx.sl_inv with h|⟨b,o,cap,g,h1,h2,h3,h4⟩
  ·exact .inl h
  ·exact .inr ⟨b,o,cap,g,h1,fun i j hi hj=>(h3 i j hi hj).2,h4⟩
 case sf α sz d enc l =>
  subst hD;rcases hx.sf_inv with ⟨h,y,hv⟩|⟨b,o,g,h1,h3,h4⟩
  ·exact .inl ⟨h,y,0,hv⟩
  ·exact .inr ⟨b,o,_,g,h1,fun i j hi hj=>(h3 i j hi hj).2,h4⟩
 case slc sz D5 =>
  obtain⟨h1,h2⟩:=hD;subst h1;have hg:∀ i,i<D.l.length->D5.getD i []=D.enc (D.l.getD i D.d):=fun i hi=>by rw[h2];simp[List.getD,hi]
  have hlen:D5.length=D.l.length:=by rw[h2];simp
  rcases hx.slc_inv with ⟨h,hv⟩|⟨b,o,cap,g,h1,_,h3,h4⟩
  ·refine .inl ⟨?_,_,_,hv⟩;rw[h]at hlen;exact List.eq_nil_of_length_eq_zero hlen.symm
  ·rw[hlen]at h1 h3 h4;exact .inr ⟨b,o,cap,g,h1,fun i j hi hj=>(h3 i j hi hj).2,fun i j hi hj=>by rw[<- hg i hi];exact h4 i j hi hj⟩
 case own id =>
  obtain⟨hd,hβ,hv⟩:=hx.own_inv;split at hD
  ·rename_i hr;subst hD;obtain⟨hl,h⟩:=ay hR hr hβ;rcases h with ⟨h1,h2,h3⟩|⟨b,vs,h1,h2,h3,h4,h5,h6⟩
   ·refine .inl ⟨h1,none,0,?_⟩;rw[hv,h2,hl,h3,h1];rfl
   ·refine .inr ⟨b,0,hd.cap,fun i j=>vs.getD (i*_+j) undef,by rw[hv,h1,hl];rfl,fun i j hi hj=>?_,h6⟩;rw[Nat.zero_add];exact G0 h2 (by rw[h5];exact z5 (zB5 hi h3) hj)
  ·rename_i hr;obtain⟨e1,e2⟩:=hD;subst e1;have:=hR.rows id;rw[hr]at this;obtain⟨hd',b,vs,q1,qm,q2,q3,q4,q5,q6,q7,q8⟩:=this;rw[hβ]at q1;cases q1
   rename_i ty D5;have hlen:D5.length=D.l.length:=iE e2;refine .inr ⟨b,0,hd.cap,fun i j=>vs.getD (i*D.sz+j) undef,by rw[hv,q2,q4,hlen];rfl,fun i j hi hj=>?_,fun i j hi hj=>?_⟩
   ·rw[Nat.zero_add];exact G0 q3 (by rw[q6];exact z5 va5 hj)
   ·have hg:=uv (d:=D.d) e2 hi;have hm:D.l.getD i D.d ∈ D.l:=by simp[List.getD,hi]
    have hc:=G5 (Y7 _ hm).2.1 j;rw[<- hg,eZ]at hc ⊢;exact(q8 i j va5 hj).tts.shut hc
  ·exact hD.elim
def u7(g:Nat->Nat->Value)(n sz:Nat):List Value:=(List.range (n*sz)).map fun k=>g (k / sz) (k % sz)
theorem u0(g:Nat->Nat->Value)(n sz:Nat):(u7 g n sz).length=n*sz:=by simp[u7]
theorem U9{g:Nat->Nat->Value}{n sz i j:Nat}(hi:i<n)(hj:j<sz):(u7 g n sz)[i*sz+j]? = some (g i j):=by
 have h:=z5 hi hj;have h1:(i*sz+j) / sz=i:=by
  rw[Nat.mul_comm,Nat.mul_add_div va5,Nat.div_eq_of_lt hj,Nat.add_zero]
 have h2:(i*sz+j) % sz=j:=by rw[Nat.mul_comm,Nat.mul_add_mod];exact Nat.mod_eq_of_lt hj
 simp[u7,h,h1,h2]
theorem I9{g:Nat->Nat->Value}{n sz b o:Nat}(h:∀ i j,i<n->j<sz->w.cell? ⟨b,o+i*sz+j,none⟩=some (g i j)):∀ j u,(u7 g n sz)[j]? = some u->w.cell? ((⟨b,o,none⟩:Addr).add j)=some u:=by
 intro j u hu;have A2:j<n*sz:=by
  rcases Nat.lt_or_ge j (n*sz)with h|h
  ·exact h
  ·rw[zA7 (by rw[u0];exact h)]at hu;cases hu
 have H5:0<sz:=Nat.pos_of_ne_zero fun e=>by simp[e]at A2
 have Qd:j % sz<sz:=Nat.mod_lt _ H5;have vR:j / sz<n:=(Nat.div_lt_iff_lt_mul H5).2 A2;have he:j=j / sz*sz+j % sz:=by rw[Nat.mul_comm];exact(Nat.div_add_mod j sz).symm
 have h3:=U9 (g:=g) vR Qd;rw[<- he]at h3;rw[h3]at hu;cases hu
 rw[U8];have:=h _ _ vR Qd;rw[show o+j / sz*sz+j % sz=o+j by omega]at this;exact this
end
/- Each operation does what its abstract twin says (last part): append; and all of them together. A helper text: it speaks of no program. -/
section
variable {P:Program}{B:Nat->Prop}{w0:World}{F0:Env P}{S:St}{β:Nat->Option Hd}{F:Nat->Prop}{a:Act}{w:World}
theorem fg{t ty e:TypeId}{i:TypeInfo}(ht:P.underlying t=some (.slice e))(hi:P.info? e=some i)(base:Option Addr)(n cap:Nat)(hn:n<=cap)(x:Option Addr)(c:Nat) :
  (Builtin.append_ #[t,t] ty #[.slice base n cap,.slice x 0 c]).run P w = .ok (.slice base n cap) w:=by
 cases base<;>cases x<;>simp[Builtin.append_,run_underlying ht,sizeOf,typeInfo,hi,Builtin.lenOf,hn,Builtin.firstCells,storeCells,loadCells,loadCellsFrom]
theorem pE{t ty e:TypeId}{i:TypeInfo}(ht:P.underlying t=some (.slice e))(hi:P.info? e=some i)(x:Addr)(c:Nat) :
  (Builtin.append_ #[t,t] ty #[.slice none 0 0,.slice (some x) 0 c]).run P w = .ok (.slice none 0 0) w:=by
 simp[Builtin.append_,run_underlying ht,sizeOf,typeInfo,hi,Builtin.lenOf,Builtin.firstCells,loadCells,loadCellsFrom]
theorem kv{x:AV}{v:Value}(h:v7 F w x v)(hx:x.one=true):v.oneCell'=true:=(B4.one_cell (β:=fun _=>none) (.imm h) hx).1
theorem fi{α:Type}{l m:List α}{i:Nat}{d:α}(h:i<l.length):(l++m).getD i d=l.getD i d:=by simp[List.getD,List.getElem?_append_left h]
theorem dK{α:Type}{l m:List α}{i:Nat}{d:α}(h:l.length<=i):(l++m).getD i d=m.getD (i-l.length) d:=by simp[List.getD,List.getElem?_append_right h]
theorem lF{α:Type}{sz:Nat}{d:α}{enc:α->List AV}{l l':List α}{go gn:Nat->Nat->Value}{rest:List Value}{w':World}
  (ho:∀ i j,i<l.length->j<sz->v7 F w' ((enc (l.getD i d)).getD j .any) (go i j)) (hn:∀ i j,i<l'.length->j<sz->v7 F w' ((enc (l'.getD i d)).getD j .any) (gn i j))
  {vs:Array Value} (Ci:vs.toList=u7 go l.length sz++u7 gn l'.length sz++rest) :
  ∀ i j,i<(l++l').length->j<sz->v7 F w' ((enc ((l++l').getD i d)).getD j .any) (vs.getD (i*sz+j) undef):=by
 intro i j hi hj;have Y8:∀ k v,(u7 go l.length sz++u7 gn l'.length sz++rest)[k]? = some v->vs.getD k undef=v:=fun k v h=>by
  rw[<- Ci]at h;have:vs[k]? = some v:=by simpa using h
  simp[Array.getD_eq_getD_getElem?,this]
 by_cases h:i<l.length
 ·rw[fi h,Y8 _ (go i j) ?_]
  ·exact ho i j h hj
  ·have:=z5 h hj;rw[List.append_assoc,List.getElem?_append_left (by rw[u0];exact this)];exact U9 h hj
 ·have hle:=Nat.le_of_not_lt h;have bO:i-l.length<l'.length:=by simp at hi;omega
  rw[dK hle,Y8 _ (gn (i-l.length) j) ?_]
  ·exact hn _ _ bO hj
  ·have e:i*sz+j-l.length*sz=(i-l.length)*sz+j:=by rw[Nat.sub_mul];have:=Nat.mul_le_mul_right sz hle;omega
   have h2:l.length*sz<=i*sz:=Nat.mul_le_mul_right sz hle;have h3:=z5 bO hj;rw[List.append_assoc,List.getElem?_append_right (by rw[u0];omega),u0,e,List.getElem?_append_left (by rw[u0];exact h3)];exact U9 bO hj
theorem vW{α:Type}{sz:Nat}{d:α}{enc:α->List AV}{l:List α}{g:Nat->Nat->Value}(Y7:∀ y ∈ l,(enc y).length=sz/\F9 (enc y)=true/\bf (enc y)=true)
  (hr:∀ i j,i<l.length->j<sz->v7 F w ((enc (l.getD i d)).getD j .any) (g i j)):∀ u ∈ u7 g l.length sz,u.oneCell'=true:=by
 intro u hu;obtain⟨k,hk,rfl⟩:=List.mem_map.1 hu;have A2:k<l.length*sz:=List.mem_range.1 hk;have H5:0<sz:=Nat.pos_of_ne_zero fun e=>by simp[e]at A2
 have h1:k / sz<l.length:=(Nat.div_lt_iff_lt_mul H5).2 A2;have h2:k % sz<sz:=Nat.mod_lt _ H5;have hm:l.getD (k / sz) d ∈ l:=by simp[List.getD,h1]
 obtain⟨c1,c2,c3⟩:=Y7 _ hm;exact kv (hr _ _ h1 h2) (dI c3 _ va5)
theorem cA(z:Array Value)(n:Nat):(Builtin.zeroCells z n).size=n*z.size:=by simp[Builtin.zeroCells]
theorem Cj(hR:Rel B w0 F0 S β F a w){o:Oper}{c:Call}(ho:o.op = .call c)(hb:c.callee = .builtin .append)(B3:∀ d,o.dst=some d->β d=none){K:Out->List Nat->Prop}
  (h:k7 P o.dst (.call c) S.get S.row K) {Q:Exit->Act->World->Prop}:o.wp P a w (y6 B w0 F0 S β o.dst K) Q:=by
 simp only[k7,hb]at h;split at h
 case h_2=>exact h.elim
 rename_i s x t t' FT MM;have e1:=jW FT;have e2:=jW MM;split at h
 case h_2=>exact h.elim
 rename_i d e hd hu VW;have ht:=zA8 VW;subst ht;split at h
 case h_2=>exact h.elim
 rename_i i z hi hz;split at h
 case h_2=>exact h.elim
 rename_i tj;have FQ:=zA8 tj;split at h
 case h_2=>exact h.elim
 rename_i Ck;have Yd:0<i.size:=by simpa[Nat.blt_eq]using Ck
 split at h
 case h_2=>exact h.elim
 rename_i fj;obtain⟨D,l',tA,Cl,MN,vX,hlen,Y7,hK⟩:=h;obtain⟨i',zv,bO,BQ,_,Is⟩:=Y6 (β:=β) (F:=F) (w:=w) hz;rw[hi]at bO; cases bO
 have Qe:zv.cells.size=i.size:=by rw[<- Is.1];exact FQ
 have hs:∀ cs,builtin .append c.argTypes o.type cs (c.args.map a.eval)=(do pure (.value (<- Builtin.append_ #[t,t] o.type #[a.eval s,a.eval x]))):=fun cs=>by
  rw[e1,e2];simp[builtin]
 have VX:∀ y ∈ D.l,(D.enc y).length=D.sz/\F9 (D.enc y)=true/\bf (D.enc y)=true:=fun y hy=>Y7 y (List.mem_append_left _ hy)
 have MO:∀ y ∈ l',(D.enc y).length=D.sz/\F9 (D.enc y)=true/\bf (D.enc y)=true:=fun y hy=>Y7 y (List.mem_append_right _ hy)
 have MP:=hR.get s;have Ce:=hR.get x;have yL:=ML hR Ce MN MO;have fd:=B3 d hd
 -- how it ends, given the run
 have fin:∀ (hd':Hd) (w':World),(Builtin.append_ #[t,t] o.type #[a.eval s,a.eval x]).run P w = .ok (.slice (hd'.b.map fun b=>⟨b,0,none⟩) hd'.len hd'.cap) w'->w.heap.size<=w'.heap.size ->
   (w'.os=w.os/\w'.tape=w.tape/\w'.output=w.output)->(∀ k,k<w.heap.size->(∀ c ∈ cY (S.get s),S.row c ≠ .none->¬ y0 β c k)->w'.heap[k]? = w.heap[k]?) ->
   (∀ b,ck (some hd') b->b<w'.heap.size/\((∃ c ∈ cY (S.get s),S.row c ≠ .none/\y0 β c b)∨w.heap.size<=b)) ->
   (∀ β',β' d=some hd'->(∀ j,β j≠none->β' j=β j)->C5 F w w'->A3 β' F w' d (.vec e D.sz D.d D.enc (D.l++l')))->o.wp P a w (y6 B w0 F0 S β o.dst K) Q:=by
  intro hd' w' L9 g1 g2 g3 g4 g5;obtain⟨β',F',q1,q2⟩:=hR.retie fd (cons:=cY (S.get s)) (dst:=o.dst) (hd':=hd') g1 g2 g3 g4 g5 (fun _ _ _ _ h=>by cases h);exact K2 ho hb hs L9 ⟨_,_,hK,β',F',fun j hj=>q1 j (fun e=>hj (by rw[e];exact hd)),q2⟩
 have Mr:(D.l++l').length<=maxLen:=by simp only[List.length_append,maxLen];omega
 -- a new block
 have fresh:∀ (go gn:Nat->Nat->Value) (cap:Nat),D.l.length+l'.length<=cap->cap<=maxLen ->
   (∀ i j,i<D.l.length->j<D.sz->v7 F w ((D.enc (D.l.getD i D.d)).getD j .any) (go i j))->(∀ i j,i<l'.length->j<D.sz->v7 F w ((D.enc (l'.getD i D.d)).getD j .any) (gn i j)) ->
   (Builtin.append_ #[t,t] o.type #[a.eval s,a.eval x]).run P w = .ok (.slice (some ⟨w.heap.size,0,none⟩) (D.l.length+l'.length) cap)
    (w.drew.alloc (.cells ((u7 go D.l.length D.sz).toArray++(u7 gn l'.length D.sz).toArray++Builtin.zeroCells zv.cells (cap-(D.l.length+l'.length))) e)) ->
   o.wp P a w (y6 B w0 F0 S β o.dst K) Q:=by
  intro go gn cap hc Mt Zk Tz L9;refine fin ⟨some w.heap.size,D.l.length+l'.length,cap,iw⟩ _ L9 va9 ⟨rfl,rfl,rfl⟩ (fun k hk _=>RowKit.Below.heap_alloc w.drew _ k hk) (fun b hb=>?_) (fun β' nc _ hk=>?_)
  ·simp only[P3,Option.some.injEq]at hb;subst hb;exact⟨by simp,.inr (Nat.le_refl _)⟩
  ·refine⟨_,nc,rfl,by simp,.inr ⟨w.heap.size,_,rfl,heap_alloc_new w.drew _,by simpa using hc,Mt,?_,?_⟩⟩
   ·simp only[Array.size_append,List.size_toArray,u0,cA,Qe,<- tA,<- Nat.add_mul]
    congr 1;omega
   ·exact lF (go:=go) (gn:=gn) (fun i j h1 h2=>(Zk i j h1 h2).mono (fun _ h=>h) hk) (fun i j h1 h2=>(Tz i j h1 h2).mono (fun _ h=>h) hk)
     (rest:=(Builtin.zeroCells zv.cells (cap-(D.l.length+l'.length))).toList) va9
 -- the base
 have vY:a.eval s = .slice none 0 0->D.l=[]->o.wp P a w (y6 B w0 F0 S β o.dst K) Q:=by
  intro hv0 dC;have same:l'=[]->(Builtin.append_ #[t,t] o.type #[a.eval s,a.eval x]).run P w = .ok (.slice none 0 0) w->o.wp P a w (y6 B w0 F0 S β o.dst K) Q:=by
   intro lC L9;refine fin ⟨none,0,0,iw⟩ w L9 (Nat.le_refl _) ⟨rfl,rfl,rfl⟩ (fun _ _ _=>rfl) (fun b hb=>by rw[P3]at hb;cases hb) (fun β' nc _ _=>⟨_,nc,rfl,by simp[dC,lC],.inl ⟨by simp[dC,lC],rfl,rfl⟩⟩)
  rcases yL with ⟨lC,x0,c0,yr⟩|⟨b,ob,cap,g,yr,I5,L4⟩
  ·refine same lC ?_;rw[hv0,yr];exact fg hu hi none 0 0 (Nat.le_refl _) x0 c0
  ·by_cases hm:l'.length=0
   ·refine same (List.eq_nil_of_length_eq_zero hm) ?_;rw[hv0,yr];simp only[hm];exact pE hu hi _ _
   ·have hr:=run_append_nil (P:=P) w t o.type e i zv hu hi BQ ⟨b,ob,none⟩ l'.length cap (u7 g l'.length D.sz) (by rw[u0,tA]) (I9 I5) va5 va5
     (by simp only[dC,List.length_nil,Nat.zero_add]at vX;omega)
    refine fresh (fun _ _=>undef) g (grownCap w l'.length 0 e) ?_ ?_ (fun i j h1=>by simp[dC]at h1) L4 ?_
    ·simp only[dC,List.length_nil,Nat.zero_add];exact grownCap_ge w l'.length 0 e
    ·exact grownCap_le_maxLen w l'.length 0 e (by simp only[maxLen];omega)
    ·rw[hv0,yr,hr];simp[dC,u7]
 have base:∀ (id b cap:Nat) (cur:Array Value) (go:Nat->Nat->Value),S.get s = .own id->S.row id ≠ .none->y0 β id b->a.eval s = .slice (some ⟨b,0,none⟩) D.l.length cap->w.heap[b]? = some (.cells cur e (0,0)) ->
   D.l.length<=cap->cap<=maxLen->cur.size=cap*D.sz->(∀ i j,i<D.l.length->j<D.sz->w.cell? ⟨b,0+i*D.sz+j,none⟩=some (go i j)) ->
   (∀ i j,i<D.l.length->j<D.sz->v7 F w ((D.enc (D.l.getD i D.d)).getD j .any) (go i j))->o.wp P a w (y6 B w0 F0 S β o.dst K) Q:=by
  intro id b cap cur go O0 C0 lE hv0 Ch yB Mt uq fY qw;have yp:=hR.bB id b lE;have qq:u7 go D.l.length D.sz=cur.toList.take (D.l.length*D.sz):=by
   apply List.ext_getElem?;intro k;by_cases hk:k<D.l.length*D.sz
   ·have H5:0<D.sz:=by omega
    have h1:k / D.sz<D.l.length:=(Nat.div_lt_iff_lt_mul H5).2 hk;have h2:k % D.sz<D.sz:=Nat.mod_lt _ H5;have he:k=k / D.sz*D.sz+k % D.sz:=by rw[Nat.mul_comm];exact(Nat.div_add_mod k D.sz).symm
    have h3:=U9 (g:=go) h1 h2;rw[<- he]at h3;have h4:=fY _ _ h1 h2;rw[Nat.zero_add,<- he]at h4;have A2:k<cur.size:=by
     have:D.l.length*D.sz<=cap*D.sz:=Nat.mul_le_mul_right _ yB;omega
    have h5:=G0 Ch A2;rw[h5]at h4;rw[h3,List.getElem?_take_of_lt hk,<- h4];simp[A2]
   ·rw[zA7 (by rw[u0];omega),zA7 (by rw[zB1];omega)]
  by_cases bP:D.l.length+l'.length<=cap
  ·rcases yL with ⟨lC,x0,c0,yr⟩|⟨bx,ob,IV,g,yr,I5,L4⟩
   ·refine fin ⟨some b,D.l.length,cap,iw⟩ w ?_ (Nat.le_refl _) ⟨rfl,rfl,rfl⟩ (fun _ _ _=>rfl) (fun b' pU => ?_) (fun β' nc _ _=>?_)
    ·rw[hv0,yr];exact fg hu hi _ _ _ yB x0 c0
    ·simp only[P3,Option.some.injEq]at pU;subst pU;exact⟨yp.2,.inl ⟨id,by rw[O0];simp[cY],C0,lE⟩⟩
    ·have dC:l'=[]:=lC;refine⟨_,nc,rfl,by simp[dC],.inr ⟨b,cur,rfl,Ch,by simpa[dC]using yB,Mt,uq,fun p q hp hq=>?_⟩⟩;have na:p<D.l.length:=by simpa[dC]using hp
     have h4:=fY _ _ na hq;rw[Nat.zero_add,G0 Ch (by rw[uq];exact z5 va5 hq)]at h4;simp only[Option.some.injEq]at h4;rw[dC,List.append_nil,h4];exact qw p q na hq
   ·have ku:D.l.length*i.size+(u7 g l'.length D.sz).length<=cur.size:=by
     rw[u0,uq,<- tA,<- Nat.add_mul];exact Nat.mul_le_mul_right _ bP
    have hr:=run_append_room (P:=P) w t o.type e i hu hi b D.l.length cap cur Ch ⟨bx,ob,none⟩ l'.length IV (u7 g l'.length D.sz) (by rw[u0,tA]) (I9 I5)
     (vW MO L4) bP ku
    obtain⟨f1,f2,f3⟩:=O7 b cur (cur.toList.take (D.l.length*i.size)++u7 g l'.length D.sz++cur.toList.drop (D.l.length*i.size+(u7 g l'.length D.sz).length)).toArray e (0,0) Ch;refine fin ⟨some b,D.l.length+l'.length,cap,iw⟩ _ (by rw[hv0,yr];exact hr) (by rw[f1.2.2.2];exact Nat.le_refl _) ⟨f1.1,f1.2.1,f1.2.2.1⟩ (fun k hk hn=>f2 k fun e=>?_) (fun b' pU => ?_) (fun β' nc _ hk=>?_)
    ·subst e;exact hn id (by rw[O0];simp[cY]) C0 lE
    ·simp only[P3,Option.some.injEq]at pU;subst pU;exact⟨by rw[f1.2.2.2];exact yp.2,.inl ⟨id,by rw[O0];simp[cY],C0,lE⟩⟩
    ·refine⟨_,nc,rfl,by simp,.inr ⟨b,_,rfl,f3,by simpa using bP,Mt,?_,?_⟩⟩
     ·simp only[List.size_toArray,List.length_append,zB1,List.length_drop,Array.length_toList];rw[<- uq];omega
     ·refine lF (go:=go) (gn:=g) (fun i j h1 h2=>(qw i j h1 h2).mono (fun _ h=>h) hk) (fun i j h1 h2=>(L4 i j h1 h2).mono (fun _ h=>h) hk)
       (rest:=cur.toList.drop (D.l.length*i.size+(u7 g l'.length D.sz).length)) ?_
      rw[qq,tA]
  ·rcases yL with ⟨lC,x0,c0,yr⟩|⟨bx,ob,IV,g,yr,I5,L4⟩
   ·have dC:l'=[]:=lC;simp[dC]at bP;omega
   ·have hfs:u7 go D.l.length D.sz=u7 go D.l.length i.size:=by rw[tA]
    have hr:=run_append_grow (P:=P) w t o.type e i zv hu hi BQ ⟨b,0,none⟩ D.l.length cap (u7 go D.l.length D.sz) (by rw[u0,tA]) (I9 fY) ⟨bx,ob,none⟩ l'.length IV (u7 g l'.length D.sz)
     (by rw[u0,tA]) (I9 I5) va5 va5 (growslice_fits va5 va5)
    refine fresh go g (grownCap w (D.l.length+l'.length) cap e) (grownCap_ge w _ _ e) (grownCap_le_maxLen w _ _ e (by simp only[maxLen];omega)) qw L4 ?_;rw[hv0,yr,hr]
 have fl:ez S.row (S.get s) (S.get x)=true->0<l'.length:=fun h=>by
  unfold ez at h;split at h
  ·split at h
   ·rename_i q qx;split at h
    ·rename_i hq;rw[qx]at MN;simp only[qp,hq]at MN;have:=iE MN.2;simp at this;omega
    ·cases h
   ·cases h
  ·cases h
 have Ye:∀ (y:Addr) (go:Nat->Nat->Value),a.eval s = .slice (some y) D.l.length D.l.length->0<l'.length->(∀ j v,(u7 go D.l.length D.sz)[j]? = some v->w.cell? (y.add j)=some v) ->
   (∀ i j,i<D.l.length->j<D.sz->v7 F w ((D.enc (D.l.getD i D.d)).getD j .any) (go i j))->o.wp P a w (y6 B w0 F0 S β o.dst K) Q:=by
  intro y go hv0 aW fY qw;rcases yL with ⟨lC,x0,c0,yr⟩|⟨bx,ob,IV,g,yr,I5,L4⟩
  ·have h0:l'=[]:=lC;rw[h0]at aW;exact absurd aW (Nat.lt_irrefl 0)
  ·have hr:=run_append_grow (P:=P) w t o.type e i zv hu hi BQ y D.l.length D.l.length (u7 go D.l.length D.sz) (by rw[u0,tA]) fY ⟨bx,ob,none⟩ l'.length IV (u7 g l'.length D.sz)
    (by rw[u0,tA]) (I9 I5) va5 va5 (growslice_fits va5 va5)
   refine fresh go g (grownCap w (D.l.length+l'.length) D.l.length e) (grownCap_ge w _ _ e) (grownCap_le_maxLen w _ _ e (by simp only[maxLen];omega)) qw L4 ?_;rw[hv0,yr,hr]
 by_cases qy:ez S.row (S.get s) (S.get x)=true
 ·have aW:=fl qy;cases hg:S.get s<;>rw[hg]at qy Cl MP<;>simp only[ez,qp]at qy Cl
  case sf =>
   subst Cl;rcases MP.sf_inv with ⟨dC,x0,hv0⟩|⟨b,ob,g0,hv0,fY,qw⟩
   ·cases x0 with
    | none=>exact vY hv0 dC
    | some y=>exact Ye y (fun _ _=>undef) (by rw[hv0];simp[dC]) aW (fun j v h=>by simp[dC,u7]at h) (fun i j h1=>by simp[dC]at h1)
   ·exact Ye ⟨b,ob,none⟩ g0 hv0 aW (I9 fun i j hi hj=>(fY i j hi hj).2) qw
  all_goals cases qy
 have Qf:ez S.row (S.get s) (S.get x)=false:=by simpa using qy
 rw[Qf,Bool.or_false]at fj;cases hg:S.get s<;>rw[hg]at Cl fj<;>simp only[qp,mY]at Cl fj
 case nils =>
  rw[hg]at MP;exact vY MP.nils_inv Cl
 case own id =>
  rw[hg]at MP;obtain⟨aC,hβ,hv0⟩:=MP.own_inv;have TA:∀ {ty},(S.row id).tyIs e=true->(∀ {α} {sz d enc} {l:List α},S.row id = .vec ty sz d enc l->ty=e)/\(∀ {sz D5},S.row id = .lit ty sz D5->ty=e):=by
   intro ty TA;refine⟨fun h=>?_,fun h=>?_⟩<;>(rw[h]at TA;exact zA8 TA)
  split at Cl
  ·rename_i ty sz dd enc l hr;obtain rfl:=(TA fj).1 hr;obtain⟨q2,q3⟩:=ay hR hr hβ;subst Cl;rcases q3 with ⟨h1,h2,h3⟩|⟨b,vs,h1,h2,h3,h4,h5,h6⟩
   ·refine vY ?_ h1;rw[hv0,h2,q2,h3,h1];rfl
   ·exact base id b aC.cap vs (fun i j=>vs.getD (i*_+j) undef) hg (by rw[hr];simp) (by rw[y0,hβ];exact D2 h1) (by rw[hv0,h1,q2];rfl) h2 h3 h4 h5
     (fun i j hi hj=>by rw[Nat.zero_add];exact G0 h2 (by rw[h5];exact z5 (zB5 hi h3) hj)) h6
  ·rename_i ty sz D5 hr;obtain rfl:=(TA fj).2 hr;obtain⟨q1,q2⟩:=Cl;have:=hR.rows id;rw[hr]at this;obtain⟨hd',b,vs,p1,pm,p2,p3,p4,p5,p6,p7,p8⟩:=this;rw[hβ]at p1;cases p1
   have hlen:D5.length=D.l.length:=iE q2;refine base id b aC.cap vs (fun i j=>vs.getD (i*D.sz+j) undef) hg (by rw[hr];simp) (by rw[y0,hβ];exact D2 p2) (by rw[hv0,p2,p4,hlen];rfl) p3 va5 va5 (by rw[p6,p5,q1])
    (fun i j hi hj=>by rw[Nat.zero_add];exact G0 p3 (by rw[p6,q1];exact z5 va5 hj)) (fun i j hi hj=>?_)
   have Zl:=uv (d:=D.d) q2 hi;have hm:D.l.getD i D.d ∈ D.l:=by simp[List.getD,hi]
   have:=p8 i j va5 (by rw[q1];exact hj);rw[q1]at this;have hc:=G5 (VX _ hm).2.1 j;rw[<- Zl,eZ]at hc ⊢;exact this.tts.shut hc
  ·exact Cl.elim
 all_goals simp at fj
end

end Go.Ev
