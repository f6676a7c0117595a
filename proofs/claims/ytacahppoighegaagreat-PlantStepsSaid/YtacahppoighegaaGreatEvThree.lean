/- Helper lemmas. -/
import Derived.Test.YtacahppoighegaaGreatEvTwo
import Derived.IntWalk
set_option linter.unusedVariables false
set_option linter.unusedSimpArgs false
/- Each operation does what its abstract twin says (sixth part): places in structs and slices, new slices. A helper text: it speaks of no program. -/
namespace Go.Ev
section
variable {P:Program}{B:Nat->Prop}{w0:World}{F0:Env P}{S:St}{β:Nat->Option Hd}{F:Nat->Prop}{a:Act}{w:World}
theorem vH(hR:Rel B w0 F0 S β F a w){o:Oper}{s:TypeId}{x:Operand}{f:Nat}(ho:o.op = .fieldAddr s x f){K:Out->List Nat->Prop}(h:y0 P o.dst (.fieldAddr s x f) S.get S.row K){Q:Exit->Act->World->Prop} :
  o.wp P a w (z7 B w0 F0 S β o.dst K) Q:=by
 simp only[y0]at h;split at h
 case h_2=>exact h.elim
 rename_i fs hu;split at h
 case h_2=>exact h.elim
 rename_i fd hf;split at h
 case h_2=>exact h.elim
 rename_i i hi;split at h
 case h_1=>exact h.elim
 rename_i hz;have hz':i.size≠0:=fun e=>by rw[e]at hz;simp at hz
 have hx:=hR.get x;have L0:execOp a.eval o=(do pure (.value (<- Instr.fieldAt s (a.eval x) f))):=by simp[execOp,ho]
 have K4:∀ b ob,(Instr.fieldAt s (.pointer (some ⟨b,ob,none⟩)) f).run P w = .ok (.pointer (some ⟨b,ob+fd.offset,none⟩)) w:=fun b ob=>by
  simp[Instr.fieldAt,run_underlying hu,hf,Instr.sureAddr,fieldPlace,sizeOf,typeInfo,hi,hz',U3]
 split at h
 ·rename_i cs off hg;rw[hg]at hx;obtain⟨b,ob,g,hv,hc,hr⟩:=hx.pt_inv;rw[hv]at L0;refine K3 L0 (K4 _ _) (z7.still hR (.imm ?_) h);rw[Nat.add_assoc];exact .pt g hc hr
 ·rename_i id sz j off hg;rw[hg]at hx;obtain⟨hd,b,hb,hh,hv⟩:=hx.ptr_inv;rw[hv]at L0;refine K3 L0 (K4 _ _) (z7.still hR ?_ h);rw[Nat.add_assoc];exact .ptr hb hh
 ·exact h.elim
theorem Bs(hR:Rel B w0 F0 S β F a w){o:Oper}{x:Operand}{i:Nat}(ho:o.op = .extract x i){K:Out->List Nat->Prop}(h:y0 P o.dst (.extract x i) S.get S.row K){Q:Exit->Act->World->Prop} :
  o.wp P a w (z7 B w0 F0 S β o.dst K) Q:=by
 simp only[y0]at h;split at h
 case h_2=>exact h.elim
 rename_i l hg;split at h
 case h_2=>exact h.elim
 rename_i z8;have hx:=hR.get x;rw[hg]at hx;obtain⟨vs,hv,hl,hr⟩:=hx.tup_inv;have ZM:i<l.length:=by simpa[Nat.blt_eq]using z8
 have L0:execOp a.eval o=(do pure (.value (<- Instr.extract (a.eval x) i))):=by simp[execOp,ho]
 rw[hv]at L0;refine K3 L0 (v:=vs.getD i undef) (w':=w) ?_ (z7.still hR (hr i ZM) h);simp[Instr.extract,show i<vs.size by omega]
theorem Bt(hR:Rel B w0 F0 S β F a w){o:Oper}{src t:TypeId}{x:Operand}(ho:o.op = .convert src t x){K:Out->List Nat->Prop}(h:y0 P o.dst (.convert src t x) S.get S.row K){Q:Exit->Act->World->Prop} :
  o.wp P a w (z7 B w0 F0 S β o.dst K) Q:=by
 simp only[y0]at h;split at h
 case h_2=>exact h.elim
 rename_i d k kk n hs ht hg;have hx:=hR.get x;rw[hg]at hx;have L0:execOp a.eval o=(do pure (.value (<- convert src t (a.eval x)))):=by simp[execOp,ho]
 rw[hx.int_inv]at L0;exact K3 L0 (v := .int k (k.wrap n)) (w':=w) (by simp[convert,run_underlying hs,run_underlying ht,Conv.intToInt]) (z7.still hR (.imm (.int _ _)) h)
theorem L9(hR:Rel B w0 F0 S β F a w)(xs:Array Operand):(xs.toList.map S.get).length=(xs.map a.eval).size/\∀ i,i<(xs.toList.map S.get).length->C4 β F w ((xs.toList.map S.get).getD i .any) ((xs.map a.eval).getD i undef):=by
 refine⟨by simp,fun i hi=>?_⟩;have cI:i<xs.size:=by simpa using hi
 have e1:(xs.toList.map S.get).getD i .any=S.get xs[i]:=by simp[List.getD,cI]
 have e2:(xs.map a.eval).getD i undef=a.eval xs[i]:=by simp[Array.getD_eq_getD_getElem?,cI]
 rw[e1,e2];exact hR.get _
theorem yH(hR:Rel B w0 F0 S β F a w){o:Oper}{f:Fn}{xs ys:Array Operand}(ho:o.op = .makeFunc f xs ys){K:Out->List Nat->Prop}(h:y0 P o.dst (.makeFunc f xs ys) S.get S.row K){Q:Exit->Act->World->Prop} :
  o.wp P a w (z7 B w0 F0 S β o.dst K) Q:=by
 simp only[y0]at h;have L0:execOp a.eval o=(do pure (.value (<- Instr.makeFunc f (xs.map a.eval) (ys.map a.eval)))):=by simp[execOp,ho]
 obtain⟨h1,h2⟩:=L9 hR xs;obtain⟨h3,h4⟩:=L9 hR ys;exact K3 L0 (v := .func f (xs.map a.eval) (ys.map a.eval)) (w':=w) (by simp[Instr.makeFunc]) (z7.still hR (.fn h1 h2 h3 h4) h)
theorem yI(hR:Rel B w0 F0 S β F a w){o:Oper}{x:Operand}(ho:o.op = .nilCheck x){K:Out->List Nat->Prop}(h:y0 P o.dst (.nilCheck x) S.get S.row K){Q:Exit->Act->World->Prop} :
  o.wp P a w (z7 B w0 F0 S β o.dst K) Q:=by
 simp only[y0]at h;have hx:=hR.get x;split at h
 ·rename_i c cs off hg;rw[hg]at hx;obtain⟨b,ob,g,hv,_,_⟩:=hx.pt_inv;exact fV (v:=a.eval x) (w':=w) (by simp[execOp,ho,hv]) (z7.still hR hx h)
 ·rename_i id sz j off hg;rw[hg]at hx;obtain⟨hd,b,hb,hh,hv⟩:=hx.ptr_inv;exact fV (v:=a.eval x) (w':=w) (by simp[execOp,ho,hv]) (z7.still hR hx h)
 ·exact h.elim
theorem Ic(hR:Rel B w0 F0 S β F a w){o:Oper}{t:TypeId}{x ix:Operand}(ho:o.op = .index t x ix){K:Out->List Nat->Prop}(h:y0 P o.dst (.index t x ix) S.get S.row K){Q:Exit->Act->World->Prop} :
  o.wp P a w (z7 B w0 F0 S β o.dst K) Q:=by
 simp only[y0]at h;split at h
 case h_2=>exact h.elim
 rename_i k n hn;have PJ:=hR.get ix;rw[hn]at PJ;have L0:execOp a.eval o=(do pure (.value (<- Instr.index t (a.eval x) (a.eval ix)))):=by simp[execOp,ho]
 split at h
 ·rename_i s hg;have hx:=hR.get x;rw[hg]at hx;split at h
  case h_2=>exact h.elim
  rename_i hu;obtain⟨⟨h0,h1⟩,h⟩:=(D4 _ _ _).1 h;have qA:a.eval x = .string s:=by
   generalize a.eval x=v at hx;cases hx with|imm h=>cases h;rfl
  rw[PJ.int_inv,qA]at L0;have z8:n.toNat<s.size:=by omega
  have hb:s[n.toNat]? = some s[n.toNat]:=by simp[z8]
  refine K3 L0 (v := .int .u8 (pg s n.toNat)) (w':=w) ?_ (z7.still hR (.imm (.int _ _)) h);simp[Instr.index,run_underlying hu,asIntOf,h0,pg,hb]
 ·rename_i l hg;have hx:=hR.get x;rw[hg]at hx;split at h
  case h_2=>exact h.elim
  rename_i len e hu;split at h
  case h_2=>exact h.elim
  rename_i inf d hi hd;split at h
  case h_2=>exact h.elim
  rename_i hc;simp only[zA2,Bool.not_eq_true']at hc;obtain⟨c1,c2,c3⟩:=hc;have c2:=zA8 c2;have c3:=zA8 c3;obtain⟨⟨h0,h1⟩,h⟩:=(D4 _ _ _).1 h;obtain⟨vs,hv,hl,hr⟩:=hx.agg_inv;rw[PJ.int_inv,hv]at L0;have z8:n.toNat<l.length:=by omega
  have Lt:n.toNat<vs.size:=by omega
  have he:vs[n.toNat]? = some (vs.getD n.toNat undef):=by simp[Array.getD_eq_getD_getElem?,Lt]
  have G0:(sizeOf e).run P w = .ok 1 w:=by rw[run_sizeOf w hi];simp[Program.cellsOf,hi,c2]
  have hag:(isAgg e).run P w = .ok false w:=by
   cases d<;>simp[aZ]at c1<;>simp[isAgg,run_underlying hd]
  refine K3 L0 (v:=vs.getD n.toNat undef) (w':=w) ?_ (z7.still hR (hr _ z8) h);generalize vs.getD n.toNat undef=u at he;simp[Instr.index,run_underlying hu,asIntOf,h0,h1,part,G0,hag,he]
 ·exact h.elim
theorem vI(hR:Rel B w0 F0 S β F a w){o:Oper}{t:TypeId}{x ix:Operand}(ho:o.op = .indexAddr t x ix){K:Out->List Nat->Prop}(h:y0 P o.dst (.indexAddr t x ix) S.get S.row K){Q:Exit->Act->World->Prop} :
  o.wp P a w (z7 B w0 F0 S β o.dst K) Q:=by
 simp only[y0]at h;split at h
 case h_2=>exact h.elim
 rename_i k n hn;have PJ:=hR.get ix;rw[hn]at PJ;have hx:=hR.get x;have L0:execOp a.eval o=(do pure (.value (<- Instr.indexAt t (a.eval x) (a.eval ix)))):=by simp[execOp,ho]
 rw[PJ.int_inv]at L0;split at h
 ·rename_i e hu;split at h
  case h_2=>exact h.elim
  rename_i inf hi;have K4:∀ b ob len cap,0<=n->n<(len:Nat)->(Instr.indexAt t (.slice (some ⟨b,ob,none⟩) len cap) (.int k n)).run P w = .ok (.pointer (some ⟨b,ob+n.toNat*inf.size,none⟩)) w:=fun b ob len cap h0 h1=>by
   simp[Instr.indexAt,run_underlying hu,asIntOf,h0,h1,sizeOf,typeInfo,hi,U3]
  split at h
  ·rename_i α sz d enc l hg;rw[hg]at hx;split at h
   case h_2=>exact h.elim
   rename_i G0;have jM:=zA8 G0;obtain⟨⟨h0,h1⟩,h⟩:=(D4 _ _ _).1 h;split at h
   case h_2=>exact h.elim
   rename_i hlen;have SX:=zA8 hlen;rcases hx.sl_inv with ⟨hl,_⟩|⟨b,ob,cap,g,hv,hc,hb,hr⟩
   ·rw[hl]at h1;simp at h1;omega
   ·rw[hv]at L0;refine K3 L0 (K4 _ _ _ _ h0 h1) (z7.still hR (.imm ?_) h);have SY:n.toNat<l.length:=by omega
    have:=y6.pt (F:=F) (w:=w) (cs:=enc (l.getD n.toNat d)) (off:=0) (b:=b) (o:=ob+n.toNat*sz) (fun j=>g n.toNat j) (fun j hj=>hb _ _ SY va5) (fun j hj=>hr _ _ SY va5);rw[<- jM];exact this
  ·rename_i sz E5 hg;rw[hg]at hx;split at h
   case h_2=>exact h.elim
   rename_i G0;have jM:=zA8 G0;obtain⟨⟨h0,h1⟩,h⟩:=(D4 _ _ _).1 h;split at h
   case h_2=>exact h.elim
   rename_i hlen;have SX:=Nat.le_of_ble_eq_true hlen;rcases hx.slc_inv with ⟨hl,_⟩|⟨b,ob,cap,g,hv,hc,hb,hr⟩
   ·rw[hl]at h1;simp at h1;omega
   ·rw[hv]at L0;refine K3 L0 (K4 _ _ _ _ h0 h1) (z7.still hR (.imm ?_) h);have SY:n.toNat<E5.length:=by omega
    have:=y6.pt (F:=F) (w:=w) (cs:=E5.getD n.toNat []) (off:=0) (b:=b) (o:=ob+n.toNat*sz) (fun j=>g n.toNat j) (fun j hj=>hb _ _ SY va5) (fun j hj=>hr _ _ SY va5);rw[<- jM];exact this
  ·rename_i id hg;rw[hg]at hx;obtain⟨hd,hb,hv⟩:=hx.own_inv;split at h
   ·rename_i α ty sz d enc l hr;split at h
    case h_2=>exact h.elim
    rename_i G0;have jM:=zA8 G0;obtain⟨⟨h0,h1⟩,h⟩:=(D4 _ _ _).1 h;obtain⟨lI,jL⟩:=ag hR hr hb;rcases jL with ⟨h2,_⟩|⟨b,vs,e1,_⟩
    ·rw[h2]at h1;simp at h1;omega
    ·rw[hv,e1]at L0;refine K3 L0 (K4 _ _ _ _ h0 va5) (z7.still hR ?_ h);rw[Nat.zero_add,<- jM];exact .ptr hb e1
   ·rename_i ty sz E5 hr;split at h
    case h_2=>exact h.elim
    rename_i G0;have jM:=zA8 G0;obtain⟨⟨h0,h1⟩,h⟩:=(D4 _ _ _).1 h;obtain⟨b,vs,e1,_,lI,_⟩:=yF hR hr hb;rw[hv,e1]at L0;refine K3 L0 (K4 _ _ _ _ h0 va5) (z7.still hR ?_ h);rw[Nat.zero_add,<- jM];exact .ptr hb e1
   ·exact h.elim
  ·exact h.elim
 ·rename_i len e hu;split at h
  case h_2=>exact h.elim
  rename_i inf hi;obtain⟨⟨h0,h1⟩,h⟩:=(D4 _ _ _).1 h;have K4:∀ b ob,(Instr.indexAt t (.pointer (some ⟨b,ob,none⟩)) (.int k n)).run P w = .ok (.pointer (some ⟨b,ob+n.toNat*inf.size,none⟩)) w:=fun b ob=>by
   simp[Instr.indexAt,run_underlying hu,asIntOf,Instr.sureAddr,h0,h1,sizeOf,typeInfo,hi,U3]
  split at h
  ·rename_i cs off hg;rw[hg]at hx;obtain⟨b,ob,g,hv,hc,hr⟩:=hx.pt_inv;rw[hv]at L0;refine K3 L0 (K4 _ _) (z7.still hR (.imm ?_) h);rw[Nat.add_assoc];exact .pt g hc hr
  ·rename_i id sz j off hg;rw[hg]at hx;obtain⟨hd,b,hb,hh,hv⟩:=hx.ptr_inv;rw[hv]at L0;refine K3 L0 (K4 _ _) (z7.still hR ?_ h);rw[Nat.add_assoc];exact .ptr hb hh
  ·exact h.elim
 ·exact h.elim
theorem L7(z:List AV):∀ n,(List.replicate n z).flatten.length=n*z.length
 | 0=>by simp
 | n+1=>by simp[List.replicate_succ,L7 z n,Nat.add_mul];omega
theorem bc(z:List AV)(hz:0<z.length):∀ n i,i<n*z.length->(List.replicate n z).flatten.getD i .any=z.getD (i % z.length) .any
 | 0,i,h=>by simp at h
 | n+1,i,h=>by
  rw[List.replicate_succ,List.flatten_cons];by_cases hi:i<z.length
  ·rw[Nat.mod_eq_of_lt hi];simp[List.getD,List.getElem?_append_left hi]
  ·have h':i-z.length<n*z.length:=by rw[Nat.add_mul]at h;omega
   have ih:=bc z hz n (i-z.length) h';have e:i % z.length=(i-z.length) % z.length:=by rw[Nat.mod_eq_sub_mod va5]
   rw[e,<- ih];simp[List.getD,List.getElem?_append_right (Nat.le_of_not_lt hi)]
theorem Ie{zv:Array Value}{z:List AV}(hz:jt (C4 β F w) z zv)(h0:0<z.length)(n:Nat):jt (C4 β F w) (List.replicate n z).flatten ((Array.range (n*z.length)).map (zv[· % zv.size]!)):=by
 refine⟨by rw[L7];simp,fun i hi=>?_⟩;rw[L7]at hi;rw[bc z h0 n i hi];have hm:i % z.length<z.length:=Nat.mod_lt _ h0;have e:((Array.range (n*z.length)).map (zv[· % zv.size]!)).getD i undef=zv.getD (i % z.length) undef:=by
  have hm':i % zv.size<zv.size:=by rw[<- hz.1];exact hm
  have Lb:i<n*zv.size:=by rw[<- hz.1];exact hi
  simp[Array.getD_eq_getD_getElem?,Lb,hz.1,hm',getElem!_pos]
 rw[e];exact hz.2 _ hm
theorem Ef(cs:List AV)(sz n i j:Nat)(hi:i<n)(hj:j<sz):((((List.range n).map fun j=>(cs.drop (j*sz)).take sz)).getD i []).getD j .any=cs.getD (i*sz+j) .any:=by
 have e:((List.range n).map fun j=>(cs.drop (j*sz)).take sz).getD i []=(cs.drop (i*sz)).take sz:=by simp[List.getD,hi]
 rw[e,jK _ _ _ _ hj]
theorem sK(hR:Rel B w0 F0 S β F a w){o:Oper}{t:TypeId}{n:Nat}{ps:Array (Nat×Operand)}(ho:o.op = .buildSlice t n ps)(B1:∀ d,o.dst=some d->β d=none){K:Out->List Nat->Prop}
  (h:y0 P o.dst (.buildSlice t n ps) S.get S.row K) {Q:Exit->Act->World->Prop}:o.wp P a w (z7 B w0 F0 S β o.dst K) Q:=by
 simp only[y0]at h;split at h
 case h_2=>exact h.elim
 rename_i d e hd hu;split at h
 case h_2=>exact h.elim
 rename_i i z hi hz;split at h
 case h_2=>exact h.elim
 rename_i rq;have Ig:=zA8 rq;split at h
 case h_2=>exact h.elim
 rename_i hle;simp only[zA2,Nat.blt_eq]at hle;have a2Q:=Nat.le_of_ble_eq_true hle.1;have ZN:=hle.2;split at h
 case h_2=>exact h.elim
 rename_i cs hf;obtain⟨i',zv,cI,DU,_,La⟩:=ak (β:=β) (F:=F) (w:=w) hz;rw[hi]at cI; cases cI
 have ZO:=Ie La va5 n;obtain⟨p1,p2⟩:=wY hR ps;obtain⟨us,Ee,Gv⟩:=nc p1 p2 ZO hf;have hl:=La.1;have L0:execOp a.eval o=(do pure (.value (<- Instr.buildSlice t n (ps.map fun(i,x)=>(i,a.eval x))))):=by simp[execOp,ho]
 have S9:cs.length=n*i.size:=by
  have:∀ {place:Nat->Option (Nat×Nat)} {k9:List (Nat×AV)} {xs cs:List AV},fS place xs k9=some cs->cs.length=xs.length:=by
   intro place k9
   induction k9 with
   | nil=>intro xs cs h;simp[fS]at h;rw[h]
   | cons p k9 ih =>
    intro xs cs h;obtain⟨k,x⟩:=p;simp only[fS]at h;split at h
    ·cases h
    ·split at h
     ·cases h
     ·split at h
      ·cases h
      ·rename_i h1;split at h
       ·cases h
       ·rename_i h2;have e1:=zA8 h1;have e2:=Nat.le_of_ble_eq_true h2;rw[ih h,dh va5]
  rw[this hf,L7,Ig]
 have K4:(Instr.buildSlice t n (ps.map fun(i,x)=>(i,a.eval x))).run P w = .ok (.slice (some ⟨w.heap.size,0,none⟩) n n) (w.alloc (.cells us e)):=by
  have TL:¬ (2^24<n*i.size):=by omega
  rw[Ig]at Ee;simp only[Instr.buildSlice,Sem.run_bind,run_underlying hu,Result.andThen_ok,run_sizeOf w hi,Program.cellsOf,hi,Option.map_some,Option.getD_some,gt_iff_lt,TL,if_false,Sem.run_pure];split
  ·rename_i h0;have e0:∀ (f g:Nat->Value),(Array.range (n*i.size)).map f=(Array.range (n*i.size)).map g:=fun f g=>by rw[h0];simp
   simp only[Sem.run_bind,Sem.run_pure,Result.andThen_ok];rw[e0 _ (zv.cells[· % zv.cells.size]!),Ee];simp[newRow]
  ·simp only[Sem.run_bind,zeroValue,typeInfo,run_program,hi,DU,Result.andThen_ok,Sem.run_pure,Ee];simp[newRow]
 obtain⟨β',h1,h2⟩:=hR.alloc (B1 d hd) (dst:=o.dst) (x := .own d) (v := .slice (some ⟨w.heap.size,0,none⟩) n n) (r := .lit e i.size ((List.range n).map fun j=>(cs.drop (j*i.size)).take i.size)) (vs:=us) (ty:=e) n n
  (fun β' hb _=>by have:=C4.own (F:=F) (w:=w.alloc (.cells us e)) hb;simpa using this)
  (fun β' hb hg hk=>⟨_,w.heap.size,us,hb,rfl,rfl,O7 w _,by simp,by simp,by rw[<- Gv.1,S9];simp,by
    simp only[List.length_map,List.length_range,maxLen];have:n*1<=n*i.size:=Nat.mul_le_mul_left n ZN;omega,fun p q hp hq=>by
    have ph:p<n:=by simpa using hp
    rw[Ef _ _ _ _ _ ph hq]
    exact(Gv.2 _ (by rw[S9];exact z6 ph hq)).grow hg (fun _ h=>h) hk⟩) (fun _ _ _ _ h=>by cases h)
 exact K3 L0 K4 ⟨_,_,h,β',F,fun j hj=>h1 j (fun e=>hj (by rw[e];exact hd)),h2⟩
end
/- Each operation does what its abstract twin says (seventh part): slices, built-in functions, calls. A helper text: it speaks of no program. -/
section
variable {P:Program}{B:Nat->Prop}{w0:World}{F0:Env P}{S:St}{β:Nat->Option Hd}{F:Nat->Prop}{a:Act}{w:World}
theorem Eg(hR:Rel B w0 F0 S β F a w){o:Oper}{t:TypeId}{x m:Operand}{lo hi:Option Operand}(ho:o.op = .slice t x lo hi (some m)){K:Out->List Nat->Prop}
  (h:y0 P o.dst (.slice t x lo hi (some m)) S.get S.row K) {Q:Exit->Act->World->Prop} :
  o.wp P a w (z7 B w0 F0 S β o.dst K) Q:=by
 cases lo with
 | some _=>simp only[y0]at h
 | none =>
 cases hi with
 | none=>simp only[y0]at h
 | some hh =>
 simp only[y0]at h;split at h
 case h_2=>exact h.elim
 rename_i e hu;split at h
 case h_2=>exact h.elim
 rename_i inf cI;split at h
 case h_2=>exact h.elim
 rename_i α sz d enc l hg;split at h
 case h_2=>exact h.elim
 rename_i G0;have jM:=zA8 G0;split at h
 case h_2=>exact h.elim
 rename_i kb q kc c Ps Lu;obtain⟨⟨h0,h1,h2⟩,hK⟩:=(D4 _ _ _).1 h;subst h2;have hx:=hR.get x;rw[hg]at hx;have ehi:a.eval hh = .int kb c:=by have:=hR.get hh;rw[Ps]at this;exact this.int_inv
 have emx:a.eval m = .int kc c:=by have:=hR.get m;rw[Lu]at this;exact this.int_inv
 have L0:execOp a.eval o=(do pure (.value (<- Instr.sliceAt t (a.eval x) none (some (.int kb c)) (some (.int kc c))))):=by
  rw[<- ehi,<- emx];simp[execOp,ho]
 have hb:∀ cap:Nat,l.length<=cap->(Instr.sliceBounds true l.length cap none (some (.int kb c)) (some (.int kc c))).run P w = .ok (0,c.toNat,c.toNat) w:=by
  intro cap Lv;have c2:c<=(cap:Int):=by omega
  have c3:c<=max c 0:=by omega
  simp[Instr.sliceBounds,Instr.sliceBound,asIntOf,h0,c2,c3]
 rcases hx.sl_inv with ⟨ao,x0,c0,hv⟩|⟨b,ob,cap,g,hv,hc,H7,hr⟩
 ·rw[hv]at L0;subst ao;have hq:c=0:=by simp at h1;omega
  subst hq;have DV:=hb c0 va9;simp only[List.length_nil]at DV;obtain⟨v',ZP⟩:∃ v',(Instr.sliceAt t (.slice x0 0 c0) none (some (.int kb 0)) (some (.int kc 0))).run P w = .ok (.slice v' 0 0) w:=by
   simp only[Instr.sliceAt,Instr.slice,Sem.run_bind,run_underlying hu,Result.andThen_ok,DV,run_sizeOf w cI,Sem.run_pure];simp
  refine K3 L0 ZP (z7.still hR (.imm ?_) hK);simp;exact .sfnil
 ·rw[hv]at L0;have wZ:=hb cap hc;have hlen:(l.take c.toNat).length=c.toNat:=by simp;omega
  refine K3 L0 (v := .slice (some ⟨b,ob,none⟩) c.toNat c.toNat) (w':=w) ?_ (z7.still hR (.imm ?_) hK)
  ·simp only[Instr.sliceAt,Instr.slice,Sem.run_bind,run_underlying hu,Result.andThen_ok,wZ,run_sizeOf w cI,Sem.run_pure,Program.cellsOf,cI,Option.map_some,Option.getD_some,U3];simp
  ·have Y8:∀ i,i<c.toNat->(l.take c.toNat).getD i d=l.getD i d:=fun i hi=>by
    simp[List.getD,List.getElem?_take,hi]
   have key:y6 F w (.sf sz d enc (l.take c.toNat)) (.slice (some ⟨b,ob,none⟩) (l.take c.toNat).length (l.take c.toNat).length):=by
    refine .sf g (fun i j hi hj=>?_) (fun i j hi hj=>?_)
    ·rw[hlen]at hi;exact H7 i j va5 hj
    ·rw[hlen]at hi;rw[Y8 i hi];exact hr _ _ va5 hj
   rwa[hlen]at key
theorem Ih(hR:Rel B w0 F0 S β F a w){o:Oper}{t:TypeId}{x:Operand}{lo hi mx:Option Operand}(ho:o.op = .slice t x lo hi mx){K:Out->List Nat->Prop}(h:y0 P o.dst (.slice t x lo hi mx) S.get S.row K){Q:Exit->Act->World->Prop} :
  o.wp P a w (z7 B w0 F0 S β o.dst K) Q:=by
 cases mx with
 | some m=>exact Eg hR ho h
 | none =>
 simp only[y0]at h;split at h
 case h_2=>exact h.elim
 rename_i e hu;split at h
 case h_2=>exact h.elim
 rename_i inf cI;split at h
 case h_2=>exact h.elim
 rename_i α sz d enc l hg;split at h
 case h_2=>exact h.elim
 rename_i G0;have jM:=zA8 G0;split at h
 case h_2=>exact h.elim
 rename_i ka p kb q Pt Ps;obtain⟨⟨h0,h1,h2⟩,hK⟩:=(D4 _ _ _).1 h;have hx:=hR.get x;rw[hg]at hx;have L0:execOp a.eval o=(do pure (.value (<- Instr.sliceAt t (a.eval x) (lo.map a.eval) (hi.map a.eval) none))):=by simp[execOp,ho]
 -- the bounds
 have WX:lo=none/\p=0∨∃ k,lo.map a.eval=some (.int k p):=by
  cases lo with
  | none=>simp[Pr]at Pt;exact .inl ⟨rfl,Pt.2.symm⟩
  | some y=>simp only[Pr]at Pt;have:=hR.get y;rw[Pt]at this;exact .inr ⟨_,by simp[this.int_inv];rfl⟩
 have ZQ:hi=none/\q=l.length∨∃ k,hi.map a.eval=some (.int k q):=by
  cases hi with
  | none=>simp[Pr]at Ps;exact .inl ⟨rfl,Ps.2.symm⟩
  | some y=>simp only[Pr]at Ps;have:=hR.get y;rw[Ps]at this;exact .inr ⟨_,by simp[this.int_inv];rfl⟩
 have hb:∀ cap:Nat,l.length<=cap->(Instr.sliceBounds true l.length cap (lo.map a.eval) (hi.map a.eval) none).run P w = .ok (p.toNat,q.toNat,cap) w:=by
  intro cap Lv;have c1:0<=q:=by omega
  have c2:q<=(cap:Int):=by omega
  have c3:p<=max q 0:=by omega
  have c4:p<=(l.length:Int):=by omega
  rcases ZQ with ⟨rfl,rfl⟩|⟨k,hk⟩
  ·rcases WX with ⟨rfl,rfl⟩|⟨k',sI⟩
   ·simp[Instr.sliceBounds]
   ·rw[sI];simp[Instr.sliceBounds,Instr.sliceBound,asIntOf,h0,c4]
  ·rw[hk];rcases WX with ⟨rfl,rfl⟩|⟨k',sI⟩
   ·simp[Instr.sliceBounds,Instr.sliceBound,asIntOf,c1,c2]
   ·rw[sI];simp[Instr.sliceBounds,Instr.sliceBound,asIntOf,h0,c1,c2,c3]
 rcases hx.sl_inv with ⟨ao,x0,c0,hv⟩|⟨b,ob,cap,g,hv,hc,H7,hr⟩
 ·rw[hv]at L0;subst ao;have hp:p=0:=by simp at h2;omega
  have hq:q=0:=by simp at h2;omega
  have DV:=hb c0 va9;simp only[List.length_nil]at DV;obtain⟨v',ZP⟩:∃ v',(Instr.sliceAt t (.slice x0 0 c0) (lo.map a.eval) (hi.map a.eval) none).run P w = .ok (.slice v' 0 c0) w:=by
   simp only[Instr.sliceAt,Instr.slice,Sem.run_bind,run_underlying hu,Result.andThen_ok,DV,run_sizeOf w cI,Sem.run_pure];simp[hp,hq]
  refine K3 L0 ZP (z7.still hR (.imm ?_) hK)
  ·simp;exact .slnil
 ·rw[hv]at L0;have wZ:=hb cap hc;have hlen:((l.drop p.toNat).take (q-p).toNat).length=q.toNat-p.toNat:=by simp;omega
  refine K3 L0 (v := .slice (some (if cap=p.toNat then⟨b,ob,none⟩else⟨b,ob+p.toNat*inf.size,none⟩)) (q.toNat-p.toNat) (cap-p.toNat)) (w':=w) ?_ (z7.still hR (.imm ?_) hK)
  ·simp only[Instr.sliceAt,Instr.slice,Sem.run_bind,run_underlying hu,Result.andThen_ok,wZ,run_sizeOf w cI,Sem.run_pure,Program.cellsOf,cI,Option.map_some,Option.getD_some,U3];split<;>rfl
  ·have Y8:∀ i,i<q.toNat-p.toNat->((l.drop p.toNat).take (q-p).toNat).getD i d=l.getD (p.toNat+i) d:=fun i hi=>by
    simp[List.getD,List.getElem?_take,show i<(q-p).toNat by omega]
   rw[<- hlen];split
   ·rename_i hcp;exact .sl (fun _ _=>undef) va5 (fun i j hi hj=>by omega) (fun i j hi hj=>by omega)
   ·refine .sl (fun i j=>g (p.toNat+i) j) va5 (fun i j hi hj=>?_) (fun i j hi hj=>?_)
    ·rw[hlen]at hi;have:=H7 (p.toNat+i) j va5 hj;rw[<- jM,show ob+p.toNat*sz+i*sz+j=ob+(p.toNat+i)*sz+j by rw[Nat.add_mul];omega];exact this
    ·rw[hlen]at hi;rw[Y8 i hi];exact hr _ _ va5 hj
theorem vJ(hR:Rel B w0 F0 S β F a w){o:Oper}{t:TypeId}{x y:Operand}(ho:o.op = .makeSlice t x y)(B1:∀ d,o.dst=some d->β d=none){K:Out->List Nat->Prop}
  (h:y0 P o.dst (.makeSlice t x y) S.get S.row K) {Q:Exit->Act->World->Prop}:o.wp P a w (z7 B w0 F0 S β o.dst K) Q:=by
 simp only[y0]at h;split at h
 case h_2=>exact h.elim
 rename_i d e hd hu;split at h
 case h_2=>exact h.elim
 rename_i i z hi hz;split at h
 case h_2=>exact h.elim
 rename_i rq;have Ig:=zA8 rq;split at h
 case h_2=>exact h.elim
 rename_i k n k' c hx hy;obtain⟨α,yy,enc,he,rk,h0,h1,hby,hK⟩:=h;subst rk;obtain⟨i',zv,cI,DU,_,La⟩:=ak (β:=β) (F:=F) (w:=w) hz;rw[hi]at cI; cases cI
 have qA:=hR.get x;have DW:=hR.get y;rw[hx]at qA;rw[hy]at DW;have L0:execOp a.eval o=(do pure (.value (<- Instr.makeSlice t (a.eval x) (a.eval y)))):=by simp[execOp,ho]
 rw[qA.int_inv,DW.int_inv]at L0;have hw:IntKind.i64.wrap n=n:=IntWalk.i64_in n va5;have ZR:(i.bytes:Int)*n<=1048576*1048576:=Int.mul_le_mul (show(i.bytes:Int)<=1048576 by omega) h1 h0 va5;have TM:¬ ((281474976710656:Int)<(i.bytes:Int)*n):=by omega
 have Lw:¬ n<0:=by omega
 have cK:¬ (roomBytes<n.toNat*i.bytes):=by
  have e:((n.toNat*i.bytes:Nat):Int)=(i.bytes:Int)*n:=by rw[Int.natCast_mul,Int.toNat_of_nonneg h0,Int.mul_comm]
  simp only[roomBytes];omega
 let cells:Array Value:=(Array.range (n.toNat*i.size)).map (zv.cells[· % zv.cells.size]!)
 have K4:(Instr.makeSlice t (.int k n) (.int k' n)).run P w = .ok (.slice (some ⟨w.heap.size,0,none⟩) n.toNat n.toNat) (w.alloc (.cells cells e)):=by
  simp only[Instr.makeSlice,Sem.run_bind,run_underlying hu,Result.andThen_ok,asInt,asIntOf,Sem.run_pure,typeInfo,run_program,hi,hw];simp only[Lw,decide_false,Bool.false_or,Bool.or_false,gt_iff_lt,Int.lt_irrefl,show(2:Int)^48=281474976710656 by rfl,TM,zB0,if_false,askRoom,cK];simp only[Sem.run_bind,Sem.run_pure,Result.andThen_ok,run_sizeOf w hi,Program.cellsOf,hi,Option.map_some,Option.getD_some];split
  ·rename_i ZS;have e0:∀ (f g:Nat->Value),(Array.range (n.toNat*i.size)).map f=(Array.range (n.toNat*i.size)).map g:=fun f g=>by rw[ZS];simp
   simp only[Sem.run_bind,Sem.run_pure,Result.andThen_ok];rw[e0 _ (zv.cells[· % zv.cells.size]!)];simp[newRow,cells]
  ·simp only[Sem.run_bind,zeroValue,typeInfo,run_program,hi,DU,Result.andThen_ok,Sem.run_pure];simp[newRow,cells]
 have ZT:∀ j,j<i.size->y6 F w (z.getD j .any) (zv.cells.getD j undef):=fun j hj=>by
  obtain⟨i2,z2,e1,e2,e3,e4⟩:=ak (β:=β) (F:=F) (w:=w) hz;rw[hi]at e1;cases e1
  rw[DU]at e2;cases e2
  have oW:j<zv.cells.size:=by rw[<- e4.1];omega
  have e:z.getD j .any=AV.ofConst (zv.cells.getD j undef):=by
   rw[e3];simp[List.getD,Array.getD_eq_getD_getElem?,oW]
  rw[e];exact .ofConst _
 obtain⟨β',g1,g2⟩:=hR.alloc (B1 d hd) (dst:=o.dst) (x := .own d) (v := .slice (some ⟨w.heap.size,0,none⟩) n.toNat n.toNat) (r := .vec e i.size yy enc (List.replicate n.toNat yy)) (vs:=cells) (ty:=e) n.toNat n.toNat
  (fun β' hb _=>by have:=C4.own (F:=F) (w:=w.alloc (.cells cells e)) hb;simpa using this)
  (fun β' hb hg hk=>⟨_,hb,rfl,by simp,.inr ⟨w.heap.size,cells,rfl,O7 w _,by simp,by simp only[maxLen];omega,by simp[cells],fun p q hp hq=>by
    have ph:p<n.toNat:=by simpa using hp
    have e1:(List.replicate n.toNat yy).getD p yy=yy:=by simp[List.getD,ph]
    have mT:=z6 ph hq;have G0:zv.cells.size=i.size:=by rw[<- La.1];exact Ig
    have hm:(p*i.size+q) % i.size=q:=by rw[Nat.mul_comm,Nat.mul_add_mod];exact Nat.mod_eq_of_lt hq
    have e2:cells.getD (p*i.size+q) undef=zv.cells.getD q undef:=by
     have Lc:q<zv.cells.size:=by omega
     simp[cells,Array.getD_eq_getD_getElem?,mT,G0,hm];rw[getElem!_pos zv.cells q Lc];simp[Lc]
    rw[e1,he,e2]
    exact(ZT q hq).mono (fun _ h=>h) hk⟩⟩) (fun _ _ _ _ h=>by cases h)
 exact K3 L0 K4 ⟨_,_,hK,β',F,fun j hj=>g1 j (fun e=>hj (by rw[e];exact hd)),g2⟩
theorem jj{α:Type}{xs:Array α}{l:List α}(h:xs.toList=l):xs=l.toArray:=by rw[<- h]
theorem J5{o:Oper}{c:Call}{b:Builtin}(ho:o.op = .call c)(hb:c.callee = .builtin b){s:Sem Value}
  (hs:∀ cs,builtin b c.argTypes o.type cs (c.args.map a.eval)=(do pure (.value (<- s)))) {v:Value} {w':World} (hr:s.run P w = .ok v w') {next:Act->World->Prop} {Q:Exit->Act->World->Prop} (hn:next (a.put o.dst v) w'):o.wp P a w next Q:=by
 refine fV (v:=v) (w':=w') ?_ hn;simp only[execOp,ho,resolve,hb,Sem.run_bind,Sem.run_pure,Result.andThen_ok,invoke,hs,hr]
theorem PK(hR:Rel B w0 F0 S β F a w){o:Oper}{c:Call}(ho:o.op = .call c)(hb:c.callee = .builtin .len){K:Out->List Nat->Prop}(h:y0 P o.dst (.call c) S.get S.row K){Q:Exit->Act->World->Prop} :
  o.wp P a w (z7 B w0 F0 S β o.dst K) Q:=by
 simp only[y0,hb]at h;split at h
 case h_2=>exact h.elim
 rename_i x t hx ht;have e1:=jj hx;have e2:=jj ht;have hs:∀ cs,builtin .len c.argTypes o.type cs (c.args.map a.eval)=(do pure (.value (<- Builtin.len_ #[t] o.type #[a.eval x]))):=fun cs=>by
  rw[e1,e2];simp[builtin]
 have hv:=hR.get x;split at h
 ·rename_i e hu;have K4:∀ p n cap,(Builtin.len_ #[t] o.type #[.slice p n cap]).run P w = .ok (.int .i64 n) w:=fun p n cap=>by
   simp[Builtin.len_,run_underlying hu,goInt]
  split at h
  ·rename_i hg;rw[hg]at hv;rw[hv.nils_inv]at hs;exact J5 ho hb hs (K4 _ _ _) (z7.still hR (.imm (.int _ _)) h)
  ·rename_i α sz d enc l hg;rw[hg]at hv;rcases hv.sl_inv with ⟨hl,x0,c0,hv⟩|⟨b,ob,cap,g,hv,_⟩
   ·rw[hv]at hs;subst hl;exact J5 ho hb hs (K4 _ _ _) (z7.still hR (.imm (.int _ _)) h)
   ·rw[hv]at hs;exact J5 ho hb hs (K4 _ _ _) (z7.still hR (.imm (.int _ _)) h)
  ·rename_i sz E5 hg;rw[hg]at hv;rcases hv.slc_inv with ⟨hl,hv⟩|⟨b,ob,cap,g,hv,_⟩
   ·rw[hv]at hs;subst hl;exact J5 ho hb hs (K4 _ _ _) (z7.still hR (.imm (.int _ _)) h)
   ·rw[hv]at hs;exact J5 ho hb hs (K4 _ _ _) (z7.still hR (.imm (.int _ _)) h)
  ·rename_i id hg;rw[hg]at hv;obtain⟨hd,hβ,hv⟩:=hv.own_inv;rw[hv]at hs;split at h
   ·rename_i hr;obtain⟨hl,_⟩:=ag hR hr hβ;rw[<- hl]at h;exact J5 ho hb hs (K4 _ _ _) (z7.still hR (.imm (.int _ _)) h)
   ·rename_i hr;have:=hR.rows id;rw[hr]at this;obtain⟨hd',b',vs,q1,qm,q2,q3,q4,_⟩:=this;rw[hβ]at q1;cases q1
    rw[<- q4]at h;exact J5 ho hb hs (K4 _ _ _) (z7.still hR (.imm (.int _ _)) h)
   ·exact h.elim
  ·exact h.elim
 ·rename_i n e hu;refine J5 ho hb hs (v := .int .i64 n) (w':=w) ?_ (z7.still hR (.imm (.int _ _)) h);simp[Builtin.len_,run_underlying hu,goInt]
 ·exact h.elim
theorem PL(hR:Rel B w0 F0 S β F a w){o:Oper}{c:Call}(ho:o.op = .call c)(hb:c.callee = .builtin .max){K:Out->List Nat->Prop}(h:y0 P o.dst (.call c) S.get S.row K){Q:Exit->Act->World->Prop} :
  o.wp P a w (z7 B w0 F0 S β o.dst K) Q:=by
 simp only[y0,hb]at h;split at h
 case h_2=>exact h.elim
 rename_i x y hx;have e1:=jj hx;split at h
 case h_2=>exact h.elim
 rename_i k p k' q WY WZ;have Xa:=hR.get x;have jL:=hR.get y;rw[WY]at Xa;rw[WZ]at jL;have hs:∀ cs,builtin .max c.argTypes o.type cs (c.args.map a.eval)=(do pure (.value (<- Builtin.max_ c.argTypes o.type #[.int k p,.int k' q]))):=fun cs=>by
  rw[<- Xa.int_inv,<- jL.int_inv,e1];simp[builtin]
 exact J5 ho hb hs (v := .int k (if q > p then q else p)) (w':=w) (by simp[Builtin.max_,Builtin.max2]) (z7.still hR (.imm (.int _ _)) h)
theorem PM(hR:Rel B w0 F0 S β F a w){o:Oper}{c:Call}(ho:o.op = .call c)(hb:c.callee = .builtin .min){K:Out->List Nat->Prop}(h:y0 P o.dst (.call c) S.get S.row K){Q:Exit->Act->World->Prop} :
  o.wp P a w (z7 B w0 F0 S β o.dst K) Q:=by
 simp only[y0,hb]at h;split at h
 case h_2=>exact h.elim
 rename_i x y hx;have e1:=jj hx;split at h
 case h_2=>exact h.elim
 rename_i k p k' q WY WZ;have Xa:=hR.get x;have jL:=hR.get y;rw[WY]at Xa;rw[WZ]at jL;have hs:∀ cs,builtin .min c.argTypes o.type cs (c.args.map a.eval)=(do pure (.value (<- Builtin.min_ c.argTypes o.type #[.int k p,.int k' q]))):=fun cs=>by
  rw[<- Xa.int_inv,<- jL.int_inv,e1];simp[builtin]
 exact J5 ho hb hs (v := .int k (if q<p then q else p)) (w':=w) (by simp[Builtin.min_,Builtin.min2]) (z7.still hR (.imm (.int _ _)) h)
theorem Lx(hR:Rel B w0 F0 S β F a w){o:Oper}{c:Call}{f:Operand}(ho:o.op = .call c)(hb:c.callee = .value f){K:Out->List Nat->Prop}(h:y0 P o.dst (.call c) S.get S.row K){Q:Exit->Act->World->Prop} :
  o.wp P a w (z7 B w0 F0 S β o.dst K) Q:=by
 simp only[y0,hb]at h;split at h
 case h_2=>exact h.elim
 rename_i gC first B2 hg
 have hf:=hR.get f;rw[hg]at hf;obtain⟨vs,us,hv,l1,l2,r1,r2⟩:=hf.fn_inv;obtain⟨l3,r3⟩:=L9 hR c.args
 -- the arguments, as they are handed over
 have hlen:(vs++c.args.map a.eval++us).size=(first++c.args.toList.map S.get++B2).length:=by simp[l1,l2]
 have Gw:∀ i,i<(first++c.args.toList.map S.get++B2).length->C4 β F w ((first++c.args.toList.map S.get++B2).getD i .any) ((vs++c.args.map a.eval++us).getD i undef):=by
  intro i hi;by_cases h1:i<first.length
  ·have e1:(first++c.args.toList.map S.get++B2).getD i .any=first.getD i .any:=by simp[List.getD,List.getElem?_append,h1]
   have e2:(vs++c.args.map a.eval++us).getD i undef=vs.getD i undef:=by
    have:i<vs.size:=by omega
    simp[Array.getD_eq_getD_getElem?,Array.getElem?_append,this]
   rw[e1,e2];exact r1 i h1
  ·by_cases h2:i<first.length+(c.args.toList.map S.get).length
   ·have e1:(first++c.args.toList.map S.get++B2).getD i .any=(c.args.toList.map S.get).getD (i-first.length) .any:=by
     simp only[List.getD,List.append_assoc];rw[List.getElem?_append_right va5,List.getElem?_append_left va5]
    have e2:(vs++c.args.map a.eval++us).getD i undef=(c.args.map a.eval).getD (i-first.length) undef:=by
     simp only[Array.getD_eq_getD_getElem?,Array.append_assoc];rw[Array.getElem?_append_right va5,Array.getElem?_append_left (by rw[<- l1,<- l3];omega),l1]
    rw[e1,e2];exact r3 _ va5
   ·have e1:(first++c.args.toList.map S.get++B2).getD i .any=B2.getD (i-first.length-(c.args.toList.map S.get).length) .any:=by
     simp only[List.getD,List.append_assoc];rw[List.getElem?_append_right va5,List.getElem?_append_right va5]
    have e2:(vs++c.args.map a.eval++us).getD i undef=us.getD (i-first.length-(c.args.toList.map S.get).length) undef:=by
     simp only[Array.getD_eq_getD_getElem?,Array.append_assoc];rw[Array.getElem?_append_right va5,Array.getElem?_append_right (by rw[<- l1,<- l3];omega),l1,l3]
    rw[e1,e2];exact r2 _ (by simp only[List.length_append]at hi;omega)
 generalize hA:first++c.args.toList.map S.get++B2=A at *
 generalize hV:vs++c.args.map a.eval++us=V at *
 have hex:execOp a.eval o=callFunc gC V:=by
  simp only[execOp,ho,resolve,hb,hv,Deferred.ofValue];rw[<- hV];rfl
 -- what follows the call
 have run:∀ (Fc:Nat->Prop) (ar:List AV) (res:AV),(∀ b,Fc b->b<w.heap.size)->ar.length=A.length->(∀ i,i<ar.length->y6 Fc w (ar.getD i .any) (V.getD i undef))->PC P gC ar res ->
   (∀ v w',RowKit.Below w.heap.size w w'->y6 (fun b=>Fc b∨w.heap.size<=b) w' res v->z7 B w0 F0 S β o.dst K (a.put o.dst v) w')->o.wp P a w (z7 B w0 F0 S β o.dst K) Q:=by
  intro Fc ar res hFc Gx har Xb hn;rcases Xb Fc w V hFc va5 har with ⟨h1,h2⟩|⟨v,h1,h2⟩
  ·unfold Oper.wp;rw[hex,h1];refine h2.mono fun e w' ⟨v,he,V9,I8⟩=>?_
   subst he;exact hn v w' V9 I8
  ·unfold Oper.wp;rw[hex,h1];exact hn v w (RowKit.Below.refl _ _) (h2.mono (fun _ h => .inl h) (fun _ _ _ _ h=>h))
 split at h
 ·rename_i S9;rw[bA]at h;obtain⟨res,Xb,hK⟩:=h;refine run F A res (fun b oV=>(hR.FB b oV).1) rfl (fun i hi=>(Gw i hi).shut (H0 S9 i)) Xb fun v w' V9 I8=>?_
  obtain⟨F',M8⟩:=hR.called V9 (dst:=o.dst) (x:=res) (v:=v) (fun F' g1 g2 _ => .imm (I8.there.mono (fun b oV=>by
   rcases oV.1 with h|h
   ·exact g1 b h
   ·exact g2 b h oV.2) (fun _ _ _ _ h=>h)))
  exact⟨_,_,hK,β,F',fun _ _=>rfl,M8⟩
 ·rw[bA]at h;obtain⟨res,Xb,hK⟩:=h;split at hK
  ·rename_i Ly;refine run (fun b=>F b∨mY S β b) (A.map (E3 4 S.row)) res (fun b oV => ?_) va9 (fun i hi=>?_) Xb fun v w' V9 I8=>?_
   ·rcases oV with h|⟨i,_,h⟩
    ·exact(hR.FB b h).1
    ·exact(hR.bB i b h).2
   ·rw[u0 _ (L1 _ _)];exact F9 hR 4 (Gw i (by simpa using hi))
   ·obtain⟨F',M8⟩:=hR.called V9 (dst:=o.dst) (x:=res) (v:=v) (fun F' _ _ _ => .imm (I8.lift Ly));exact⟨_,_,hK,β,F',fun _ _=>rfl,M8⟩
  ·exact hK.elim
end
/- Each operation does what its abstract twin says (eighth part): append. A helper text: it speaks of no program. -/
section
variable {P:Program}{B:Nat->Prop}{w0:World}{F0:Env P}{S:St}{β:Nat->Option Hd}{F:Nat->Prop}{a:Act}{w:World}
theorem O8(h:List Row)(cons:List Nat)(j:Nat):(r8 h (cons.map fun i=>(i,.none))).getD j .none=if j ∈ cons then .none else h.getD j .none:=by
 induction cons generalizing h with
 | nil=>simp[r8]
 | cons i l ih =>
  simp only[List.map_cons,r8,ih,r7,List.mem_cons];by_cases h1:j ∈ l
  ·simp[h1]
  ·by_cases h2:j=i
   ·subst h2;by_cases h3:j<h.length
    ·simp[h1,h3]
    ·simp[h1,h3,zA7 (Nat.le_of_not_lt h3)]
   ·simp[h1,h2,Ne.symm h2]
theorem X4(h:List Row)(l m:List (Nat×Row)):r8 h (l++m)=r8 (r8 h l) m:=by
 induction l generalizing h with
 | nil=>rfl
 | cons x l ih=>obtain⟨i,r⟩:=x;exact ih _
theorem X5(h:List Row)(l:List (Nat×Row)):(r8 h l).length=h.length:=by
 induction l generalizing h with
 | nil=>rfl
 | cons x l ih=>obtain⟨i,r⟩:=x;simp[r8,ih]
theorem Rel.retie(hR:Rel B w0 F0 S β F a w){d:Nat}(hd:β d=none){cons:List Nat}{dst:Option Nat}{hd':Hd}{r:Row}{w':World}
  (G0:w.heap.size<=w'.heap.size) (lp:w'.os=w.os/\w'.tape=w.tape/\w'.output=w.output)
  (aj:∀ k,k<w.heap.size->(∀ c ∈ cons,S.row c ≠ .none->¬ x7 β c k)->w'.heap[k]? = w.heap[k]?)
  (hb:∀ b,Z1 (some hd') b->b<w'.heap.size/\((∃ c ∈ cons,S.row c ≠ .none/\x7 β c b)∨w.heap.size<=b))
  (hr:∀ β',β' d=some hd'->(∀ j,β j≠none->β' j=β j)->C5 F w w'->y8 β' F w' d r) (rk:∀ l xs k e,r ≠ .ctr l xs k e) :
  ∃ β' F',(∀ j,j≠d->β' j=β j)/\Rel B w0 F0 (S.put dst ⟨.own d,cons.map (fun i=>(i,.none))++[(d,r)]⟩) β' F' (a.put dst (.slice (hd'.b.map fun b=>⟨b,0,none⟩) hd'.len hd'.cap)) w':=by
 let β':Nat->Option Hd:=fun j=>if j=d then some hd' else β j
 have h1:β' d=some hd':=by simp[β']
 have h2:∀ j,j≠d->β' j=β j:=fun j hj=>by simp[β',hj]
 have h3:∀ j,β j≠none->β' j=β j:=fun j hj=>h2 j (fun e=>hj (e ▸ hd))
 have b1:∀ b,x7 β' d b↔Z1 (some hd') b:=fun b=>by rw[x7,h1]
 have b2:∀ j b,j≠d->(x7 β' j b↔x7 β j b):=fun j b hj=>by rw[x7,x7,h2 j hj]
 have hk:C5 F w w':=fun k o u hF hc=>by
  rw[World.cell?_of_block (w:=w) (aj k (hR.FB k hF).1 fun c _ hc hb=>hR.bF c k hc hb hF)];exact hc
 have A1:∀ j,(r8 S.h (cons.map (fun i=>(i,.none))++[(d,r)])).getD j .none=if d=j/\d<S.h.length then r else if j ∈ cons then .none else S.row j:=fun j=>by
  rw[X4];simp only[r8,r7,O8,X5];rfl
 have live:∀ j,j≠d->(r8 S.h (cons.map (fun i=>(i,.none))++[(d,r)])).getD j .none ≠ .none->j ∉ cons/\S.row j ≠ .none:=fun j hj hl=>by
  rw[A1,if_neg (fun h=>hj h.1.symm)]at hl;split at hl
  ·exact absurd rfl hl
  ·rename_i hc;exact⟨hc,hl⟩
 refine⟨β',F,h2,hR.step h3 (fun _ h=>h) (fun b hb=>⟨zB5 (hR.FB b hb).1 G0,(hR.FB b hb).2⟩) hk lp G0 (.own h1) ?_ ?_ ?_ ?_ (fun k hk hn=>aj k hk fun c _ hc=>hn c hc) ?_ (fun b hb => .inl hb) ?_⟩
 ·intro j;rw[A1];split
  ·rename_i h;obtain⟨rfl,_⟩:=h;exact hr β' h1 h3 hk
  ·split
   ·trivial
   ·rename_i gH rk;by_cases hn:S.row j = .none
    ·rw[hn];trivial
    ·refine(hR.rows j).grow h3 (fun _ h=>h) hk fun b P6=>aj b (hR.bB j b P6).2 fun c hc S9 iC=>?_
     exact rk (hR.inj j c b hn S9 P6 iC ▸ hc)
 ·intro i j b hi hj B3 P6;by_cases e:i=d
  ·by_cases e':j=d
   ·exact e.trans e'.symm
   ·exfalso;subst e;rw[b1]at B3;rw[b2 j _ e']at P6;obtain⟨PN,SZ⟩:=live j e' hj;rcases(hb b B3).2 with ⟨c,hc,S9,iC⟩|h
    ·exact PN (hR.inj c j b S9 SZ iC P6 ▸ hc)
    ·have:=(hR.bB j b P6).2;omega
  ·by_cases e':j=d
   ·exfalso;subst e';rw[b1]at P6;rw[b2 i _ e]at B3;obtain⟨PO,Pu⟩:=live i e hi;rcases(hb b P6).2 with ⟨c,hc,S9,iC⟩|h
    ·exact PO (hR.inj c i b S9 Pu iC B3 ▸ hc)
    ·have:=(hR.bB i b B3).2;omega
   ·rw[b2 i _ e]at B3;rw[b2 j _ e']at P6;exact hR.inj i j b (live i e hi).2 (live j e' hj).2 B3 P6
 ·intro i b hi B3 hF;by_cases e:i=d
  ·subst e;rw[b1]at B3;rcases(hb b B3).2 with ⟨c,hc,S9,iC⟩|h
   ·exact hR.bF c b S9 iC hF
   ·have:=(hR.FB b hF).1;omega
  ·rw[b2 i _ e]at B3;exact hR.bF i b (live i e hi).2 B3 hF
 ·intro i b B3;by_cases e:i=d
  ·subst e;rw[b1]at B3;refine⟨?_,(hb b B3).1⟩;rcases(hb b B3).2 with ⟨c,hc,S9,iC⟩|h
   ·exact(hR.bB c b iC).1
   ·exact hR.BW b h
  ·rw[b2 i _ e]at B3;have:=hR.bB i b B3;exact⟨this.1,zB5 this.2 G0⟩
 ·intro i b hi B3;by_cases e:i=d
  ·subst e;rw[b1]at B3;rcases(hb b B3).2 with ⟨c,_,S9,iC⟩|h
   ·exact .inl ⟨c,S9,iC⟩
   ·exact .inr h
  ·rw[b2 i _ e]at B3;exact .inl ⟨i,(live i e hi).2,B3⟩
 ·intro id l xs k e h;rw[A1]at h;split at h
  ·exact absurd h (rk l xs k e)
  ·split at h
   ·cases h
   ·exact h
theorem PQ(hR:Rel B w0 F0 S β F a w){x:AV}{v:Value}(hx:C4 β F w x v){D:Pq}(hD:sE S.row x D)(S9:∀ y ∈ D.l,(D.enc y).length=D.sz/\G8 (D.enc y)=true/\bJ (D.enc y)=true) :
  (D.l=[]/\∃ x cap,v = .slice x 0 cap)∨∃ (b o cap:Nat) (g:Nat->Nat->Value),v = .slice (some ⟨b,o,none⟩) D.l.length cap /\
   (∀ i j,i<D.l.length->j<D.sz->w.cell? ⟨b,o+i*D.sz+j,none⟩=some (g i j))/\∀ i j,i<D.l.length->j<D.sz->y6 F w ((D.enc (D.l.getD i D.d)).getD j .any) (g i j):=by
 cases x<;>simp only[sE]at hD
 case nils=>exact .inl ⟨hD,_,_,hx.nils_inv⟩
 case sl α sz d enc l =>
  subst hD;rcases hx.sl_inv with h|⟨b,o,cap,g,h1,h2,h3,h4⟩
  ·exact .inl h
  ·exact .inr ⟨b,o,cap,g,h1,fun i j hi hj=>(h3 i j hi hj).2,h4⟩
 case sf α sz d enc l =>
  subst hD;rcases hx.sf_inv with ⟨h,y,hv⟩|⟨b,o,g,h1,h3,h4⟩
  ·exact .inl ⟨h,y,0,hv⟩
  ·exact .inr ⟨b,o,_,g,h1,fun i j hi hj=>(h3 i j hi hj).2,h4⟩
 case slc sz E5 =>
  obtain⟨h1,h2⟩:=hD;subst h1;have hg:∀ i,i<D.l.length->E5.getD i []=D.enc (D.l.getD i D.d):=fun i hi=>by rw[h2];simp[List.getD,hi]
  have hlen:E5.length=D.l.length:=by rw[h2];simp
  rcases hx.slc_inv with ⟨h,hv⟩|⟨b,o,cap,g,h1,_,h3,h4⟩
  ·refine .inl ⟨?_,_,_,hv⟩;rw[h]at hlen;exact List.eq_nil_of_length_eq_zero hlen.symm
  ·rw[hlen]at h1 h3 h4;exact .inr ⟨b,o,cap,g,h1,fun i j hi hj=>(h3 i j hi hj).2,fun i j hi hj=>by rw[<- hg i hi];exact h4 i j hi hj⟩
 case own id =>
  obtain⟨hd,hβ,hv⟩:=hx.own_inv;split at hD
  ·rename_i hr;subst hD;obtain⟨hl,h⟩:=ag hR hr hβ;rcases h with ⟨h1,h2,h3⟩|⟨b,vs,h1,h2,h3,h4,h5,h6⟩
   ·refine .inl ⟨h1,none,0,?_⟩;rw[hv,h2,hl,h3,h1];rfl
   ·refine .inr ⟨b,0,hd.cap,fun i j=>vs.getD (i*_+j) undef,by rw[hv,h1,hl];rfl,fun i j hi hj=>?_,h6⟩;rw[Nat.zero_add];exact G3 h2 (by rw[h5];exact z6 (zB5 hi h3) hj)
  ·rename_i hr;obtain⟨e1,e2⟩:=hD;subst e1;have:=hR.rows id;rw[hr]at this;obtain⟨hd',b,vs,q1,qm,q2,q3,q4,q5,q6,q7,q8⟩:=this;rw[hβ]at q1;cases q1
   rename_i ty E5;have hlen:E5.length=D.l.length:=jI e2;refine .inr ⟨b,0,hd.cap,fun i j=>vs.getD (i*D.sz+j) undef,by rw[hv,q2,q4,hlen];rfl,fun i j hi hj=>?_,fun i j hi hj=>?_⟩
   ·rw[Nat.zero_add];exact G3 q3 (by rw[q6];exact z6 va5 hj)
   ·have hg:=wV (d:=D.d) e2 hi;have hm:D.l.getD i D.d ∈ D.l:=by simp[List.getD,hi]
    have hc:=H0 (S9 _ hm).2.1 j;rw[<- hg,gF]at hc ⊢;exact(q8 i j va5 hj).tts.shut hc
  ·exact hD.elim
def u7(g:Nat->Nat->Value)(n sz:Nat):List Value:=(List.range (n*sz)).map fun k=>g (k / sz) (k % sz)
theorem u5(g:Nat->Nat->Value)(n sz:Nat):(u7 g n sz).length=n*sz:=by simp[u7]
theorem X6{g:Nat->Nat->Value}{n sz i j:Nat}(hi:i<n)(hj:j<sz):(u7 g n sz)[i*sz+j]? = some (g i j):=by
 have h:=z6 hi hj;have h1:(i*sz+j) / sz=i:=by
  rw[Nat.mul_comm,Nat.mul_add_div va5,Nat.div_eq_of_lt hj,Nat.add_zero]
 have h2:(i*sz+j) % sz=j:=by rw[Nat.mul_comm,Nat.mul_add_mod];exact Nat.mod_eq_of_lt hj
 simp[u7,h,h1,h2]
theorem J4{g:Nat->Nat->Value}{n sz b o:Nat}(h:∀ i j,i<n->j<sz->w.cell? ⟨b,o+i*sz+j,none⟩=some (g i j)):∀ j u,(u7 g n sz)[j]? = some u->w.cell? ((⟨b,o,none⟩:Addr).add j)=some u:=by
 intro j u hu;have z8:j<n*sz:=by
  rcases Nat.lt_or_ge j (n*sz)with h|h
  ·exact h
  ·rw[zA7 (by rw[u5];exact h)]at hu;cases hu
 have G0:0<sz:=Nat.pos_of_ne_zero fun e=>by simp[e]at z8
 have DX:j % sz<sz:=Nat.mod_lt _ G0;have wS:j / sz<n:=(Nat.div_lt_iff_lt_mul G0).2 z8;have he:j=j / sz*sz+j % sz:=by rw[Nat.mul_comm];exact(Nat.div_add_mod j sz).symm
 have h3:=X6 (g:=g) wS DX;rw[<- he]at h3;rw[h3]at hu;cases hu
 rw[U3];have:=h _ _ wS DX;rw[show o+j / sz*sz+j % sz=o+j by omega]at this;exact this
end
/- Each operation does what its abstract twin says (last part): append; and all of them together. A helper text: it speaks of no program. -/
section
variable {P:Program}{B:Nat->Prop}{w0:World}{F0:Env P}{S:St}{β:Nat->Option Hd}{F:Nat->Prop}{a:Act}{w:World}
theorem gI{t ty e:TypeId}{i:TypeInfo}(ht:P.underlying t=some (.slice e))(hi:P.info? e=some i)(base:Option Addr)(n cap:Nat)(hn:n<=cap)(x:Option Addr)(c:Nat) :
  (Builtin.append_ #[t,t] ty #[.slice base n cap,.slice x 0 c]).run P w = .ok (.slice base n cap) w:=by
 cases base<;>cases x<;>simp[Builtin.append_,run_underlying ht,sizeOf,typeInfo,hi,Builtin.lenOf,hn,Builtin.firstCells,storeCells,loadCells,loadCellsFrom]
theorem ru{t ty e:TypeId}{i:TypeInfo}(ht:P.underlying t=some (.slice e))(hi:P.info? e=some i)(x:Addr)(c:Nat) :
  (Builtin.append_ #[t,t] ty #[.slice none 0 0,.slice (some x) 0 c]).run P w = .ok (.slice none 0 0) w:=by
 simp[Builtin.append_,run_underlying ht,sizeOf,typeInfo,hi,Builtin.lenOf,Builtin.firstCells,loadCells,loadCellsFrom]
theorem iD{x:AV}{v:Value}(h:y6 F w x v)(hx:x.one=true):v.oneCell'=true:=(C4.one_cell (β:=fun _=>none) (.imm h) hx).1
theorem gJ{α:Type}{l m:List α}{i:Nat}{d:α}(h:i<l.length):(l++m).getD i d=l.getD i d:=by simp[List.getD,List.getElem?_append_left h]
theorem fA{α:Type}{l m:List α}{i:Nat}{d:α}(h:l.length<=i):(l++m).getD i d=m.getD (i-l.length) d:=by simp[List.getD,List.getElem?_append_right h]
theorem nf{α:Type}{sz:Nat}{d:α}{enc:α->List AV}{l l':List α}{go gn:Nat->Nat->Value}{rest:List Value}{w':World}
  (ho:∀ i j,i<l.length->j<sz->y6 F w' ((enc (l.getD i d)).getD j .any) (go i j)) (hn:∀ i j,i<l'.length->j<sz->y6 F w' ((enc (l'.getD i d)).getD j .any) (gn i j))
  {vs:Array Value} (Eh:vs.toList=u7 go l.length sz++u7 gn l'.length sz++rest) :
  ∀ i j,i<(l++l').length->j<sz->y6 F w' ((enc ((l++l').getD i d)).getD j .any) (vs.getD (i*sz+j) undef):=by
 intro i j hi hj;have Y8:∀ k v,(u7 go l.length sz++u7 gn l'.length sz++rest)[k]? = some v->vs.getD k undef=v:=fun k v h=>by
  rw[<- Eh]at h;have:vs[k]? = some v:=by simpa using h
  simp[Array.getD_eq_getD_getElem?,this]
 by_cases h:i<l.length
 ·rw[gJ h,Y8 _ (go i j) ?_]
  ·exact ho i j h hj
  ·have:=z6 h hj;rw[List.append_assoc,List.getElem?_append_left (by rw[u5];exact this)];exact X6 h hj
 ·have hle:=Nat.le_of_not_lt h;have cI:i-l.length<l'.length:=by simp at hi;omega
  rw[fA hle,Y8 _ (gn (i-l.length) j) ?_]
  ·exact hn _ _ cI hj
  ·have e:i*sz+j-l.length*sz=(i-l.length)*sz+j:=by rw[Nat.sub_mul];have:=Nat.mul_le_mul_right sz hle;omega
   have h2:l.length*sz<=i*sz:=Nat.mul_le_mul_right sz hle;have h3:=z6 cI hj;rw[List.append_assoc,List.getElem?_append_right (by rw[u5];omega),u5,e,List.getElem?_append_left (by rw[u5];exact h3)];exact X6 cI hj
theorem yJ{α:Type}{sz:Nat}{d:α}{enc:α->List AV}{l:List α}{g:Nat->Nat->Value}(S9:∀ y ∈ l,(enc y).length=sz/\G8 (enc y)=true/\bJ (enc y)=true)
  (hr:∀ i j,i<l.length->j<sz->y6 F w ((enc (l.getD i d)).getD j .any) (g i j)):∀ u ∈ u7 g l.length sz,u.oneCell'=true:=by
 intro u hu;obtain⟨k,hk,rfl⟩:=List.mem_map.1 hu;have z8:k<l.length*sz:=List.mem_range.1 hk;have G0:0<sz:=Nat.pos_of_ne_zero fun e=>by simp[e]at z8
 have h1:k / sz<l.length:=(Nat.div_lt_iff_lt_mul G0).2 z8;have h2:k % sz<sz:=Nat.mod_lt _ G0;have hm:l.getD (k / sz) d ∈ l:=by simp[List.getD,h1]
 obtain⟨c1,c2,c3⟩:=S9 _ hm;exact iD (hr _ _ h1 h2) (fx c3 _ va5)
theorem di(z:Array Value)(n:Nat):(Builtin.zeroCells z n).size=n*z.size:=by simp[Builtin.zeroCells]
theorem Ei(hR:Rel B w0 F0 S β F a w){o:Oper}{c:Call}(ho:o.op = .call c)(hb:c.callee = .builtin .append)(B1:∀ d,o.dst=some d->β d=none){K:Out->List Nat->Prop}
  (h:y0 P o.dst (.call c) S.get S.row K) {Q:Exit->Act->World->Prop}:o.wp P a w (z7 B w0 F0 S β o.dst K) Q:=by
 simp only[y0,hb]at h;split at h
 case h_2=>exact h.elim
 rename_i s x t t' Ej PR;have e1:=jj Ej;have e2:=jj PR;split at h
 case h_2=>exact h.elim
 rename_i d e hd hu ZU;have ht:=zA8 ZU;subst ht;split at h
 case h_2=>exact h.elim
 rename_i i z hi hz;split at h
 case h_2=>exact h.elim
 rename_i rq;have Ig:=zA8 rq;split at h
 case h_2=>exact h.elim
 rename_i Ii;have a1T:0<i.size:=by simpa[Nat.blt_eq]using Ii
 split at h
 case h_2=>exact h.elim
 rename_i gK;obtain⟨D,l',vK,yK,PS,yL,hlen,S9,hK⟩:=h;obtain⟨i',zv,cI,DU,_,La⟩:=ak (β:=β) (F:=F) (w:=w) hz;rw[hi]at cI; cases cI
 have TN:zv.cells.size=i.size:=by rw[<- La.1];exact Ig
 have hs:∀ cs,builtin .append c.argTypes o.type cs (c.args.map a.eval)=(do pure (.value (<- Builtin.append_ #[t,t] o.type #[a.eval s,a.eval x]))):=fun cs=>by
  rw[e1,e2];simp[builtin]
 have ZV:∀ y ∈ D.l,(D.enc y).length=D.sz/\G8 (D.enc y)=true/\bJ (D.enc y)=true:=fun y hy=>S9 y (List.mem_append_left _ hy)
 have PT:∀ y ∈ l',(D.enc y).length=D.sz/\G8 (D.enc y)=true/\bJ (D.enc y)=true:=fun y hy=>S9 y (List.mem_append_right _ hy)
 have PU:=hR.get s;have qA:=hR.get x;have Bu:=PQ hR qA PS PT;have fd:=B1 d hd
 -- how it ends, given the run
 have fin:∀ (hd':Hd) (w':World),(Builtin.append_ #[t,t] o.type #[a.eval s,a.eval x]).run P w = .ok (.slice (hd'.b.map fun b=>⟨b,0,none⟩) hd'.len hd'.cap) w'->w.heap.size<=w'.heap.size ->
   (w'.os=w.os/\w'.tape=w.tape/\w'.output=w.output)->(∀ k,k<w.heap.size->(∀ c ∈ eu (S.get s),S.row c ≠ .none->¬ x7 β c k)->w'.heap[k]? = w.heap[k]?) ->
   (∀ b,Z1 (some hd') b->b<w'.heap.size/\((∃ c ∈ eu (S.get s),S.row c ≠ .none/\x7 β c b)∨w.heap.size<=b)) ->
   (∀ β',β' d=some hd'->(∀ j,β j≠none->β' j=β j)->C5 F w w'->y8 β' F w' d (.vec e D.sz D.d D.enc (D.l++l')))->o.wp P a w (z7 B w0 F0 S β o.dst K) Q:=by
  intro hd' w' K4 g1 g2 g3 g4 g5;obtain⟨β',F',q1,q2⟩:=hR.retie fd (cons:=eu (S.get s)) (dst:=o.dst) (hd':=hd') g1 g2 g3 g4 g5 (fun _ _ _ _ h=>by cases h);exact J5 ho hb hs K4 ⟨_,_,hK,β',F',fun j hj=>q1 j (fun e=>hj (by rw[e];exact hd)),q2⟩
 have Lu:(D.l++l').length<=maxLen:=by simp only[List.length_append,maxLen];omega
 -- a new block
 have fresh:∀ (go gn:Nat->Nat->Value) (cap:Nat),D.l.length+l'.length<=cap->cap<=maxLen ->
   (∀ i j,i<D.l.length->j<D.sz->y6 F w ((D.enc (D.l.getD i D.d)).getD j .any) (go i j))->(∀ i j,i<l'.length->j<D.sz->y6 F w ((D.enc (l'.getD i D.d)).getD j .any) (gn i j)) ->
   (Builtin.append_ #[t,t] o.type #[a.eval s,a.eval x]).run P w = .ok (.slice (some ⟨w.heap.size,0,none⟩) (D.l.length+l'.length) cap)
    (w.drew.alloc (.cells ((u7 go D.l.length D.sz).toArray++(u7 gn l'.length D.sz).toArray++Builtin.zeroCells zv.cells (cap-(D.l.length+l'.length))) e)) ->
   o.wp P a w (z7 B w0 F0 S β o.dst K) Q:=by
  intro go gn cap hc Pv hgo Xc K4;refine fin ⟨some w.heap.size,D.l.length+l'.length,cap,jr⟩ _ K4 va9 ⟨rfl,rfl,rfl⟩ (fun k hk _=>RowKit.Below.heap_alloc w.drew _ k hk) (fun b hb=>?_) (fun β' mb _ hk=>?_)
  ·simp only[P7,Option.some.injEq]at hb;subst hb;exact⟨by simp,.inr (Nat.le_refl _)⟩
  ·refine⟨_,mb,rfl,by simp,.inr ⟨w.heap.size,_,rfl,heap_alloc_new w.drew _,by simpa using hc,Pv,?_,?_⟩⟩
   ·simp only[Array.size_append,List.size_toArray,u5,di,TN,<- vK,<- Nat.add_mul]
    congr 1;omega
   ·exact nf (go:=go) (gn:=gn) (fun i j h1 h2=>(hgo i j h1 h2).mono (fun _ h=>h) hk) (fun i j h1 h2=>(Xc i j h1 h2).mono (fun _ h=>h) hk)
     (rest:=(Builtin.zeroCells zv.cells (cap-(D.l.length+l'.length))).toList) va9
 -- the base
 have yM:a.eval s = .slice none 0 0->D.l=[]->o.wp P a w (z7 B w0 F0 S β o.dst K) Q:=by
  intro jD ao;have same:l'=[]->(Builtin.append_ #[t,t] o.type #[a.eval s,a.eval x]).run P w = .ok (.slice none 0 0) w->o.wp P a w (z7 B w0 F0 S β o.dst K) Q:=by
   intro mS K4;refine fin ⟨none,0,0,jr⟩ w K4 (Nat.le_refl _) ⟨rfl,rfl,rfl⟩ (fun _ _ _=>rfl) (fun b hb=>by rw[P7]at hb;cases hb) (fun β' mb _ _=>⟨_,mb,rfl,by simp[ao,mS],.inl ⟨by simp[ao,mS],rfl,rfl⟩⟩)
  rcases Bu with ⟨mS,x0,c0,Bb⟩|⟨b,ob,cap,g,Bb,H7,I8⟩
  ·refine same mS ?_;rw[jD,Bb];exact gI hu hi none 0 0 (Nat.le_refl _) x0 c0
  ·by_cases hm:l'.length=0
   ·refine same (List.eq_nil_of_length_eq_zero hm) ?_;rw[jD,Bb];simp only[hm];exact ru hu hi _ _
   ·have hr:=run_append_nil (P:=P) w t o.type e i zv hu hi DU ⟨b,ob,none⟩ l'.length cap (u7 g l'.length D.sz) (by rw[u5,vK]) (J4 H7) va5 va5
     (by simp only[ao,List.length_nil,Nat.zero_add]at yL;omega)
    refine fresh (fun _ _=>undef) g (grownCap w l'.length 0 e) ?_ ?_ (fun i j h1=>by simp[ao]at h1) I8 ?_
    ·simp only[ao,List.length_nil,Nat.zero_add];exact grownCap_ge w l'.length 0 e
    ·exact grownCap_le_maxLen w l'.length 0 e (by simp only[maxLen];omega)
    ·rw[jD,Bb,hr];simp[ao,u7]
 have base:∀ (id b cap:Nat) (cur:Array Value) (go:Nat->Nat->Value),S.get s = .own id->S.row id ≠ .none->x7 β id b->a.eval s = .slice (some ⟨b,0,none⟩) D.l.length cap->w.heap[b]? = some (.cells cur e (0,0)) ->
   D.l.length<=cap->cap<=maxLen->cur.size=cap*D.sz->(∀ i j,i<D.l.length->j<D.sz->w.cell? ⟨b,0+i*D.sz+j,none⟩=some (go i j)) ->
   (∀ i j,i<D.l.length->j<D.sz->y6 F w ((D.enc (D.l.getD i D.d)).getD j .any) (go i j))->o.wp P a w (z7 B w0 F0 S β o.dst K) Q:=by
  intro id b cap cur go L6 A5 nd jD DV rk Pv rO iE sL;have AZ:=hR.bB id b nd;have sF:u7 go D.l.length D.sz=cur.toList.take (D.l.length*D.sz):=by
   apply List.ext_getElem?;intro k;by_cases hk:k<D.l.length*D.sz
   ·have G0:0<D.sz:=by omega
    have h1:k / D.sz<D.l.length:=(Nat.div_lt_iff_lt_mul G0).2 hk;have h2:k % D.sz<D.sz:=Nat.mod_lt _ G0;have he:k=k / D.sz*D.sz+k % D.sz:=by rw[Nat.mul_comm];exact(Nat.div_add_mod k D.sz).symm
    have h3:=X6 (g:=go) h1 h2;rw[<- he]at h3;have h4:=iE _ _ h1 h2;rw[Nat.zero_add,<- he]at h4;have z8:k<cur.size:=by
     have:D.l.length*D.sz<=cap*D.sz:=Nat.mul_le_mul_right _ rk;omega
    have h5:=G3 DV z8;rw[h5]at h4;rw[h3,List.getElem?_take_of_lt hk,<- h4];simp[z8]
   ·rw[zA7 (by rw[u5];omega),zA7 (by rw[zB1];omega)]
  by_cases cK:D.l.length+l'.length<=cap
  ·rcases Bu with ⟨mS,x0,c0,Bb⟩|⟨bx,ob,LA,g,Bb,H7,I8⟩
   ·refine fin ⟨some b,D.l.length,cap,jr⟩ w ?_ (Nat.le_refl _) ⟨rfl,rfl,rfl⟩ (fun _ _ _=>rfl) (fun b' oV => ?_) (fun β' mb _ _=>?_)
    ·rw[jD,Bb];exact gI hu hi _ _ _ rk x0 c0
    ·simp only[P7,Option.some.injEq]at oV;subst oV;exact⟨AZ.2,.inl ⟨id,by rw[L6];simp[eu],A5,nd⟩⟩
    ·have ao:l'=[]:=mS;refine⟨_,mb,rfl,by simp[ao],.inr ⟨b,cur,rfl,DV,by simpa[ao]using rk,Pv,rO,fun p q hp hq=>?_⟩⟩;have ph:p<D.l.length:=by simpa[ao]using hp
     have h4:=iE _ _ ph hq;rw[Nat.zero_add,G3 DV (by rw[rO];exact z6 va5 hq)]at h4;simp only[Option.some.injEq]at h4;rw[ao,List.append_nil,h4];exact sL p q ph hq
   ·have ma:D.l.length*i.size+(u7 g l'.length D.sz).length<=cur.size:=by
     rw[u5,rO,<- vK,<- Nat.add_mul];exact Nat.mul_le_mul_right _ cK
    have hr:=run_append_room (P:=P) w t o.type e i hu hi b D.l.length cap cur DV ⟨bx,ob,none⟩ l'.length LA (u7 g l'.length D.sz) (by rw[u5,vK]) (J4 H7)
     (yJ PT I8) cK ma
    obtain⟨f1,f2,f3⟩:=N2 b cur (cur.toList.take (D.l.length*i.size)++u7 g l'.length D.sz++cur.toList.drop (D.l.length*i.size+(u7 g l'.length D.sz).length)).toArray e (0,0) DV;refine fin ⟨some b,D.l.length+l'.length,cap,jr⟩ _ (by rw[jD,Bb];exact hr) (by rw[f1.2.2.2];exact Nat.le_refl _) ⟨f1.1,f1.2.1,f1.2.2.1⟩ (fun k hk hn=>f2 k fun e=>?_) (fun b' oV => ?_) (fun β' mb _ hk=>?_)
    ·subst e;exact hn id (by rw[L6];simp[eu]) A5 nd
    ·simp only[P7,Option.some.injEq]at oV;subst oV;exact⟨by rw[f1.2.2.2];exact AZ.2,.inl ⟨id,by rw[L6];simp[eu],A5,nd⟩⟩
    ·refine⟨_,mb,rfl,by simp,.inr ⟨b,_,rfl,f3,by simpa using cK,Pv,?_,?_⟩⟩
     ·simp only[List.size_toArray,List.length_append,zB1,List.length_drop,Array.length_toList];rw[<- rO];omega
     ·refine nf (go:=go) (gn:=g) (fun i j h1 h2=>(sL i j h1 h2).mono (fun _ h=>h) hk) (fun i j h1 h2=>(I8 i j h1 h2).mono (fun _ h=>h) hk)
       (rest:=cur.toList.drop (D.l.length*i.size+(u7 g l'.length D.sz).length)) ?_
      rw[sF,vK]
  ·rcases Bu with ⟨mS,x0,c0,Bb⟩|⟨bx,ob,LA,g,Bb,H7,I8⟩
   ·have ao:l'=[]:=mS;simp[ao]at cK;omega
   ·have hfs:u7 go D.l.length D.sz=u7 go D.l.length i.size:=by rw[vK]
    have hr:=run_append_grow (P:=P) w t o.type e i zv hu hi DU ⟨b,0,none⟩ D.l.length cap (u7 go D.l.length D.sz) (by rw[u5,vK]) (J4 iE) ⟨bx,ob,none⟩ l'.length LA (u7 g l'.length D.sz)
     (by rw[u5,vK]) (J4 H7) va5 va5 (growslice_fits va5 va5)
    refine fresh go g (grownCap w (D.l.length+l'.length) cap e) (grownCap_ge w _ _ e) (grownCap_le_maxLen w _ _ e (by simp only[maxLen];omega)) sL I8 ?_;rw[jD,Bb,hr]
 have fl:fT S.row (S.get s) (S.get x)=true->0<l'.length:=fun h=>by
  unfold fT at h;split at h
  ·split at h
   ·rename_i q rv;split at h
    ·rename_i hq;rw[rv]at PS;simp only[sE,hq]at PS;have:=jI PS.2;simp at this;omega
    ·cases h
   ·cases h
  ·cases h
 have sfb:∀ (y:Addr) (go:Nat->Nat->Value),a.eval s = .slice (some y) D.l.length D.l.length->0<l'.length->(∀ j v,(u7 go D.l.length D.sz)[j]? = some v->w.cell? (y.add j)=some v) ->
   (∀ i j,i<D.l.length->j<D.sz->y6 F w ((D.enc (D.l.getD i D.d)).getD j .any) (go i j))->o.wp P a w (z7 B w0 F0 S β o.dst K) Q:=by
  intro y go jD V8 iE sL;rcases Bu with ⟨mS,x0,c0,Bb⟩|⟨bx,ob,LA,g,Bb,H7,I8⟩
  ·have h0:l'=[]:=mS;rw[h0]at V8;exact absurd V8 (Nat.lt_irrefl 0)
  ·have hr:=run_append_grow (P:=P) w t o.type e i zv hu hi DU y D.l.length D.l.length (u7 go D.l.length D.sz) (by rw[u5,vK]) iE ⟨bx,ob,none⟩ l'.length LA (u7 g l'.length D.sz)
    (by rw[u5,vK]) (J4 H7) va5 va5 (growslice_fits va5 va5)
   refine fresh go g (grownCap w (D.l.length+l'.length) D.l.length e) (grownCap_ge w _ _ e) (grownCap_le_maxLen w _ _ e (by simp only[maxLen];omega)) sL I8 ?_;rw[jD,Bb,hr]
 by_cases ng:fT S.row (S.get s) (S.get x)=true
 ·have V8:=fl ng;cases hg:S.get s<;>rw[hg]at ng yK PU<;>simp only[fT,sE]at ng yK
  case sf =>
   subst yK;rcases PU.sf_inv with ⟨ao,x0,jD⟩|⟨b,ob,g0,jD,iE,sL⟩
   ·cases x0 with
    | none=>exact yM jD ao
    | some y=>exact sfb y (fun _ _=>undef) (by rw[jD];simp[ao]) V8 (fun j v h=>by simp[ao,u7]at h) (fun i j h1=>by simp[ao]at h1)
   ·exact sfb ⟨b,ob,none⟩ g0 jD V8 (J4 fun i j hi hj=>(iE i j hi hj).2) sL
  all_goals cases ng
 have TO:fT S.row (S.get s) (S.get x)=false:=by simpa using ng
 rw[TO,Bool.or_false]at gK;cases hg:S.get s<;>rw[hg]at yK gK<;>simp only[sE,pd]at yK gK
 case nils =>
  rw[hg]at PU;exact yM PU.nils_inv yK
 case own id =>
  rw[hg]at PU;obtain⟨W0,hβ,jD⟩:=PU.own_inv;have Xd:∀ {ty},(S.row id).tyIs e=true->(∀ {α} {sz d enc} {l:List α},S.row id = .vec ty sz d enc l->ty=e)/\(∀ {sz E5},S.row id = .lit ty sz E5->ty=e):=by
   intro ty Xd;refine⟨fun h=>?_,fun h=>?_⟩<;>(rw[h]at Xd;exact zA8 Xd)
  split at yK
  ·rename_i ty sz dd enc l hr;obtain rfl:=(Xd gK).1 hr;obtain⟨q2,q3⟩:=ag hR hr hβ;subst yK;rcases q3 with ⟨h1,h2,h3⟩|⟨b,vs,h1,h2,h3,h4,h5,h6⟩
   ·refine yM ?_ h1;rw[jD,h2,q2,h3,h1];rfl
   ·exact base id b W0.cap vs (fun i j=>vs.getD (i*_+j) undef) hg (by rw[hr];simp) (by rw[x7,hβ];exact A8 h1) (by rw[jD,h1,q2];rfl) h2 h3 h4 h5
     (fun i j hi hj=>by rw[Nat.zero_add];exact G3 h2 (by rw[h5];exact z6 (zB5 hi h3) hj)) h6
  ·rename_i ty sz E5 hr;obtain rfl:=(Xd gK).2 hr;obtain⟨q1,q2⟩:=yK;have:=hR.rows id;rw[hr]at this;obtain⟨hd',b,vs,p1,pm,p2,p3,p4,p5,p6,p7,p8⟩:=this;rw[hβ]at p1;cases p1
   have hlen:E5.length=D.l.length:=jI q2;refine base id b W0.cap vs (fun i j=>vs.getD (i*D.sz+j) undef) hg (by rw[hr];simp) (by rw[x7,hβ];exact A8 p2) (by rw[jD,p2,p4,hlen];rfl) p3 va5 va5 (by rw[p6,p5,q1])
    (fun i j hi hj=>by rw[Nat.zero_add];exact G3 p3 (by rw[p6,q1];exact z6 va5 hj)) (fun i j hi hj=>?_)
   have hgi:=wV (d:=D.d) q2 hi;have hm:D.l.getD i D.d ∈ D.l:=by simp[List.getD,hi]
   have:=p8 i j va5 (by rw[q1];exact hj);rw[q1]at this;have hc:=H0 (ZV _ hm).2.1 j;rw[<- hgi,gF]at hc ⊢;exact this.tts.shut hc
  ·exact yK.elim
 all_goals simp at gK
end

end Go.Ev
