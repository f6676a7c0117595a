/- Helper lemmas. -/
import Derived.Test.YtdpnpdjnaimgaaaGreatMzWyB
set_option linter.unusedVariables false
set_option linter.unusedSimpArgs false
set_option maxRecDepth 100000
set_option maxHeartbeats 0
namespace Go.Proofs.Tryz.My
open Go Go.Ev
def LM{α:Type}(f:α->α)(l:List α)(k:Nat):List α:=(l.take k).map f++l.drop k
theorem OT{α:Type}(f:α->α)(l:List α)(k:Nat):(LM f l k).length=l.length:=by
 unfold LM;rw[List.length_append,List.length_map,zB1,List.length_drop];omega
theorem LN{α:Type}(f:α->α){l:List α}{d:α}{k:Nat}(hk:k<l.length):(LM f l k).getD k d=l.getD k d:=by
 have h:((l.take k).map f).length=k:=by rw[List.length_map,zB1];omega
 unfold LM;simp only[List.getD];rw[List.getElem?_append_right va5,h,List.getElem?_drop];simp
theorem OU{α:Type}(f:α->α){l:List α}{d:α}{k:Nat}(hk:k<l.length):(LM f l k).set k (f (l.getD k d))=LM f l (k+1):=by
 have h:((l.take k).map f).length=k:=by rw[List.length_map,zB1];omega
 unfold LM;rw[List.set_append_right _ _ va5,h,Nat.sub_self,List.take_add_one,zA6 hk,List.map_append,List.append_assoc,x9 hk,List.drop_eq_getElem_cons hk];rfl
theorem OV{α:Type}(f:α->α)(l:List α):LM f l l.length=l.map f:=by
 unfold LM;rw[List.take_length,List.drop_length,List.append_nil]
theorem OW(l:List B6)(k:Nat)(hk:k<l.length)(kind j8 a7 n j9:Int)(gauge:x8)(tru a8:List Int)(op:Bool)(b:G3)(hb:(1<=b.y9/\b.y9<=1000000)/\(0<=(l.getD k n5).len/\(l.getD k n5).len<=1000000))(hf:(0<=(l.getD k n5).front/\(l.getD k n5).front<=4000002000)/\(0<=n/\n<=100000)) :
    va7 220 [.ptr 0 7 k 0,.pt (UK kind j8 a7 n j9 gauge tru a8) 0,.pt [.bool op] 0,.pt (sK b) 0] [.vec 76 7 n5 J6 l] (.tup []) [.vec 76 7 n5 J6 (l.set k (nZ b op n (l.getD k n5)))]:=by
  have wf:IntKind.i64.wrap ((l.getD k n5).front+n)=(l.getD k n5).front+n:=C7 _ va5 va5;have wg:IntKind.i64.wrap (b.y9+(l.getD k n5).len)=b.y9+(l.getD k n5).len:=C7 _ va5 va5;have eM:nZ b op n (l.getD k n5)=⟨(l.getD k n5).id,IntKind.i64.wrap ((l.getD k n5).front+n),(l.getD k n5).len,(l.getD k n5).o6,(l.getD k n5).due,(l.getD k n5).seq,(l.getD k n5).out || (op && (decide (b.y9<=IntKind.i64.wrap ((l.getD k n5).front+n)) && decide ((l.getD k n5).front<=IntKind.i64.wrap (b.y9+(l.getD k n5).len))))⟩:=by
    unfold nZ;rw[wf,wg]
  rw[eM];clear eM;refine pW Tryz.func220 ⟨va4,?_⟩;conv=>whnf
  refine vc0 ?_;(repeat intro hh);refine⟨⟨(l.getD k n5).id,IntKind.i64.wrap ((l.getD k n5).front+n),(l.getD k n5).len,(l.getD k n5).o6,(l.getD k n5).due,(l.getD k n5).seq,(l.getD k n5).out⟩,rfl,hk,?_⟩;generalize hL:l.set k ⟨(l.getD k n5).id,IntKind.i64.wrap ((l.getD k n5).front+n),(l.getD k n5).len,(l.getD k n5).o6,(l.getD k n5).due,(l.getD k n5).seq,(l.getD k n5).out⟩=L;have hg:L.getD k n5=⟨(l.getD k n5).id,IntKind.i64.wrap ((l.getD k n5).front+n),(l.getD k n5).len,(l.getD k n5).o6,(l.getD k n5).due,(l.getD k n5).seq,(l.getD k n5).out⟩:=by rw[<- hL];exact V3 hk
  have XV:k<L.length:=by rw[<- hL,List.length_set];exact hk
  conv=>whnf
  (repeat' ((first|refine va0 (fun hh=>?_) fun hh=>?_|refine kT ?_|fail)<;>first|exact hh.elim|conv=>whnf));all_goals first
    | (refine⟨⟨(L.getD k n5).id,(L.getD k n5).front,(L.getD k n5).len,(L.getD k n5).o6,(L.getD k n5).due,(L.getD k n5).seq,true⟩,rfl,XV,?_⟩
       conv=>whnf
       refine⟨va4,?_⟩;conv=>whnf
       refine⟨[],va4,?_⟩;conv=>whnf
       refine⟨rfl,?_⟩;refine congrArg (fun z=>[Row.vec 76 7 n5 J6 z]) (a₁:=L.set k _) ?_;rw[<- hL,List.set_set];simp only[hg]at *
       clear wf wg hb hf hL;generalize l.getD k n5=x at *
       simp[*])
    | (refine⟨⟨(L.getD k n5).id,(L.getD k n5).front,(L.getD k n5).len,(L.getD k n5).o6,(L.getD k n5).due,(L.getD k n5).seq,decide ((l.getD k n5).front<=IntKind.i64.wrap (b.y9+(L.getD k n5).len))⟩,rfl,XV,?_⟩
       conv=>whnf
       refine⟨va4,?_⟩;conv=>whnf
       refine⟨[],va4,?_⟩;conv=>whnf
       refine⟨rfl,?_⟩;refine congrArg (fun z=>[Row.vec 76 7 n5 J6 z]) (a₁:=L.set k _) ?_;rw[<- hL,List.set_set];simp only[hg]at *
       clear wf wg hb hf hL;generalize l.getD k n5=x at *
       simp[*])
    | (refine⟨⟨(L.getD k n5).id,(L.getD k n5).front,(L.getD k n5).len,(L.getD k n5).o6,(L.getD k n5).due,(L.getD k n5).seq,false⟩,rfl,XV,?_⟩
       conv=>whnf
       refine⟨va4,?_⟩;conv=>whnf
       refine⟨[],va4,?_⟩;conv=>whnf
       refine⟨rfl,?_⟩;refine congrArg (fun z=>[Row.vec 76 7 n5 J6 z]) (a₁:=L.set k _) ?_;rw[<- hL,List.set_set];simp only[hg]at *
       clear wf wg hb hf hL;generalize l.getD k n5=x at *
       simp[*])
   
theorem Bs(l:List B6)(hl:l.length<=32)(kind j8 a7 n j9:Int)(gauge:x8)(tru a8:List Int)(op:Bool)(b:G3)(hb:∀ i,i<l.length->(1<=b.y9/\b.y9<=1000000)/\(0<=(l.getD i n5).len/\(l.getD i n5).len<=1000000))(hf:∀ i,i<l.length->(0<=(l.getD i n5).front/\(l.getD i n5).front<=4000002000)/\(0<=n/\n<=100000)) :
  va7 219 [ua l,.fn (.func 220) [] [.pt (UK kind j8 a7 n j9 gauge tru a8) 0,.pt [.bool op] 0,.pt (sK b) 0]] [] (.own 0) [.vec 76 7 n5 J6 (l.map (nZ b op n))]:=by
 refine pW Tryz.func219 ⟨va4,?_⟩;conv=>whnf
 (refine va2 [] [8] ?_;(conv=>whnf);refine va3 [] (sW l va5) ?_);conv=>whnf
 refine Or.inr ⟨Nat,[11],[8],[],fun k=>[i64 k],fun k=>[.vec 76 7 n5 J6 (LM (nZ b op n) l k)],fun _=>[],fun k=>l.length-k,fun k=>k<=l.length,?_⟩;conv=>whnf
 refine⟨⟨0,?_⟩,?_⟩
 ·(conv=>whnf);exact kK ⟨zB4 _,rfl,rfl,rfl⟩
 intro k hk;conv=>whnf
 refine⟨fun h=>?_,fun h=>?_⟩
 ·have h:=zA1 h;have L7:k<l.length:=by omega
  have ln:=OT (nZ b op n) l k;have g:=LN (nZ b op n) (d:=n5) L7;have st:=OU (nZ b op n) (d:=n5) L7;have c:=OW (LM (nZ b op n) l k) k va5 kind j8 a7 n j9 gauge tru a8 op b (by rw[g];exact hb k L7) (by rw[g];exact hf k L7);rw[g,st]at c;conv=>whnf
  refine vc0 ?_;(repeat intro hh);(refine va2 [] [] ?_;(conv=>whnf);refine va3 [8] c ?_);conv=>whnf
  refine⟨k+1,?_⟩;conv=>whnf
  refine kK ⟨⟨?_,?_⟩,?_,rfl,rfl⟩
  ·show l.length-(k+1)<l.length-k;omega
  ·show k+1<=l.length;omega
  ·rw[C7 _ va5 va5];rfl
 ·have h:=zA0 h;obtain rfl:k=l.length:=by omega
  rw[OV];conv=>whnf
  refine⟨[8],va4,?_⟩;conv=>whnf
  exact⟨rfl,rfl⟩
theorem OX(x:B6)(f:km)(h:x.id=f.id):va6 222 [.agg (J6 x),.pt (AG f) 0] (.bool true):=by
 have e:AV.bool (decide (x.id=f.id)) = .bool true:=by rw[zA4 h]
 rw[<- e];refine pF Tryz.func222 ?_;conv=>whnf
 try exact va1
 all_goals rfl
theorem OY(l:List B6)(hl:l.length<=32)(h0:0<l.length)(f:km)(h:(l.getD 0 n5).id=f.id):va6 221 [ua l,.fn (.func 222) [] [.pt (AG f) 0]] (i64 0):=by
 have c:=OX (l.getD 0 n5) f h;refine pF Tryz.func221 ?_;conv=>whnf
 refine Or.inl ⟨1,?_⟩;conv=>whnf
 try exact rt
 all_goals rfl
def XW:Go.Shelf.Ren:=⟨fun n=>match n with|45=>223|n=>n,fun t=>match t with|22=>40|23=>76|t=>t,fun n=>n⟩
theorem UX:Go.Proofs.SlLaysE0.n45 Tryz.prog XW where
 mixed:=hm
 f45:=⟨"slices.Delete[[]sightbench/api.Thing,sightbench/api.Thing]",by kernel_rfl,by kernel_rfl⟩
 t0:=by kernel_rfl
 a0:=fun w=>by kernel_rfl
 z0:=fun w=>by kernel_rfl
 v0:=fun w=>by kernel_rfl
 t3:=by kernel_rfl
 a3:=fun w=>by kernel_rfl
 z3:=fun w=>by kernel_rfl
 v3:=fun w=>by kernel_rfl
 t4:=by kernel_rfl
 a4:=fun w=>by kernel_rfl
 z4:=fun w=>by kernel_rfl
 v4:=fun w=>by kernel_rfl
 t22:=by kernel_rfl
 a22:=fun w=>by kernel_rfl
 z22:=fun w=>by kernel_rfl
 v22:=fun w=>by kernel_rfl
theorem LO(l:List B6)(h0:0<l.length):va7 223 [.own 0,i64 0,i64 1] [.vec 76 7 n5 J6 l] (.own 1) [.none,.vec 76 7 n5 J6 (l.drop 1)] :=
 CR UX Tryz.func223 va4 rfl (fun w=>by kernel_rfl) ((Tryz.prog.info? 76).get va4) va4 va4 (.agg #[.int .i64 0,.int .i64 0,.int .i64 0,.int .u8 0,.int .i64 0,.int .i64 0,.bool false]) (fun w=>by kernel_rfl) va4 (fun v hv=>by
  have h:v ∈ [Value.int .i64 0,.int .i64 0,.int .i64 0,.int .u8 0,.int .i64 0,.int .i64 0,.bool false]:=hv;simp only[List.mem_cons,List.not_mem_nil,or_false]at h;rcases h with h|h|h|h|h|h|h<;>rw[h]<;>rfl) 76 n5 J6 (fun y j hj=>by
  match j,hj with
  | 0,_=>rfl
  | 1,_=>rfl
  | 2,_=>rfl
  | 3,_=>rfl
  | 4,_=>rfl
  | 5,_=>rfl
  | 6,_=>rfl) l 0 h0
theorem DS(w:n9)(g:I6 w)(kind j8 a7 n j9:Int)(gauge:x8)(tru a8:List Int)(h:¬ir w n=0):va7 169 [.ptr 0 0 0 0,Q2 kind j8 a7 n j9 gauge tru a8] (H0 w) (.tup [i64 0,.nils,i64 (ir w n)]) (H0 w):=by
 have bl:=G1.1 g.tk.bl;rw[g.bl]at bl;have wa:IntKind.i64.wrap (w.line.n8.step-w.line.n8.A0)=w.line.n8.step-w.line.n8.A0:=C7 _ va5 va5;have wb:IntKind.i64.wrap (w.line.n8.step+w.line.n8.A0)=w.line.n8.step+w.line.n8.A0:=C7 _ va5 va5;have c1:=Q8 (IntKind.i64.wrap (w.line.n8.step-w.line.n8.A0)) (IntKind.i64.wrap (w.line.n8.step+w.line.n8.A0)) n;by_cases h1:w.line.n8.step-w.line.n8.A0<=n/\n<=w.line.n8.step+w.line.n8.A0
 ·have e1:(decide (IntKind.i64.wrap (w.line.n8.step-w.line.n8.A0)<=n) && decide (n<=IntKind.i64.wrap (w.line.n8.step+w.line.n8.A0)))=true:=by rw[wa,wb,zA4 h1.1,zA4 h1.2];rfl
  rw[e1]at c1;by_cases h2:w.o8.count=1099511627776
  ·have er:ir w n=9:=by unfold ir;rw[if_neg (fun q=>q h1),if_pos h2]
   rw[er];refine pW Tryz.func169 ⟨va4,?_⟩;conv=>whnf
   try exact va1
  ·exact absurd (by unfold ir;rw[if_neg (fun q=>q h1),if_neg h2]) h
 ·have er:ir w n=2:=by unfold ir;rw[if_pos h1]
  have e1:(decide (IntKind.i64.wrap (w.line.n8.step-w.line.n8.A0)<=n) && decide (n<=IntKind.i64.wrap (w.line.n8.step+w.line.n8.A0)))=false:=by
   rw[wa,wb,<- Bool.decide_and,zA5 h1]
  rw[e1]at c1;rw[er];refine pW Tryz.func169 ⟨va4,?_⟩;conv=>whnf
  try exact va1
theorem DT(w:n9)(g:I6 w)(kind j8 a7 n j9:Int)(gauge:x8)(tru a8:List Int)(h:ir w n=0)(hg:¬N2 (v8 w)=true):va7 169 [.ptr 0 0 0 0,Q2 kind j8 a7 n j9 gauge tru a8] (H0 w) (.tup [i64 ((v8 w).count+1),.nils,i64 0]) (yg ⟨w.line,gP (v8 w),w.l9,w.drift,moved w n⟩):=by
 obtain⟨h1,h2⟩:=fQ h;obtain⟨gt,sm⟩:=ak g;obtain⟨k1,k2,k3,k4,k5⟩:=sm;have Pv:w.n6.length<=32:=by rw[g.lt];exact g.tk.ln
 have ct:=g.tk.ct;have bl:=G1.1 g.tk.bl;rw[g.bl]at bl;have wa:IntKind.i64.wrap (w.line.n8.step-w.line.n8.A0)=w.line.n8.step-w.line.n8.A0:=C7 _ va5 va5;have wb:IntKind.i64.wrap (w.line.n8.step+w.line.n8.A0)=w.line.n8.step+w.line.n8.A0:=C7 _ va5 va5;have c1:=Q8 (IntKind.i64.wrap (w.line.n8.step-w.line.n8.A0)) (IntKind.i64.wrap (w.line.n8.step+w.line.n8.A0)) n;have e1:(decide (IntKind.i64.wrap (w.line.n8.step-w.line.n8.A0)<=n) && decide (n<=IntKind.i64.wrap (w.line.n8.step+w.line.n8.A0)))=true:=by rw[wa,wb,zA4 h1.1,zA4 h1.2];rfl
 rw[e1]at c1;have c2:=Bq w g;have c3:=Fx (v8 w) (L3.2 gt);have c4:=sY (v8 w) (L3.2 gt) va5;have c5:=Bs w.n6 Pv kind j8 a7 n j9 gauge tru a8 (cH (v8 w) ((v8 w).count+1)) w.line.n8 (fun i hi=>⟨bl.2.2.1,by have:=(g.th i hi).2.1;omega,by have:=(g.th i hi).2.1;omega⟩) (fun i hi=>⟨AQ g hi,va5,va5⟩);have em:w.n6.map (nZ w.line.n8 (cH (v8 w) ((v8 w).count+1)) n)=moved w n:=by unfold moved;rw[k2]
 rw[em]at c5;have lm:=W6 w n;have af:nX (v8 w)=[]:=by unfold nX;rw[if_neg hg]
 rw[af]at c4;refine pW Tryz.func169 ⟨va4,?_⟩;conv=>whnf
 refine vb7 ?_;(repeat intro hh);(refine va2 [] [] ?_;(conv=>whnf);refine va3 [147,148] c2 ?_);conv=>whnf
 refine vb7 ?_;(repeat intro hh);(refine Or.inr ⟨[148 ],[89],va4,?_⟩;(conv=>whnf);refine⟨[],_,_,_,_,⟨c5,rfl,rfl,va4⟩,?_⟩);conv=>whnf
 refine vb8 ?_;(repeat intro hh);refine Or.inl ⟨1,?_⟩;conv=>whnf
 refine vb4 ?_;(repeat intro hh);refine⟨[89],va4,?_⟩;conv=>whnf
 exact⟨rfl,rfl⟩
theorem DU(w:n9)(g:I6 w)(kind j8 a7 n j9:Int)(gauge:x8)(tru a8:List Int)(h:ir w n=0)(hg:N2 (v8 w)=true):va7 169 [.ptr 0 0 0 0,Q2 kind j8 a7 n j9 gauge tru a8] (H0 w) (.tup [i64 ((v8 w).count+1),.own 3,i64 0]) [.cells 154 ((eW ⟨w.line,gP (v8 w),w.l9,w.drift,(moved w n).drop 1⟩).set 25 (.own 2)),.none,.vec 76 7 n5 J6 ((moved w n).drop 1),.vec 83 5 K4 bE (aH w n)]:=by
 obtain⟨h1,h2⟩:=fQ h;obtain⟨gt,sm⟩:=ak g;obtain⟨k1,k2,k3,k4,k5⟩:=sm;have Pv:w.n6.length<=32:=by rw[g.lt];exact g.tk.ln
 have ct:=g.tk.ct;have bl:=G1.1 g.tk.bl;rw[g.bl]at bl;have wa:IntKind.i64.wrap (w.line.n8.step-w.line.n8.A0)=w.line.n8.step-w.line.n8.A0:=C7 _ va5 va5;have wb:IntKind.i64.wrap (w.line.n8.step+w.line.n8.A0)=w.line.n8.step+w.line.n8.A0:=C7 _ va5 va5;have c1:=Q8 (IntKind.i64.wrap (w.line.n8.step-w.line.n8.A0)) (IntKind.i64.wrap (w.line.n8.step+w.line.n8.A0)) n;have e1:(decide (IntKind.i64.wrap (w.line.n8.step-w.line.n8.A0)<=n) && decide (n<=IntKind.i64.wrap (w.line.n8.step+w.line.n8.A0)))=true:=by rw[wa,wb,zA4 h1.1,zA4 h1.2];rfl
 rw[e1]at c1;have c2:=Bq w g;have c3:=Fx (v8 w) (L3.2 gt);have c4:=sY (v8 w) (L3.2 gt) va5;have c5:=Bs w.n6 Pv kind j8 a7 n j9 gauge tru a8 (cH (v8 w) ((v8 w).count+1)) w.line.n8 (fun i hi=>⟨bl.2.2.1,by have:=(g.th i hi).2.1;omega,by have:=(g.th i hi).2.1;omega⟩) (fun i hi=>⟨AQ g hi,va5,va5⟩);have em:w.n6.map (nZ w.line.n8 (cH (v8 w) ((v8 w).count+1)) n)=moved w n:=by unfold moved;rw[k2]
 rw[em]at c5;have lm:=W6 w n;have af:nX (v8 w)=[ja ((hits (v8 w)).getD 0 n4)]:=by unfold nX;rw[if_pos hg]
 rw[af]at c4;have Us:0<w.n6.length:=by
  unfold N2 at hg;have:=(zA1 hg).1;rw[g.lt,<- k4];exact this
 have h0:0<(moved w n).length:=by omega
 have JU:((moved w n).getD 0 n5).id=(ja ((hits (v8 w)).getD 0 n4)).id:=by
  show _=((hits (v8 w)).getD 0 n4).id
  rw[gQ Us,bI _ _ (by rw[k4,<- g.lt];exact Us)];show(w.n6.getD 0 n5).id=((v8 w).k9.getD 0 n4).id
  rw[(k5 0).1,(g.th 0 Us).1]
 have eO:aH w n=[⟨((moved w n).getD 0 n5).id,((moved w n).getD 0 n5).seq,(ja ((hits (v8 w)).getD 0 n4)).o6,(ja ((hits (v8 w)).getD 0 n4)).hit,((moved w n).getD 0 n5).out⟩]:=by
  unfold aH Rv;rw[if_pos hg]
 rw[eO];generalize ja ((hits (v8 w)).getD 0 n4)=f0 at c4 JU;generalize moved w n=mv at c5 JU h0 lm;have ci:=OY mv va5 h0 f0 JU;have cd:=LO mv h0;refine pW Tryz.func169 ⟨va4,?_⟩;conv=>whnf
 refine vb7 ?_;(repeat intro hh);(refine va2 [] [] ?_;(conv=>whnf);refine va3 [147,148] c2 ?_);conv=>whnf
 refine vb7 ?_;(repeat intro hh);(refine Or.inr ⟨[148 ],[89],va4,?_⟩;(conv=>whnf);refine⟨[],_,_,_,_,⟨c5,rfl,rfl,va4⟩,?_⟩);conv=>whnf
 refine vb8 ?_;(repeat intro hh);refine Or.inl ⟨2,?_⟩;conv=>whnf
 refine vb4 ?_;(repeat intro hh);refine vb9 ?_;(repeat intro hh);refine⟨⟨V5,5,K4,bE,[]⟩,[⟨(mv.getD 0 n5).id,(mv.getD 0 n5).seq,f0.o6,f0.hit,(mv.getD 0 n5).out⟩],rfl,rfl,⟨rfl,rfl⟩,?_,?_,fun y _=>⟨rfl,rfl,rfl⟩,?_⟩
 ·show(0+1)*24<=1099511627776;decide
 ·show 0+1<=1099511627776;decide
 refine vc0 ?_;(repeat intro hh);(refine va2 [] [139] ?_;(conv=>whnf);refine va3 [89] cd ?_);conv=>whnf
 refine vb4 ?_;(repeat intro hh);refine⟨[139,129],va4,?_⟩;conv=>whnf
 exact⟨rfl,rfl⟩
theorem Ic(w:n9)(g:I6 w)(kind j8 a7 n j9:Int)(gauge:x8)(tru a8:List Int)(h:ir w n=0):va7 169 [.ptr 0 0 0 0,Q2 kind j8 a7 n j9 gauge tru a8] (H0 w) (.tup [i64 (w.o8.count+1),n7 (aH w n),i64 0]) (yg (X4 w n)):=by
 have k2:=(ak g).2.2.1;rw[<- k2];by_cases hg:N2 (v8 w)=true
 ·have c:va7 169 [.ptr 0 0 0 0,Q2 kind j8 a7 n j9 gauge tru a8] (H0 w) (.tup [i64 ((v8 w).count+1),n7 (aH w n),i64 0]) (yg ⟨w.line,gP (v8 w),w.l9,w.drift,(moved w n).drop 1⟩) :=
   ((DU w g kind j8 a7 n j9 gauge tru a8 h hg).shut 3 6 rfl).rows fun k=>by
    match k with
    | 0=>rfl
    | 1=>rfl
    | 2=>rfl
    | 3=>rfl
    | (k+4)=>rfl
  have e:X4 w n=⟨w.line,gP (v8 w),w.l9,w.drift,(moved w n).drop 1⟩:=by unfold X4;rw[if_pos hg]
  rw[e];exact c
 ·have c:=DT w g kind j8 a7 n j9 gauge tru a8 h hg;have e:X4 w n=⟨w.line,gP (v8 w),w.l9,w.drift,moved w n⟩:=by unfold X4;rw[if_neg hg]
  have eO:aH w n=[]:=by unfold aH;rw[if_neg hg]
  rw[e,eO];refine c.sub ?_;refine(nB (xs:=[i64 ((v8 w).count+1),.nils,i64 0]) (ys:=[i64 ((v8 w).count+1),n7 [],i64 0]) rfl fun i hi=>?_).2
  match i with
  | 0=>exact .refl _
  | 1=>exact .nils _ _ _
  | 2=>exact .refl _
  | (k+3)=>exact .refl _

end Go.Proofs.Tryz.My
