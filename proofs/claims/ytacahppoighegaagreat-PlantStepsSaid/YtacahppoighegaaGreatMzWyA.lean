/- Helper lemmas. -/
import Derived.Test.YtacahppoighegaaGreatMzWxB
import Derived.Test.YtacahppoighegaaGreatMzWjA
set_option linter.unusedVariables false
set_option linter.unusedSimpArgs false
set_option maxRecDepth 100000
set_option maxHeartbeats 0
namespace Go.Proofs.Tryz.My
open Go Go.Ev
theorem vB(l:List B7)(hl:l.length<2^20):va7 32 [JJ l] [] (.own 0) [.vec 67 7 l5 B4 l]:=by
 refine u4 hm Tryz.func32 va4 ⟨va4,vb3 ?_⟩;refine Or.inl (vb3 ?_);intro b hb;conv=>whnf
 refine⟨fun h=>?_,fun h=>?_⟩
 ·(conv=>whnf);refine Or.inr ⟨va4,.vec 67 7 l5 B4 [],rfl,vb3 ?_⟩;refine⟨[2],va4,vb3 ?_⟩;rw[hb h];exact⟨rfl,rfl⟩
 conv=>whnf
 refine⟨⟨B7,7,l5,B4,[]⟩,l,rfl,⟨rfl,rfl⟩,rfl,?_,?_,fun y _=>⟨rfl,rfl,rfl⟩,?_⟩
 ·show(0+l.length)*56<=_;omega
 ·show 0+l.length<=_;omega
 conv=>whnf
 refine⟨[7],va4,vb3 ?_⟩;exact⟨rfl,rfl⟩
theorem Gb(l:List u6)(hl:l.length<2^20):va7 31 [bE l] [] (.own 0) [.vec 69 4 l9 C2 l]:=by
 refine u4 hm Tryz.func31 va4 ⟨va4,vb3 ?_⟩;refine Or.inl (vb3 ?_);intro b hb;conv=>whnf
 refine⟨fun h=>?_,fun h=>?_⟩
 ·(conv=>whnf);refine Or.inr ⟨va4,.vec 69 4 l9 C2 [],rfl,vb3 ?_⟩;refine⟨[2],va4,vb3 ?_⟩;rw[hb h];exact⟨rfl,rfl⟩
 conv=>whnf
 refine⟨⟨u6,4,l9,C2,[]⟩,l,rfl,⟨rfl,rfl⟩,rfl,?_,?_,fun y _=>⟨rfl,rfl,rfl⟩,?_⟩
 ·show(0+l.length)*24<=_;omega
 ·show 0+l.length<=_;omega
 conv=>whnf
 refine⟨[7],va4,vb3 ?_⟩;exact⟨rfl,rfl⟩
theorem Gc(l:List D1)(hl:l.length<2^20):va7 60 [uq l] [] (.own 0) [.vec 92 13 p9 bX l]:=by
 refine u4 hm Tryz.func60 va4 ⟨va4,vb3 ?_⟩;refine Or.inl (vb3 ?_);intro b hb;conv=>whnf
 refine⟨fun h=>?_,fun h=>?_⟩
 ·(conv=>whnf);refine Or.inr ⟨va4,.vec 92 13 p9 bX [],rfl,vb3 ?_⟩;refine⟨[2],va4,vb3 ?_⟩;rw[hb h];exact⟨rfl,rfl⟩
 conv=>whnf
 refine⟨⟨D1,13,p9,bX,[]⟩,l,rfl,⟨rfl,rfl⟩,rfl,?_,?_,fun y _=>⟨rfl,rfl,rfl⟩,?_⟩
 ·show(0+l.length)*120<=_;omega
 ·show 0+l.length<=_;omega
 conv=>whnf
 refine⟨[7],va4,vb3 ?_⟩;exact⟨rfl,rfl⟩
theorem Gd(l:List A2)(hl:l.length<2^20):va7 61 [od l] [] (.own 0) [.vec 71 6 s9 K6 l]:=by
 refine u4 hm Tryz.func61 va4 ⟨va4,vb3 ?_⟩;refine Or.inl (vb3 ?_);intro b hb;conv=>whnf
 refine⟨fun h=>?_,fun h=>?_⟩
 ·(conv=>whnf);refine Or.inr ⟨va4,.vec 71 6 s9 K6 [],rfl,vb3 ?_⟩;refine⟨[2],va4,vb3 ?_⟩;rw[hb h];exact⟨rfl,rfl⟩
 conv=>whnf
 refine⟨⟨A2,6,s9,K6,[]⟩,l,rfl,⟨rfl,rfl⟩,rfl,?_,?_,fun y _=>⟨rfl,rfl,rfl⟩,?_⟩
 ·show(0+l.length)*56<=_;omega
 ·show 0+l.length<=_;omega
 conv=>whnf
 refine⟨[7],va4,vb3 ?_⟩;exact⟨rfl,rfl⟩
theorem Kz(l:List D1)(k:Nat)(hk:k<l.length)(ha:(l.getD k p9).y7.length<2^20):va7 35 [.ptr 0 13 k 0] [.vec 92 13 p9 bX l] (.tup []) [.vec 92 13 p9 bX l]:=by
 have c:va6 36 [A9 (l.getD k p9).y7] (A9 (l.getD k p9).y7):=(aI (l.getD k p9).y7 ha).toPC 6 va4;refine vb5 Tryz.func35 ?_;refine vf0 ?_;intros;refine⟨l.getD k p9,rfl,hk,vb3 ?_⟩;refine⟨[],va4,vb3 ?_⟩;refine⟨rfl,?_⟩;rw[N7];rfl
theorem ON(l:List D1)(hl:l.length<2^20)(ha:∀ i,(l.getD i p9).y7.length<2^20):va6 34 [uq l,.fn (.func 35) [] []] (uq l):=by
 refine vb4 Tryz.func34 ?_;refine va2 [] [8] (vb3 ?_);refine va3 [] (Gc l hl) (vb3 ?_);refine Or.inr ⟨Nat,[11],[8],[],fun k=>[i64 k],fun _=>[.vec 92 13 p9 bX l],fun _=>[],fun k=>l.length-k,fun k=>k<=l.length,vb3 ?_⟩;refine⟨⟨0,?_⟩,?_⟩
 ·(conv=>whnf);exact kK ⟨zB4 _,rfl,rfl,rfl⟩
 intro k hk;conv=>whnf
 refine⟨fun h=>?_,fun h=>?_⟩
 ·have h:=zA1 h;have L4:k<l.length:=by omega
  conv=>whnf
  refine vf2 ?_;intros;refine va2 [] [] (vb3 ?_);refine va3 [8] (Kz l k L4 (ha k)) (vb3 ?_);refine⟨k+1,vb3 ?_⟩;refine kK ⟨⟨?_,?_⟩,?_,rfl,rfl⟩
  ·show l.length-(k+1)<l.length-k;omega
  ·show k+1<=l.length;omega
  ·rw[z5 _ va5 va5];rfl
 ·(conv=>whnf);try rfl
abbrev I2(kind k7 a7 n n4:Int)(j9:v7)(o8 a8:List Int):AV := .agg [u8 kind,i64 k7,i64 a7,i64 n,u8 n4,i64 (G2 j9),i64 (E7 j9),i64 (I6 j9).1.1,i64 (I6 j9).1.2,i64 (I6 j9).2.1,i64 (I6 j9).2.2,i64 j9.1.2.1,i64 j9.1.2.2,i64 j9.2.1,i64 j9.2.2,A9 o8,A9 a8]
abbrev YN(kind k7 a7 n n4:Int)(j9:v7)(o8 a8:List Int):List AV:=[u8 kind,i64 k7,i64 a7,i64 n,u8 n4,i64 (G2 j9),i64 (E7 j9),i64 (I6 j9).1.1,i64 (I6 j9).1.2,i64 (I6 j9).2.1,i64 (I6 j9).2.2,i64 j9.1.2.1,i64 j9.1.2.2,i64 j9.2.1,i64 j9.2.2,A9 o8,A9 a8]
abbrev dkC(w:n8):List AV:=(eW w).set 25 (.own 1)
def DB(w:n8):List Row:=[.cells 81 (dkC w),.vec 67 7 l5 B4 w.k8]
theorem yu:va6 117 [] (.agg (dw fj)):=by
 refine Oj.sub rfl (fun i hi=>absurd hi (zB3 i)) (cS (xs:=[i64 0,i64 0,.ff]) (ys:=dw fj) rfl fun i hi=>?_).1
 match i with
 | 0=>exact .refl _
 | 1=>exact .refl _
 | 2=>exact FC
 | (n+3)=>exact .refl _
theorem kz(p n:List Int)(h:fg p n):va6 114 [A9 p,A9 n] (.tup [A9 (K8 p n),i64 0]):=(FJ p n h).toPC 6 va4
def OO{α:Type}(f:α->α)(l:List α)(k:Nat):List α:=(l.take k).map f++l.drop k
theorem RZ{α:Type}(f:α->α)(l:List α)(k:Nat):(OO f l k).length=l.length:=by
 unfold OO;rw[List.length_append,List.length_map,zB1,List.length_drop];omega
theorem OP{α:Type}(f:α->α){l:List α}{d:α}{k:Nat}(hk:k<l.length):(OO f l k).getD k d=l.getD k d:=by
 have h:((l.take k).map f).length=k:=by rw[List.length_map,zB1];omega
 unfold OO;simp only[List.getD];rw[List.getElem?_append_right va5,h,List.getElem?_drop];simp
theorem Sa{α:Type}(f:α->α){l:List α}{d:α}{k:Nat}(hk:k<l.length):(OO f l k).set k (f (l.getD k d))=OO f l (k+1):=by
 have h:((l.take k).map f).length=k:=by rw[List.length_map,zB1];omega
 unfold OO;rw[List.set_append_right _ _ va5,h,Nat.sub_self,List.take_add_one,zA6 hk,List.map_append,List.append_assoc,A6 hk,List.drop_eq_getElem_cons hk];rfl
theorem Sb{α:Type}(f:α->α)(l:List α):OO f l l.length=l.map f:=by
 unfold OO;rw[List.take_length,List.drop_length,List.append_nil]
theorem Sc(l:List B7)(k:Nat)(hk:k<l.length)(kind k7 a7 n n4:Int)(j9:v7)(o8 a8:List Int)(op:Bool)(b:H2)(hb:(1<=b.w9/\b.w9<=1000000)/\(0<=(l.getD k l5).len/\(l.getD k l5).len<=1000000))(hf:(0<=(l.getD k l5).front/\(l.getD k l5).front<=4000002000)/\(0<=n/\n<=100000)) :
    va7 110 [.ptr 0 7 k 0,.pt (YN kind k7 a7 n n4 j9 o8 a8) 0,.pt [.bool op] 0,.pt (uM b) 0] [.vec 67 7 l5 B4 l] (.tup []) [.vec 67 7 l5 B4 (l.set k (dy b op n (l.getD k l5)))]:=by
  have wf:IntKind.i64.wrap ((l.getD k l5).front+n)=(l.getD k l5).front+n:=z5 _ va5 va5;have wg:IntKind.i64.wrap (b.w9+(l.getD k l5).len)=b.w9+(l.getD k l5).len:=z5 _ va5 va5;have eM:dy b op n (l.getD k l5)=⟨(l.getD k l5).id,IntKind.i64.wrap ((l.getD k l5).front+n),(l.getD k l5).len,(l.getD k l5).o5,(l.getD k l5).due,(l.getD k l5).seq,(l.getD k l5).out || (op && (decide (b.w9<=IntKind.i64.wrap ((l.getD k l5).front+n)) && decide ((l.getD k l5).front<=IntKind.i64.wrap (b.w9+(l.getD k l5).len))))⟩:=by
    unfold dy;rw[wf,wg]
  rw[eM];clear eM;refine vb5 Tryz.func110 ?_;refine vf2 ?_;intros;refine⟨⟨(l.getD k l5).id,IntKind.i64.wrap ((l.getD k l5).front+n),(l.getD k l5).len,(l.getD k l5).o5,(l.getD k l5).due,(l.getD k l5).seq,(l.getD k l5).out⟩,rfl,hk,?_⟩;generalize hL:l.set k ⟨(l.getD k l5).id,IntKind.i64.wrap ((l.getD k l5).front+n),(l.getD k l5).len,(l.getD k l5).o5,(l.getD k l5).due,(l.getD k l5).seq,(l.getD k l5).out⟩=L;have hg:L.getD k l5=⟨(l.getD k l5).id,IntKind.i64.wrap ((l.getD k l5).front+n),(l.getD k l5).len,(l.getD k l5).o5,(l.getD k l5).due,(l.getD k l5).seq,(l.getD k l5).out⟩:=by rw[<- hL];exact aM hk
  have hkL:k<L.length:=by rw[<- hL,List.length_set];exact hk
  conv=>whnf
  refine vf5 ?_ ?_ ?_ ?_<;>intros
  all_goals first
    | (refine⟨⟨(L.getD k l5).id,(L.getD k l5).front,(L.getD k l5).len,(L.getD k l5).o5,(L.getD k l5).due,(L.getD k l5).seq,true⟩,rfl,hkL,?_⟩
       conv=>whnf
       refine⟨va4,vb3 ?_⟩;refine⟨[],va4,vb3 ?_⟩;refine⟨rfl,?_⟩;refine congrArg (fun z=>[Row.vec 67 7 l5 B4 z]) (a₁:=L.set k _) ?_;rw[<- hL,List.set_set];simp only[hg]at *
       clear wf wg hb hf hL;generalize l.getD k l5=x at *
       simp[*])
    | (refine⟨⟨(L.getD k l5).id,(L.getD k l5).front,(L.getD k l5).len,(L.getD k l5).o5,(L.getD k l5).due,(L.getD k l5).seq,decide ((l.getD k l5).front<=IntKind.i64.wrap (b.w9+(L.getD k l5).len))⟩,rfl,hkL,?_⟩
       conv=>whnf
       refine⟨va4,vb3 ?_⟩;refine⟨[],va4,vb3 ?_⟩;refine⟨rfl,?_⟩;refine congrArg (fun z=>[Row.vec 67 7 l5 B4 z]) (a₁:=L.set k _) ?_;rw[<- hL,List.set_set];simp only[hg]at *
       clear wf wg hb hf hL;generalize l.getD k l5=x at *
       simp[*])
    | (refine⟨⟨(L.getD k l5).id,(L.getD k l5).front,(L.getD k l5).len,(L.getD k l5).o5,(L.getD k l5).due,(L.getD k l5).seq,false⟩,rfl,hkL,?_⟩
       conv=>whnf
       refine⟨va4,vb3 ?_⟩;refine⟨[],va4,vb3 ?_⟩;refine⟨rfl,?_⟩;refine congrArg (fun z=>[Row.vec 67 7 l5 B4 z]) (a₁:=L.set k _) ?_;rw[<- hL,List.set_set];simp only[hg]at *
       clear wf wg hb hf hL;generalize l.getD k l5=x at *
       simp[*])
   
theorem vC(l:List B7)(hl:l.length<=32)(kind k7 a7 n n4:Int)(j9:v7)(o8 a8:List Int)(op:Bool)(b:H2)(hb:∀ i,i<l.length->(1<=b.w9/\b.w9<=1000000)/\(0<=(l.getD i l5).len/\(l.getD i l5).len<=1000000))(hf:∀ i,i<l.length->(0<=(l.getD i l5).front/\(l.getD i l5).front<=4000002000)/\(0<=n/\n<=100000)) :
  va7 109 [JJ l,.fn (.func 110) [] [.pt (YN kind k7 a7 n n4 j9 o8 a8) 0,.pt [.bool op] 0,.pt (uM b) 0]] [] (.own 0) [.vec 67 7 l5 B4 (l.map (dy b op n))]:=by
 refine vb5 Tryz.func109 ?_;refine va2 [] [8] (vb3 ?_);refine va3 [] (vB l va5) (vb3 ?_);refine Or.inr ⟨Nat,[11],[8],[],fun k=>[i64 k],fun k=>[.vec 67 7 l5 B4 (OO (dy b op n) l k)],fun _=>[],fun k=>l.length-k,fun k=>k<=l.length,vb3 ?_⟩;refine⟨⟨0,?_⟩,?_⟩
 ·(conv=>whnf);exact kK ⟨zB4 _,rfl,rfl,rfl⟩
 intro k hk;conv=>whnf
 refine⟨fun h=>?_,fun h=>?_⟩
 ·have h:=zA1 h;have L4:k<l.length:=by omega
  have ln:=RZ (dy b op n) l k;have g:=OP (dy b op n) (d:=l5) L4;have st:=Sa (dy b op n) (d:=l5) L4;have c:=Sc (OO (dy b op n) l k) k va5 kind k7 a7 n n4 j9 o8 a8 op b (by rw[g];exact hb k L4) (by rw[g];exact hf k L4);rw[g,st]at c;conv=>whnf
  refine vf2 ?_;intros;refine va2 [] [] (vb3 ?_);refine va3 [8] c (vb3 ?_);refine⟨k+1,vb3 ?_⟩;refine kK ⟨⟨?_,?_⟩,?_,rfl,rfl⟩
  ·show l.length-(k+1)<l.length-k;omega
  ·show k+1<=l.length;omega
  ·rw[z5 _ va5 va5];rfl
 ·have h:=zA0 h;obtain rfl:k=l.length:=by omega
  rw[Sb];conv=>whnf
  refine⟨[8],va4,vb3 ?_⟩;exact⟨rfl,rfl⟩
theorem Sd(x:B7)(f:Z9)(h:x.id=f.id):va6 112 [.agg (B4 x),.pt (aQ f) 0] (.bool true):=by
 have e:AV.bool (decide (x.id=f.id)) = .bool true:=by rw[zA4 h]
 rw[<- e];refine pF Tryz.func112 ?_;conv=>whnf
 try exact va1
 all_goals rfl
theorem Se(l:List B7)(hl:l.length<=32)(h0:0<l.length)(f:Z9)(h:(l.getD 0 l5).id=f.id):va6 111 [JJ l,.fn (.func 112) [] [.pt (aQ f) 0]] (i64 0):=by
 have c:=Sd (l.getD 0 l5) f h;refine vb4 Tryz.func111 ?_;refine Or.inl ⟨1,?_⟩;conv=>whnf
 try exact rt
 all_goals rfl
def a1J:Go.Shelf.Ren:=⟨fun n=>match n with|45=>113|n=>n,fun t=>match t with|22=>40|23=>67|t=>t,fun n=>n⟩
theorem YO:Go.Proofs.SlLaysE0.n45 Tryz.prog a1J where
 mixed:=hm
 f45:=⟨Tryz.f113.name,by kernel_rfl,by kernel_rfl⟩
 t0:=by kernel_rfl
 a0:=fun w=>by kernel_rfl
 z0:=fun w=>by kernel_rfl
 v0:=fun w=>by kernel_rfl
 t3:=by kernel_rfl
 a3:=fun w=>by kernel_rfl
 z3:=fun w=>by kernel_rfl
 v3:=fun w=>by kernel_rfl
 t4:=by kernel_rfl
 a4:=fun w=>by kernel_rfl
 z4:=fun w=>by kernel_rfl
 v4:=fun w=>by kernel_rfl
 t22:=by kernel_rfl
 a22:=fun w=>by kernel_rfl
 z22:=fun w=>by kernel_rfl
 v22:=fun w=>by kernel_rfl
theorem OQ(l:List B7)(h0:0<l.length):va7 113 [.own 0,i64 0,i64 1] [.vec 67 7 l5 B4 l] (.own 1) [.none,.vec 67 7 l5 B4 (l.drop 1)] :=
 ET YO Tryz.func113 va4 rfl (fun w=>by kernel_rfl) ((Tryz.prog.info? 67).get va4) va4 va4 (.agg #[.int .i64 0,.int .i64 0,.int .i64 0,.int .u8 0,.int .i64 0,.int .i64 0,.bool false]) (fun w=>by kernel_rfl) va4 (fun v hv=>by
  have h:v ∈ [Value.int .i64 0,.int .i64 0,.int .i64 0,.int .u8 0,.int .i64 0,.int .i64 0,.bool false]:=hv;simp only[List.mem_cons,List.not_mem_nil,or_false]at h;rcases h with h|h|h|h|h|h|h<;>rw[h]<;>rfl) 67 l5 B4 (fun y j hj=>by
  match j,hj with
  | 0,_=>rfl
  | 1,_=>rfl
  | 2,_=>rfl
  | 3,_=>rfl
  | 4,_=>rfl
  | 5,_=>rfl
  | 6,_=>rfl) l 0 h0
abbrev wkS(w:n8):St:=⟨[],List.replicate 28 .none++(DB w).map (A0 [28,29]),.plain⟩
abbrev wkX(w:n8)(k:Int)(f:FuncId):Prop:=(true=true)/\((0<=k/\k<11)/\∃ news:List Nat,
 (aw ([28,29]++news) && Nat.beq (DB w).length ([28,29]++news).length && (AV.fn (.func f) [.ptr 0 0 0 0] []).under (DB w).length && (DB w).all (D9 (DB w).length))=true /\
 ((AV.fn (.func f) [.ptr 28 0 0 0] [])=(AV.fn (.func f) [.ptr 0 0 0 0] []).ren ([28,29]++news)/\([28,29]++news).map (wkS w).row=(DB w).map (A0 ([28,29]++news))))
theorem OR(w:n8):va7 39 [.ptr 0 0 0 0,u8 2] (DB w) (.fn (.func 63) [.ptr 0 0 0 0] []) (DB w):=by
 have e:J8 Tryz.prog Tryz.f39 [.ptr 0 0 0 0,u8 2] (DB w) (.fn (.func 63) [.ptr 0 0 0 0] []) (DB w)=wkX w 2 63:=by kernel_rfl
 refine u4 hm Tryz.func39 va4 ?_;rw[e];exact⟨rfl,⟨va8,va8⟩,[],va4,rfl,rfl⟩
theorem br(a b:Int):jw (.tup [i64 a,.nils,i64 b]) (.tup [i64 a,o9 [],i64 b]):=by
 refine(bR (xs:=[i64 a,.nils,i64 b]) (ys:=[i64 a,o9 [],i64 b]) rfl fun i hi=>?_).2
 match i with
 | 0=>exact .refl _
 | 1=>exact .nils _ _ _
 | 2=>exact .refl _
 | (k+3)=>exact .refl _
theorem fM(a b:Int):jw (.agg [i64 a,i64 b,.nils]) (bw ⟨a,b,[]⟩):=by
 refine(bR (xs:=[i64 a,i64 b,.nils]) (ys:=Yt ⟨a,b,[]⟩) rfl fun i hi=>?_).1
 match i with
 | 0=>exact .refl _
 | 1=>exact .refl _
 | 2=>exact .nils _ _ _
 | (k+3)=>exact .refl _

end Go.Proofs.Tryz.My
