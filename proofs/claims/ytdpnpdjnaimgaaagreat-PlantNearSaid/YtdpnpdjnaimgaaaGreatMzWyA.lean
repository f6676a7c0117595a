/- Helper lemmas. -/
import Derived.Test.YtdpnpdjnaimgaaaGreatMzWbX
set_option linter.unusedVariables false
set_option linter.unusedSimpArgs false
set_option maxRecDepth 100000
set_option maxHeartbeats 0
namespace Go.Proofs.Tryz.My
open Go Go.Ev
theorem sW (l:List B6) (hl:l.length < 2 ^ 20):PW Tryz.prog 125 [ua l] [] (.own 0) [.vec 76 7 n5 J6 l]:=by
 refine A7 hm Tryz.func125 (by kernel_rfl) ⟨by kernel_rfl,?_⟩
 conv=>whnf
 refine Or.inl ?_
 conv=>whnf
 intro b hb
 conv=>whnf
 refine ⟨fun h=>?_,fun h=>?_⟩
 ·(conv=>whnf)
  refine Or.inr ⟨by kernel_rfl,.vec 76 7 n5 J6 [],rfl,?_⟩
  conv=>whnf
  refine ⟨[2],by kernel_rfl,?_⟩
  conv=>whnf
  rw [hb h]
  exact ⟨rfl,rfl⟩
 conv=>whnf
 refine ⟨⟨B6,7,n5,J6,[]⟩,l,rfl,⟨rfl,rfl⟩,rfl,?_,?_,fun y _=>⟨rfl,rfl,rfl⟩,?_⟩
 ·show (0 + l.length) * 56<=_;omega
 ·show 0 + l.length<=_;omega
 conv=>whnf
 refine ⟨[7],by kernel_rfl,?_⟩
 conv=>whnf
 exact ⟨rfl,rfl⟩
theorem DI (l:List x7) (hl:l.length < 2 ^ 20):PW Tryz.prog 124 [U1 l] [] (.own 0) [.vec 78 4 n4 I1 l]:=by
 refine A7 hm Tryz.func124 (by kernel_rfl) ⟨by kernel_rfl,?_⟩
 conv=>whnf
 refine Or.inl ?_
 conv=>whnf
 intro b hb
 conv=>whnf
 refine ⟨fun h=>?_,fun h=>?_⟩
 ·(conv=>whnf)
  refine Or.inr ⟨by kernel_rfl,.vec 78 4 n4 I1 [],rfl,?_⟩
  conv=>whnf
  refine ⟨[2],by kernel_rfl,?_⟩
  conv=>whnf
  rw [hb h]
  exact ⟨rfl,rfl⟩
 conv=>whnf
 refine ⟨⟨x7,4,n4,I1,[]⟩,l,rfl,⟨rfl,rfl⟩,rfl,?_,?_,fun y _=>⟨rfl,rfl,rfl⟩,?_⟩
 ·show (0 + l.length) * 24<=_;omega
 ·show 0 + l.length<=_;omega
 conv=>whnf
 refine ⟨[7],by kernel_rfl,?_⟩
 conv=>whnf
 exact ⟨rfl,rfl⟩
theorem DJ (l:List A9) (hl:l.length < 2 ^ 20):PW Tryz.prog 167 [pJ l] [] (.own 0) [.vec 122 13 r9 eJ l]:=by
 refine A7 hm Tryz.func167 (by kernel_rfl) ⟨by kernel_rfl,?_⟩
 conv=>whnf
 refine Or.inl ?_
 conv=>whnf
 intro b hb
 conv=>whnf
 refine ⟨fun h=>?_,fun h=>?_⟩
 ·(conv=>whnf)
  refine Or.inr ⟨by kernel_rfl,.vec 122 13 r9 eJ [],rfl,?_⟩
  conv=>whnf
  refine ⟨[2],by kernel_rfl,?_⟩
  conv=>whnf
  rw [hb h]
  exact ⟨rfl,rfl⟩
 conv=>whnf
 refine ⟨⟨A9,13,r9,eJ,[]⟩,l,rfl,⟨rfl,rfl⟩,rfl,?_,?_,fun y _=>⟨rfl,rfl,rfl⟩,?_⟩
 ·show (0 + l.length) * 120<=_;omega
 ·show 0 + l.length<=_;omega
 conv=>whnf
 refine ⟨[7],by kernel_rfl,?_⟩
 conv=>whnf
 exact ⟨rfl,rfl⟩
theorem DK (l:List B8) (hl:l.length < 2 ^ 20):PW Tryz.prog 168 [mw l] [] (.own 0) [.vec 80 6 w9 V9 l]:=by
 refine A7 hm Tryz.func168 (by kernel_rfl) ⟨by kernel_rfl,?_⟩
 conv=>whnf
 refine Or.inl ?_
 conv=>whnf
 intro b hb
 conv=>whnf
 refine ⟨fun h=>?_,fun h=>?_⟩
 ·(conv=>whnf)
  refine Or.inr ⟨by kernel_rfl,.vec 80 6 w9 V9 [],rfl,?_⟩
  conv=>whnf
  refine ⟨[2],by kernel_rfl,?_⟩
  conv=>whnf
  rw [hb h]
  exact ⟨rfl,rfl⟩
 conv=>whnf
 refine ⟨⟨B8,6,w9,V9,[]⟩,l,rfl,⟨rfl,rfl⟩,rfl,?_,?_,fun y _=>⟨rfl,rfl,rfl⟩,?_⟩
 ·show (0 + l.length) * 56<=_;omega
 ·show 0 + l.length<=_;omega
 conv=>whnf
 refine ⟨[7],by kernel_rfl,?_⟩
 conv=>whnf
 exact ⟨rfl,rfl⟩
theorem HV (l:List A9) (k:Nat) (hk:k < l.length) (ha:(l.getD k r9).B0.length < 2 ^ 20):PW Tryz.prog 128 [.ptr 0 13 k 0] [.vec 122 13 r9 eJ l] (.tup []) [.vec 122 13 r9 eJ l]:=by
 have c:PC Tryz.prog 129 [C8 (l.getD k r9).B0] (C8 (l.getD k r9).B0):=(fE (l.getD k r9).B0 ha).toPC 6 (by kernel_rfl)
 refine pW Tryz.func128 ⟨by kernel_rfl,?_⟩
 conv=>whnf
 (repeat' ((first|refine aU fun hh=>?_|refine aV fun hh=>?_|refine aS (fun hh=>?_) fun hh=>?_|refine kT ?_|((try refine Or.inl ?_;conv=>whnf);(try refine ⟨false,?_⟩;conv=>whnf);refine ⟨_,by exact c,?_⟩)|fail)<;>conv=>whnf))
 refine ⟨l.getD k r9,rfl,hk,?_⟩
 conv=>whnf
 refine ⟨[],by kernel_rfl,?_⟩
 conv=>whnf
 refine ⟨rfl,?_⟩
 rw [eN]
 rfl
theorem LB (l:List A9) (hl:l.length < 2 ^ 20) (ha:∀ i,(l.getD i r9).B0.length < 2 ^ 20):PC Tryz.prog 127 [pJ l,.fn (.func 128) [] []] (pJ l):=by
 refine pF Tryz.func127 ?_
 conv=>whnf
 (refine Or.inr ⟨[],[8],by kernel_rfl,?_⟩;(conv=>whnf);refine ⟨[],_,_,_,_,⟨DJ l hl,rfl,rfl,by kernel_rfl⟩,?_⟩)
 conv=>whnf
 refine Or.inr ⟨Nat,[11],[8],[],fun k=>[i64 k],fun _=>[.vec 122 13 r9 eJ l],fun _=>[],fun k=>l.length - k,fun k=>k<=l.length,?_⟩
 conv=>whnf
 refine ⟨⟨0,?_⟩,?_⟩
 ·(conv=>whnf)
  exact kK ⟨Nat.zero_le _,rfl,rfl,rfl⟩
 intro k hk
 conv=>whnf
 refine ⟨fun h=>?_,fun h=>?_⟩
 ·have h:=of_decide_eq_true h
  have L7:k < l.length:=by omega
  conv=>whnf
  (repeat' ((first|refine aU fun hh=>?_|refine aV fun hh=>?_|refine aS (fun hh=>?_) fun hh=>?_|refine kT ?_|fail)<;>conv=>whnf))
  (refine Or.inr ⟨[],[],by kernel_rfl,?_⟩;(conv=>whnf);refine ⟨[8],_,_,_,_,⟨HV l k L7 (ha k),rfl,rfl,by kernel_rfl⟩,?_⟩)
  conv=>whnf
  refine ⟨k + 1,?_⟩
  conv=>whnf
  refine kK ⟨⟨?_,?_⟩,?_,rfl,rfl⟩
  ·show l.length - (k + 1) < l.length - k;omega
  ·show k + 1<=l.length;omega
  ·rw [C7 _ (by omega) (by omega)];rfl
 ·(conv=>whnf)
  try rfl
theorem HW (l:List B8) (k:Nat) (hk:k < l.length) (ha:(l.getD k w9).o9.length < 2 ^ 20):PW Tryz.prog 131 [.ptr 0 6 k 0] [.vec 80 6 w9 V9 l] (.tup []) [.vec 80 6 w9 V9 l]:=by
 have c:PC Tryz.prog 129 [C8 (l.getD k w9).o9] (C8 (l.getD k w9).o9):=(fE (l.getD k w9).o9 ha).toPC 6 (by kernel_rfl)
 refine pW Tryz.func131 ⟨by kernel_rfl,?_⟩
 conv=>whnf
 (repeat' ((first|refine aU fun hh=>?_|refine aV fun hh=>?_|refine aS (fun hh=>?_) fun hh=>?_|refine kT ?_|((try refine Or.inl ?_;conv=>whnf);(try refine ⟨false,?_⟩;conv=>whnf);refine ⟨_,by exact c,?_⟩)|fail)<;>conv=>whnf))
 refine ⟨l.getD k w9,rfl,hk,?_⟩
 conv=>whnf
 refine ⟨[],by kernel_rfl,?_⟩
 conv=>whnf
 refine ⟨rfl,?_⟩
 rw [eN]
 rfl
theorem LC (l:List B8) (hl:l.length < 2 ^ 20) (ha:∀ i,(l.getD i w9).o9.length < 2 ^ 20):PC Tryz.prog 130 [mw l,.fn (.func 131) [] []] (mw l):=by
 refine pF Tryz.func130 ?_
 conv=>whnf
 (refine Or.inr ⟨[],[8],by kernel_rfl,?_⟩;(conv=>whnf);refine ⟨[],_,_,_,_,⟨DK l hl,rfl,rfl,by kernel_rfl⟩,?_⟩)
 conv=>whnf
 refine Or.inr ⟨Nat,[11],[8],[],fun k=>[i64 k],fun _=>[.vec 80 6 w9 V9 l],fun _=>[],fun k=>l.length - k,fun k=>k<=l.length,?_⟩
 conv=>whnf
 refine ⟨⟨0,?_⟩,?_⟩
 ·(conv=>whnf)
  exact kK ⟨Nat.zero_le _,rfl,rfl,rfl⟩
 intro k hk
 conv=>whnf
 refine ⟨fun h=>?_,fun h=>?_⟩
 ·have h:=of_decide_eq_true h
  have L7:k < l.length:=by omega
  conv=>whnf
  (repeat' ((first|refine aU fun hh=>?_|refine aV fun hh=>?_|refine aS (fun hh=>?_) fun hh=>?_|refine kT ?_|fail)<;>conv=>whnf))
  (refine Or.inr ⟨[],[],by kernel_rfl,?_⟩;(conv=>whnf);refine ⟨[8],_,_,_,_,⟨HW l k L7 (ha k),rfl,rfl,by kernel_rfl⟩,?_⟩)
  conv=>whnf
  refine ⟨k + 1,?_⟩
  conv=>whnf
  refine kK ⟨⟨?_,?_⟩,?_,rfl,rfl⟩
  ·show l.length - (k + 1) < l.length - k;omega
  ·show k + 1<=l.length;omega
  ·rw [C7 _ (by omega) (by omega)];rfl
 ·(conv=>whnf)
  try rfl
abbrev Q2 (kind j8 a7 n j9:Int) (b9:x8) (tru a8:List Int):AV := .agg [u8 kind,i64 j8,i64 a7,i64 n,u8 j9,i64 (H8 b9),i64 (D9 b9),i64 (J5 b9).1.1,i64 (J5 b9).1.2,i64 (J5 b9).2.1,i64 (J5 b9).2.2,i64 b9.1.2.1,i64 b9.1.2.2,i64 b9.2.1,i64 b9.2.2,C8 tru,C8 a8]
abbrev UK (kind j8 a7 n j9:Int) (b9:x8) (tru a8:List Int):List AV:=[u8 kind,i64 j8,i64 a7,i64 n,u8 j9,i64 (H8 b9),i64 (D9 b9),i64 (J5 b9).1.1,i64 (J5 b9).1.2,i64 (J5 b9).2.1,i64 (J5 b9).2.2,i64 b9.1.2.1,i64 b9.1.2.2,i64 b9.2.1,i64 b9.2.2,C8 tru,C8 a8]
abbrev I4 (w:n9):List AV:=(eW w).set 25 (.own 1)
def H0 (w:n9):List Row:=[.cells 154 (I4 w),.vec 76 7 n5 J6 w.n6]
theorem AZ (w:n9) (o:px w):PW Tryz.prog 78 [eR w] [] (.ptr 0 0 0 0) (H0 w):=by
 have c1:PC Tryz.prog 124 [U1 w.o8.k9] (U1 w.o8.k9):=(DI w.o8.k9 o.t).toPC 6 (by kernel_rfl)
 have c3:PC Tryz.prog 126 [Iy w.l9.p9] (Iy w.l9.p9):=(nN w.l9.p9 o.b.u).toPC 6 (by kernel_rfl)
 have c4:=LB w.l9.b8 o.b.r o.b.a
 have c5:=LC w.l9.log o.b.l o.b.p
 have o2:=o.h
 refine pW Tryz.func78 ⟨by kernel_rfl,?_⟩
 conv=>whnf
 (repeat' ((first|refine y7 ?_|refine y8 ?_|((try refine Or.inl ?_;conv=>whnf);(try refine ⟨false,?_⟩;conv=>whnf);refine ⟨_,by exact c1,?_⟩)|refine lD ?_|refine lN ?_|refine kL ?_|fail);conv=>whnf))
 (refine Or.inr ⟨[],[11],by kernel_rfl,?_⟩;(conv=>whnf);refine ⟨[],_,_,_,_,⟨sW w.n6 o2,rfl,rfl,by kernel_rfl⟩,?_⟩)
 conv=>whnf
 (repeat' ((first|refine y7 ?_|refine y8 ?_|((try refine Or.inl ?_;conv=>whnf);(try refine ⟨false,?_⟩;conv=>whnf);refine ⟨_,by first|exact c3|exact c4|exact c5,?_⟩)|refine lD ?_|refine lN ?_|refine kL ?_|fail);conv=>whnf))
 refine ⟨[33,11],by kernel_rfl,?_⟩
 conv=>whnf
 exact ⟨rfl,rfl⟩
theorem gR (w:n9) (b:o7) (n:Int):PW Tryz.prog 227 [.ptr 0 0 0 0,i64 n,au b,i64 0] (H0 w) (.tup [i64 n,.nils,i64 0]) (H0 (dv w b)):=by
 refine pW Tryz.func227 ⟨by kernel_rfl,?_⟩
 conv=>whnf
 (repeat' ((first|refine y7 ?_|refine y8 ?_|refine lD ?_|refine lN ?_|refine kL ?_|fail);conv=>whnf))
 refine ⟨[],by kernel_rfl,?_⟩
 conv=>whnf
 exact ⟨rfl,rfl⟩
theorem gS (w:n9) (n e:Int) (h:¬e=0):PW Tryz.prog 227 [.ptr 0 0 0 0,i64 n,mB 0,i64 e] (H0 w) (.tup [i64 0,.nils,i64 e]) (H0 w):=by
 refine pW Tryz.func227 ⟨by kernel_rfl,?_⟩
 conv=>whnf
 (repeat' ((first|refine aU fun hh=>?_|refine aV fun hh=>?_|refine aS (fun hh=>?_) fun hh=>?_|refine kR ?_|fail)<;>conv=>whnf))
 refine ⟨[],by kernel_rfl,?_⟩
 conv=>whnf
 exact ⟨rfl,rfl⟩
theorem Ba (w:n9) (o:G8 w.l9) (kind j8 a7 n j9:Int) (b9:x8) (tru a8:List Int) (h:iq w.l9 j9=0):PW Tryz.prog 171 [.ptr 0 0 0 0,Q2 kind j8 a7 n j9 b9 tru a8] (H0 w) (.tup [i64 (w.l9.p9.length:Nat),.nils,i64 0]) (H0 (dv w (tO w.l9 j9))):=by
 have c:=xL w.l9 o j9 h
 refine pW Tryz.func171 ⟨by kernel_rfl,?_⟩
 conv=>whnf
 (repeat' ((first|refine aU fun hh=>?_|refine aV fun hh=>?_|refine aS (fun hh=>?_) fun hh=>?_|refine kR ?_|((try refine Or.inl ?_;conv=>whnf);(try refine ⟨false,?_⟩;conv=>whnf);refine ⟨_,by exact c,?_⟩)|fail)<;>conv=>whnf))
 (refine Or.inr ⟨[],[],by kernel_rfl,?_⟩;(conv=>whnf);refine ⟨[30,31],_,_,_,_,⟨gR w _ _,rfl,rfl,by kernel_rfl⟩,?_⟩)
 conv=>whnf
 refine ⟨[],by kernel_rfl,?_⟩
 conv=>whnf
 exact ⟨rfl,rfl⟩
theorem ya (w:n9) (o:G8 w.l9) (kind j8 a7 n j9:Int) (b9:x8) (tru a8:List Int) (h:¬iq w.l9 j9=0):PW Tryz.prog 171 [.ptr 0 0 0 0,Q2 kind j8 a7 n j9 b9 tru a8] (H0 w) (.tup [i64 0,.nils,i64 (iq w.l9 j9)]) (H0 w):=by
 have c:=tP w.l9 o j9 h
 generalize iq w.l9 j9=e at *
 refine pW Tryz.func171 ⟨by kernel_rfl,?_⟩
 conv=>whnf
 (repeat' ((first|refine aU fun hh=>?_|refine aV fun hh=>?_|refine aS (fun hh=>?_) fun hh=>?_|refine kR ?_|((try refine Or.inl ?_;conv=>whnf);(try refine ⟨false,?_⟩;conv=>whnf);refine ⟨_,by exact c,?_⟩)|fail)<;>conv=>whnf))
 (refine Or.inr ⟨[],[],by kernel_rfl,?_⟩;(conv=>whnf);refine ⟨[30,31],_,_,_,_,⟨gS w _ _ h,rfl,rfl,by kernel_rfl⟩,?_⟩)
 conv=>whnf
 refine ⟨[],by kernel_rfl,?_⟩
 conv=>whnf
 exact ⟨rfl,rfl⟩
theorem HX (w:n9) (o:G8 w.l9) (kind j8 a7 n j9:Int) (b9:x8) (tru a8:List Int) (h:iU w.l9 j8 b9=0):PW Tryz.prog 172 [.ptr 0 0 0 0,Q2 kind j8 a7 n j9 b9 tru a8] (H0 w) (.tup [i64 (w.l9.b8.length:Nat),.nils,i64 0]) (H0 (dv w (tQ w.l9 j8 b9))):=by
 have c:=Dn w.l9 o j8 b9 h
 refine pW Tryz.func172 ⟨by kernel_rfl,?_⟩
 conv=>whnf
 (repeat' ((first|refine aU fun hh=>?_|refine aV fun hh=>?_|refine aS (fun hh=>?_) fun hh=>?_|refine kR ?_|((try refine Or.inl ?_;conv=>whnf);(try refine ⟨false,?_⟩;conv=>whnf);refine ⟨_,by exact c,?_⟩)|fail)<;>conv=>whnf))
 (refine Or.inr ⟨[],[],by kernel_rfl,?_⟩;(conv=>whnf);refine ⟨[32,33],_,_,_,_,⟨gR w _ _,rfl,rfl,by kernel_rfl⟩,?_⟩)
 conv=>whnf
 refine ⟨[],by kernel_rfl,?_⟩
 conv=>whnf
 exact ⟨rfl,rfl⟩
theorem DL (w:n9) (o:G8 w.l9) (kind j8 a7 n j9:Int) (b9:x8) (tru a8:List Int) (h:¬iU w.l9 j8 b9=0):PW Tryz.prog 172 [.ptr 0 0 0 0,Q2 kind j8 a7 n j9 b9 tru a8] (H0 w) (.tup [i64 0,.nils,i64 (iU w.l9 j8 b9)]) (H0 w):=by
 have c:=Ag w.l9 o j8 b9 h
 generalize iU w.l9 j8 b9=e at *
 refine pW Tryz.func172 ⟨by kernel_rfl,?_⟩
 conv=>whnf
 (repeat' ((first|refine aU fun hh=>?_|refine aV fun hh=>?_|refine aS (fun hh=>?_) fun hh=>?_|refine kR ?_|((try refine Or.inl ?_;conv=>whnf);(try refine ⟨false,?_⟩;conv=>whnf);refine ⟨_,by exact c,?_⟩)|fail)<;>conv=>whnf))
 (refine Or.inr ⟨[],[],by kernel_rfl,?_⟩;(conv=>whnf);refine ⟨[32,33],_,_,_,_,⟨gS w _ _ h,rfl,rfl,by kernel_rfl⟩,?_⟩)
 conv=>whnf
 refine ⟨[],by kernel_rfl,?_⟩
 conv=>whnf
 exact ⟨rfl,rfl⟩
theorem Bb (w:n9) (o:G8 w.l9) (kind j8 a7 n j9:Int) (b9:x8) (tru a8:List Int) (h:iY w.l9 j8 a7=0):PW Tryz.prog 173 [.ptr 0 0 0 0,Q2 kind j8 a7 n j9 b9 tru a8] (H0 w) (.tup [i64 0,.nils,i64 0]) (H0 (dv w (nQ w.l9 j8 a7))):=by
 have c:=xM w.l9 o j8 a7 h
 refine pW Tryz.func173 ⟨by kernel_rfl,?_⟩
 conv=>whnf
 (repeat' ((first|refine aU fun hh=>?_|refine aV fun hh=>?_|refine aS (fun hh=>?_) fun hh=>?_|refine kR ?_|((try refine Or.inl ?_;conv=>whnf);(try refine ⟨false,?_⟩;conv=>whnf);refine ⟨_,by exact c,?_⟩)|fail)<;>conv=>whnf))
 (refine Or.inr ⟨[],[],by kernel_rfl,?_⟩;(conv=>whnf);refine ⟨[29,30],_,_,_,_,⟨gR w _ _,rfl,rfl,by kernel_rfl⟩,?_⟩)
 conv=>whnf
 refine ⟨[],by kernel_rfl,?_⟩
 conv=>whnf
 exact ⟨rfl,rfl⟩
theorem yb (w:n9) (o:G8 w.l9) (kind j8 a7 n j9:Int) (b9:x8) (tru a8:List Int) (h:¬iY w.l9 j8 a7=0):PW Tryz.prog 173 [.ptr 0 0 0 0,Q2 kind j8 a7 n j9 b9 tru a8] (H0 w) (.tup [i64 0,.nils,i64 (iY w.l9 j8 a7)]) (H0 w):=by
 have c:=tX w.l9 o j8 a7 h
 generalize iY w.l9 j8 a7=e at *
 refine pW Tryz.func173 ⟨by kernel_rfl,?_⟩
 conv=>whnf
 (repeat' ((first|refine aU fun hh=>?_|refine aV fun hh=>?_|refine aS (fun hh=>?_) fun hh=>?_|refine kR ?_|((try refine Or.inl ?_;conv=>whnf);(try refine ⟨false,?_⟩;conv=>whnf);refine ⟨_,by exact c,?_⟩)|fail)<;>conv=>whnf))
 (refine Or.inr ⟨[],[],by kernel_rfl,?_⟩;(conv=>whnf);refine ⟨[29,30],_,_,_,_,⟨gS w _ _ h,rfl,rfl,by kernel_rfl⟩,?_⟩)
 conv=>whnf
 refine ⟨[],by kernel_rfl,?_⟩
 conv=>whnf
 exact ⟨rfl,rfl⟩
theorem yc (w:n9) (o:G8 w.l9) (kind j8 a7 n j9:Int) (b9:x8) (tru a8:List Int) (h:dq w.l9 j8 a7=0):PW Tryz.prog 174 [.ptr 0 0 0 0,Q2 kind j8 a7 n j9 b9 tru a8] (H0 w) (.tup [i64 0,.nils,i64 0]) (H0 (dv w (fF w.l9 a7))):=by
 have c:=tY w.l9 o j8 a7 h
 refine pW Tryz.func174 ⟨by kernel_rfl,?_⟩
 conv=>whnf
 (repeat' ((first|refine aU fun hh=>?_|refine aV fun hh=>?_|refine aS (fun hh=>?_) fun hh=>?_|refine kR ?_|((try refine Or.inl ?_;conv=>whnf);(try refine ⟨false,?_⟩;conv=>whnf);refine ⟨_,by exact c,?_⟩)|fail)<;>conv=>whnf))
 (refine Or.inr ⟨[],[],by kernel_rfl,?_⟩;(conv=>whnf);refine ⟨[29,30],_,_,_,_,⟨gR w _ _,rfl,rfl,by kernel_rfl⟩,?_⟩)
 conv=>whnf
 refine ⟨[],by kernel_rfl,?_⟩
 conv=>whnf
 exact ⟨rfl,rfl⟩
theorem ui (w:n9) (o:G8 w.l9) (kind j8 a7 n j9:Int) (b9:x8) (tru a8:List Int) (h:¬dq w.l9 j8 a7=0):PW Tryz.prog 174 [.ptr 0 0 0 0,Q2 kind j8 a7 n j9 b9 tru a8] (H0 w) (.tup [i64 0,.nils,i64 (dq w.l9 j8 a7)]) (H0 w):=by
 have c:=su w.l9 o j8 a7 h
 generalize dq w.l9 j8 a7=e at *
 refine pW Tryz.func174 ⟨by kernel_rfl,?_⟩
 conv=>whnf
 (repeat' ((first|refine aU fun hh=>?_|refine aV fun hh=>?_|refine aS (fun hh=>?_) fun hh=>?_|refine kR ?_|((try refine Or.inl ?_;conv=>whnf);(try refine ⟨false,?_⟩;conv=>whnf);refine ⟨_,by exact c,?_⟩)|fail)<;>conv=>whnf))
 (refine Or.inr ⟨[],[],by kernel_rfl,?_⟩;(conv=>whnf);refine ⟨[29,30],_,_,_,_,⟨gS w _ _ h,rfl,rfl,by kernel_rfl⟩,?_⟩)
 conv=>whnf
 refine ⟨[],by kernel_rfl,?_⟩
 conv=>whnf
 exact ⟨rfl,rfl⟩
theorem DM (w:n9) (o:G8 w.l9) (kind j8 a7 n j9:Int) (b9:x8) (tru a8:List Int) (h:iV w.l9 j8=0):PW Tryz.prog 175 [.ptr 0 0 0 0,Q2 kind j8 a7 n j9 b9 tru a8] (H0 w) (.tup [i64 0,.nils,i64 0]) (H0 (dv w (mC w.l9 (A4 w.l9.b8)))):=by
 have c:=An w.l9 o j8 h
 refine pW Tryz.func175 ⟨by kernel_rfl,?_⟩
 conv=>whnf
 (repeat' ((first|refine aU fun hh=>?_|refine aV fun hh=>?_|refine aS (fun hh=>?_) fun hh=>?_|refine kR ?_|((try refine Or.inl ?_;conv=>whnf);(try refine ⟨false,?_⟩;conv=>whnf);refine ⟨_,by exact c,?_⟩)|fail)<;>conv=>whnf))
 (refine Or.inr ⟨[],[],by kernel_rfl,?_⟩;(conv=>whnf);refine ⟨[27,28],_,_,_,_,⟨gR w _ _,rfl,rfl,by kernel_rfl⟩,?_⟩)
 conv=>whnf
 refine ⟨[],by kernel_rfl,?_⟩
 conv=>whnf
 exact ⟨rfl,rfl⟩
theorem Bc (w:n9) (o:G8 w.l9) (kind j8 a7 n j9:Int) (b9:x8) (tru a8:List Int) (h:¬iV w.l9 j8=0):PW Tryz.prog 175 [.ptr 0 0 0 0,Q2 kind j8 a7 n j9 b9 tru a8] (H0 w) (.tup [i64 0,.nils,i64 (iV w.l9 j8)]) (H0 w):=by
 have c:=xA w.l9 o j8 h
 generalize iV w.l9 j8=e at *
 refine pW Tryz.func175 ⟨by kernel_rfl,?_⟩
 conv=>whnf
 (repeat' ((first|refine aU fun hh=>?_|refine aV fun hh=>?_|refine aS (fun hh=>?_) fun hh=>?_|refine kR ?_|((try refine Or.inl ?_;conv=>whnf);(try refine ⟨false,?_⟩;conv=>whnf);refine ⟨_,by exact c,?_⟩)|fail)<;>conv=>whnf))
 (refine Or.inr ⟨[],[],by kernel_rfl,?_⟩;(conv=>whnf);refine ⟨[27,28],_,_,_,_,⟨gS w _ _ h,rfl,rfl,by kernel_rfl⟩,?_⟩)
 conv=>whnf
 refine ⟨[],by kernel_rfl,?_⟩
 conv=>whnf
 exact ⟨rfl,rfl⟩
theorem Bd (w:n9) (o:G8 w.l9) (kind j8 a7 n j9:Int) (b9:x8) (tru a8:List Int) (h:sA w.l9 j8 a7=0):PW Tryz.prog 176 [.ptr 0 0 0 0,Q2 kind j8 a7 n j9 b9 tru a8] (H0 w) (.tup [i64 0,.nils,i64 0]) (H0 (dv w (W0 w.l9 a7 true))):=by
 have c:=xN w.l9 o j8 a7 h
 refine pW Tryz.func176 ⟨by kernel_rfl,?_⟩
 conv=>whnf
 (repeat' ((first|refine aU fun hh=>?_|refine aV fun hh=>?_|refine aS (fun hh=>?_) fun hh=>?_|refine kR ?_|((try refine Or.inl ?_;conv=>whnf);(try refine ⟨false,?_⟩;conv=>whnf);refine ⟨_,by exact c,?_⟩)|fail)<;>conv=>whnf))
 (refine Or.inr ⟨[],[],by kernel_rfl,?_⟩;(conv=>whnf);refine ⟨[29,30],_,_,_,_,⟨gR w _ _,rfl,rfl,by kernel_rfl⟩,?_⟩)
 conv=>whnf
 refine ⟨[],by kernel_rfl,?_⟩
 conv=>whnf
 exact ⟨rfl,rfl⟩
theorem yd (w:n9) (o:G8 w.l9) (kind j8 a7 n j9:Int) (b9:x8) (tru a8:List Int) (h:¬sA w.l9 j8 a7=0):PW Tryz.prog 176 [.ptr 0 0 0 0,Q2 kind j8 a7 n j9 b9 tru a8] (H0 w) (.tup [i64 0,.nils,i64 (sA w.l9 j8 a7)]) (H0 w):=by
 have c:=tV w.l9 o j8 a7 h
 generalize sA w.l9 j8 a7=e at *
 refine pW Tryz.func176 ⟨by kernel_rfl,?_⟩
 conv=>whnf
 (repeat' ((first|refine aU fun hh=>?_|refine aV fun hh=>?_|refine aS (fun hh=>?_) fun hh=>?_|refine kR ?_|((try refine Or.inl ?_;conv=>whnf);(try refine ⟨false,?_⟩;conv=>whnf);refine ⟨_,by exact c,?_⟩)|fail)<;>conv=>whnf))
 (refine Or.inr ⟨[],[],by kernel_rfl,?_⟩;(conv=>whnf);refine ⟨[29,30],_,_,_,_,⟨gS w _ _ h,rfl,rfl,by kernel_rfl⟩,?_⟩)
 conv=>whnf
 refine ⟨[],by kernel_rfl,?_⟩
 conv=>whnf
 exact ⟨rfl,rfl⟩
theorem DN (w:n9) (o:G8 w.l9) (kind j8 a7 n j9:Int) (b9:x8) (tru a8:List Int) (h:sB w.l9 j8 a7=0):PW Tryz.prog 177 [.ptr 0 0 0 0,Q2 kind j8 a7 n j9 b9 tru a8] (H0 w) (.tup [i64 0,.nils,i64 0]) (H0 (dv w (W0 w.l9 a7 false))):=by
 have c:=Ao w.l9 o j8 a7 h
 refine pW Tryz.func177 ⟨by kernel_rfl,?_⟩
 conv=>whnf
 (repeat' ((first|refine aU fun hh=>?_|refine aV fun hh=>?_|refine aS (fun hh=>?_) fun hh=>?_|refine kR ?_|((try refine Or.inl ?_;conv=>whnf);(try refine ⟨false,?_⟩;conv=>whnf);refine ⟨_,by exact c,?_⟩)|fail)<;>conv=>whnf))
 (refine Or.inr ⟨[],[],by kernel_rfl,?_⟩;(conv=>whnf);refine ⟨[29,30],_,_,_,_,⟨gR w _ _,rfl,rfl,by kernel_rfl⟩,?_⟩)
 conv=>whnf
 refine ⟨[],by kernel_rfl,?_⟩
 conv=>whnf
 exact ⟨rfl,rfl⟩
theorem Be (w:n9) (o:G8 w.l9) (kind j8 a7 n j9:Int) (b9:x8) (tru a8:List Int) (h:¬sB w.l9 j8 a7=0):PW Tryz.prog 177 [.ptr 0 0 0 0,Q2 kind j8 a7 n j9 b9 tru a8] (H0 w) (.tup [i64 0,.nils,i64 (sB w.l9 j8 a7)]) (H0 w):=by
 have c:=xG w.l9 o j8 a7 h
 generalize sB w.l9 j8 a7=e at *
 refine pW Tryz.func177 ⟨by kernel_rfl,?_⟩
 conv=>whnf
 (repeat' ((first|refine aU fun hh=>?_|refine aV fun hh=>?_|refine aS (fun hh=>?_) fun hh=>?_|refine kR ?_|((try refine Or.inl ?_;conv=>whnf);(try refine ⟨false,?_⟩;conv=>whnf);refine ⟨_,by exact c,?_⟩)|fail)<;>conv=>whnf))
 (refine Or.inr ⟨[],[],by kernel_rfl,?_⟩;(conv=>whnf);refine ⟨[29,30],_,_,_,_,⟨gS w _ _ h,rfl,rfl,by kernel_rfl⟩,?_⟩)
 conv=>whnf
 refine ⟨[],by kernel_rfl,?_⟩
 conv=>whnf
 exact ⟨rfl,rfl⟩
theorem W7:PC Tryz.prog 56 [] (.agg (eQ X3)):=by
 refine AJ.sub rfl (fun i hi=>absurd hi (Nat.not_lt_zero i)) (Y0 (xs:=[i64 0,i64 0,.ff]) (ys:=eQ X3) rfl fun i hi=>?_).1
 match i with
 | 0=>exact .refl _
 | 1=>exact .refl _
 | 2=>exact Dp
 | (n + 3)=>exact .refl _
theorem HY (w:n9) (hl:w.l9.p9.length < 2 ^ 20) (kind j8 a7 n j9:Int) (b9:x8) (tru a8:List Int) (h:oa w j8=0):PW Tryz.prog 178 [.ptr 0 0 0 0,Q2 kind j8 a7 n j9 b9 tru a8] (H0 w) (.tup [i64 0,.nils,i64 0]) (H0 (Dz w)):=by
 have w1:IntKind.i64.wrap ((w.l9.p9.length:Int) - 1)=(w.l9.p9.length:Int) - 1:=C7 _ (by omega) (by omega)
 have c1:=Q8 0 (IntKind.i64.wrap ((w.l9.p9.length:Int) - 1)) j8
 have h1:0<=j8/\j8<=(w.l9.p9.length:Int) - 1:=Decidable.byContradiction fun q=>by unfold oa at h;rw [if_pos q] at h;cases h
 have h2:w.l9.p9.getD j8.toNat 0=3:=Decidable.byContradiction fun q=>by unfold oa at h;rw [if_neg (fun f=>f h1),if_pos q] at h;cases h
 have e1:(decide (0<=j8) && decide (j8<=IntKind.i64.wrap ((w.l9.p9.length:Int) - 1)))=true:=by rw [w1,decide_eq_true h1.1,decide_eq_true h1.2];rfl
 rw [e1] at c1
 have cs:=W7
 refine pW Tryz.func178 ⟨by kernel_rfl,?_⟩
 conv=>whnf
 (repeat' ((first|refine aU fun hh=>?_|refine aV fun hh=>?_|refine aS (fun hh=>?_) fun hh=>?_|refine kT ?_|((try refine Or.inl ?_;conv=>whnf);(try refine ⟨false,?_⟩;conv=>whnf);refine ⟨_,by first|exact c1|exact cs,?_⟩)|fail)<;>conv=>whnf))
 refine ⟨[],by kernel_rfl,?_⟩
 conv=>whnf
 first|exact ⟨rfl,rfl⟩
theorem DO (w:n9) (hl:w.l9.p9.length < 2 ^ 20) (kind j8 a7 n j9:Int) (b9:x8) (tru a8:List Int) (h:¬oa w j8=0):PW Tryz.prog 178 [.ptr 0 0 0 0,Q2 kind j8 a7 n j9 b9 tru a8] (H0 w) (.tup [i64 0,.nils,i64 (oa w j8)]) (H0 w):=by
 have w1:IntKind.i64.wrap ((w.l9.p9.length:Int) - 1)=(w.l9.p9.length:Int) - 1:=C7 _ (by omega) (by omega)
 have c1:=Q8 0 (IntKind.i64.wrap ((w.l9.p9.length:Int) - 1)) j8
 by_cases h1:0<=j8/\j8<=(w.l9.p9.length:Int) - 1
 ·have e1:(decide (0<=j8) && decide (j8<=IntKind.i64.wrap ((w.l9.p9.length:Int) - 1)))=true:=by rw [w1,decide_eq_true h1.1,decide_eq_true h1.2];rfl
  rw [e1] at c1
  by_cases h2:w.l9.p9.getD j8.toNat 0=3
  ·exact absurd (by unfold oa;rw [if_neg (fun f=>f h1),if_neg (fun f=>f h2)]) h
  ·have hr:oa w j8=100:=by unfold oa;rw [if_neg (fun f=>f h1),if_pos h2]
   rw [hr]
   refine pW Tryz.func178 ⟨by kernel_rfl,?_⟩
   conv=>whnf
   (repeat' ((first|refine aU fun hh=>?_|refine aV fun hh=>?_|refine aS (fun hh=>?_) fun hh=>?_|refine kT ?_|((try refine Or.inl ?_;conv=>whnf);(try refine ⟨false,?_⟩;conv=>whnf);refine ⟨_,by exact c1,?_⟩)|fail)<;>conv=>whnf))
   refine ⟨[],by kernel_rfl,?_⟩
   conv=>whnf
   exact ⟨rfl,rfl⟩
 ·have hr:oa w j8=6:=by unfold oa;rw [if_pos h1]
  have e1:(decide (0<=j8) && decide (j8<=IntKind.i64.wrap ((w.l9.p9.length:Int) - 1)))=false:=by
   rw [w1]
   cases h:(decide (0<=j8) && decide (j8<=(w.l9.p9.length:Int) - 1))
   ·rfl
   ·rw [Bool.and_eq_true,decide_eq_true_eq,decide_eq_true_eq] at h;exact absurd h h1
  rw [e1] at c1
  rw [hr]
  refine pW Tryz.func178 ⟨by kernel_rfl,?_⟩
  conv=>whnf
  (repeat' ((first|refine aU fun hh=>?_|refine aV fun hh=>?_|refine aS (fun hh=>?_) fun hh=>?_|refine kT ?_|((try refine Or.inl ?_;conv=>whnf);(try refine ⟨false,?_⟩;conv=>whnf);refine ⟨_,by exact c1,?_⟩)|fail)<;>conv=>whnf))
  refine ⟨[],by kernel_rfl,?_⟩
  conv=>whnf
  exact ⟨rfl,rfl⟩

end Go.Proofs.Tryz.My
