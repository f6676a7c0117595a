/- Helper lemmas. -/
import Derived.Test.YtacahppoighegaaGreatRows
import Derived.OpenShut
import Derived.ChangeOld
import Derived.Test.YtacahppoighegaaGreatMzWbX
set_option linter.unusedVariables false
set_option linter.unusedSimpArgs false
set_option maxRecDepth 100000
set_option maxHeartbeats 0
namespace Go.Proofs.YtacahppoighegaaGreat.BooksIn
open Go Go.Ev Go.Proofs.Tryz.My
open Go.ChangeShapes Go.WideShapes Go.ChangeAt Go.RowKit
def IB(b:n9):Prop:=∀ i,IG (b.j8.getD i p9).j9
theorem Dz:Co Tryz.prog 25 eF (fun y:Int×Int=>A4 y.1/\A4 y.2) :=
 GW Tryz.underlying25 rfl rfl rfl va4 va4 (nK Tryz.underlying3 va4) (nK Tryz.underlying3 va4) (fun _=>by kernel_rfl)
theorem YF:Co Tryz.prog 44 eS (fun y:V3=>(A4 y.1.1/\A4 y.1.2)/\(A4 y.2.1/\A4 y.2.2)) :=
 GW Tryz.underlying44 rfl rfl rfl va4 va4 Dz Dz (fun _=>by kernel_rfl)
theorem VO:Co Tryz.prog 46 eG (fun y:v7=>((((A4 y.1.1.1.1/\A4 y.1.1.1.2)/\((A4 y.1.1.2.1.1/\A4 y.1.1.2.1.2)/\(A4 y.1.1.2.2.1/\A4 y.1.1.2.2.2)))/\(A4 y.1.2.1/\A4 y.1.2.2))/\(A4 y.2.1/\A4 y.2.2))) :=
 QB Tryz.underlying46 rfl va4
  (nL (k:=4) Tryz.underlying46 rfl va4 (nL (k:=3) Tryz.underlying46 rfl va4 (nL (k:=2) Tryz.underlying46 rfl va4 (nL (k:=1) Tryz.underlying46 rfl va4
   (QA Tryz.underlying46 rfl va4 (nK Tryz.underlying3 va4)) (nK Tryz.underlying3 va4) (fun _=>by kernel_rfl)) YF (fun _=>by kernel_rfl)) Dz (fun _=>by kernel_rfl)) Dz (fun _=>by kernel_rfl))
theorem bp:E6 Tryz.prog 3 (fun n:Int=>[i64 n]) A4:=Co.mem (nK Tryz.underlying3 va4)
theorem HL:E6 Tryz.prog 47 (fun l:List Int=>[A9 l]) (fun _=>True):=by
 have h0:E6 Tryz.prog 47 (fun l:List Int=>[.sl (Tryz.prog.cellsOf 3) 0 (fun n:Int=>[i64 n]) l]) (fun l=>(∀ n ∈ l,A4 n)/\l.length<=maxLen):=bP (d:=(0:Int)) Tryz.underlying47 va4 (zA1 va4) bp;have e:Tryz.prog.cellsOf 3=1:=by kernel_rfl
 rw[e]at h0;intro H enc w base spare held fuel cs x ht;exact E6.weak h0 (fun _ _=>trivial) ht
theorem VP:E6 Tryz.prog 5 (fun n:Int=>[u8 n]) (fun n=>(Lit.int .u8 n).wf=true):=Co.mem (QC Tryz.underlying5 va4)
theorem a1F:E6 Tryz.prog 33 (fun l:List Int=>[Nz l]) (fun _=>True):=by
 have h0:E6 Tryz.prog 33 (fun l:List Int=>[.sl (Tryz.prog.cellsOf 5) 0 (fun n:Int=>[u8 n]) l]) (fun l=>(∀ n ∈ l,(Lit.int .u8 n).wf=true)/\l.length<=maxLen):=bP (d:=(0:Int)) Tryz.underlying33 va4 (zA1 va4) VP;have e:Tryz.prog.cellsOf 5=1:=by kernel_rfl
 rw[e]at h0;intro H enc w base spare held fuel cs x ht;exact E6.weak h0 (fun _ _=>trivial) ht
theorem HM:E6 Tryz.prog 46 eG (fun y:v7=>((((A4 y.1.1.1.1/\A4 y.1.1.1.2)/\((A4 y.1.1.2.1.1/\A4 y.1.1.2.1.2)/\(A4 y.1.1.2.2.1/\A4 y.1.1.2.2.2)))/\(A4 y.1.2.1/\A4 y.1.2.2))/\(A4 y.2.1/\A4 y.2.2))):=Co.mem VO
theorem YG:E6 Tryz.prog 92 (fun y:((Int×v7)×List Int)×Int=>((([i64 y.1.1.1]++eG y.1.1.2)++[A9 y.1.2])++[u8 y.2])) (fun y=>((A4 y.1.1.1/\((((A4 y.1.1.2.1.1.1.1/\A4 y.1.1.2.1.1.1.2)/\((A4 y.1.1.2.1.1.2.1.1/\A4 y.1.1.2.1.1.2.1.2)/\(A4 y.1.1.2.1.1.2.2.1/\A4 y.1.1.2.1.1.2.2.2)))/\(A4 y.1.1.2.1.2.1/\A4 y.1.1.2.1.2.2))/\(A4 y.1.1.2.2.1/\A4 y.1.1.2.2.2)))/\True)/\(Lit.int .u8 y.2).wf=true) :=
 U6 Tryz.underlying92 rfl va4
  (v5 (k:=3) Tryz.underlying92 rfl va4 (v5 (k:=2) Tryz.underlying92 rfl va4 (v5 (k:=1) Tryz.underlying92 rfl va4
   (U5 Tryz.underlying92 rfl va4 bp) HM (fun _=>by kernel_rfl)) HL (fun _=>by kernel_rfl)) VP (fun _=>by kernel_rfl))
theorem a1G:E6 Tryz.prog 92 bX (fun x=>IG x.j9):=by
 refine E6.weak (E6.map (en':=bX) YG (fun y=>(⟨y.1.1.1,y.1.1.2,y.1.2,y.2⟩:D1)) (fun _=>rfl)) fun x h=>by
  obtain⟨y,rfl,⟨⟨_,⟨⟨a,b⟩,c⟩⟩,_⟩,_⟩:=h;exact⟨a.1.1,a.1.2,⟨a.2.1.1,a.2.1.2,a.2.2.1,a.2.2.2⟩,⟨b.1,b.2,c.1,c.2⟩⟩
theorem YH:E6 Tryz.prog 34 (fun l:List D1=>[uq l]) (fun l=>∀ x ∈ l,IG x.j9):=by
 have h0:E6 Tryz.prog 34 (fun l:List D1=>[.sl (Tryz.prog.cellsOf 92) p9 bX l]) (fun l=>(∀ n ∈ l,IG n.j9)/\l.length<=maxLen):=bP (d:=p9) Tryz.underlying34 va4 (zA1 va4) a1G;have e:Tryz.prog.cellsOf 92=13:=by kernel_rfl
 rw[e]at h0;intro H enc w base spare held fuel cs x ht;exact E6.weak h0 (fun _ h=>h.1) ht
theorem HN:E6 Tryz.prog 4 (fun b:Bool=>[.bool b]) (fun _=>True):=IV Tryz.underlying4 va4
theorem YI:E6 Tryz.prog 71 (fun y:((((Int×Int)×Int)×List Int)×Int)×Bool=>((((([i64 y.1.1.1.1.1]++[i64 y.1.1.1.1.2])++[i64 y.1.1.1.2])++[A9 y.1.1.2])++[u8 y.1.2])++[.bool y.2])) (fun y=>((((A4 y.1.1.1.1.1/\A4 y.1.1.1.1.2)/\A4 y.1.1.1.2)/\True)/\(Lit.int .u8 y.1.2).wf=true)/\True) :=
 U6 Tryz.underlying71 rfl va4
  (v5 (k:=5) Tryz.underlying71 rfl va4 (v5 (k:=4) Tryz.underlying71 rfl va4 (v5 (k:=3) Tryz.underlying71 rfl va4 (v5 (k:=2) Tryz.underlying71 rfl va4 (v5 (k:=1) Tryz.underlying71 rfl va4
   (U5 Tryz.underlying71 rfl va4 bp) bp (fun _=>by kernel_rfl)) bp (fun _=>by kernel_rfl)) HL (fun _=>by kernel_rfl)) VP (fun _=>by kernel_rfl)) HN (fun _=>by kernel_rfl))
theorem a1H:E6 Tryz.prog 71 K6 (fun _=>True):=by
 refine E6.weak (E6.map (en':=K6) YI (fun y=>(⟨y.1.1.1.1.1,y.1.1.1.1.2,y.1.1.1.2,y.1.1.2,y.1.2,y.2⟩:A2)) (fun _=>rfl)) fun _ _=>trivial
theorem YJ:E6 Tryz.prog 35 (fun l:List A2=>[od l]) (fun _=>True):=by
 have h0:E6 Tryz.prog 35 (fun l:List A2=>[.sl (Tryz.prog.cellsOf 71) s9 K6 l]) (fun l=>(∀ n ∈ l,True)/\l.length<=maxLen):=bP (d:=s9) Tryz.underlying35 va4 (zA1 va4) a1H;have e:Tryz.prog.cellsOf 71=6:=by kernel_rfl
 rw[e]at h0;intro H enc w base spare held fuel cs x ht;exact E6.weak h0 (fun _ _=>trivial) ht
theorem RR:E6 Tryz.prog 37 (fun y:(((Int×List Int)×List D1)×Int)×List A2=>(((([i64 y.1.1.1.1]++[Nz y.1.1.1.2])++[uq y.1.1.2])++[i64 y.1.2])++[od y.2])) (fun y=>(((A4 y.1.1.1.1/\True)/\∀ x ∈ y.1.1.2,IG x.j9)/\A4 y.1.2)/\True) :=
 U6 Tryz.underlying37 rfl va4
  (v5 (k:=4) Tryz.underlying37 rfl va4 (v5 (k:=3) Tryz.underlying37 rfl va4 (v5 (k:=2) Tryz.underlying37 rfl va4 (v5 (k:=1) Tryz.underlying37 rfl va4
   (U5 Tryz.underlying37 rfl va4 bp) a1F (fun _=>by kernel_rfl)) YH (fun _=>by kernel_rfl)) bp (fun _=>by kernel_rfl)) YJ (fun _=>by kernel_rfl))
theorem ig0:IG p9.j9:=by
 have h:A4 (0:Int):=by first|(unfold A4;decide)|decide|exact⟨va8,va8⟩
 exact⟨h,h,⟨h,h,h,h⟩,⟨h,h,h,h⟩⟩
theorem VQ:E6 Tryz.prog 37 eB IB:=by
 refine E6.weak (E6.map (en':=eB) RR (fun y=>(⟨y.1.1.1.1,y.1.1.1.2,y.1.1.2,y.1.2,y.2⟩:n9)) (fun _=>rfl)) fun x h=>by
  obtain⟨y,rfl,⟨⟨_,h⟩,_⟩,_⟩:=h;intro i;by_cases hi:i<y.1.1.2.length
  ·have e:y.1.1.2.getD i p9=y.1.1.2[i]:=by simp[List.getD,hi]
   show IG (y.1.1.2.getD i p9).j9
   rw[e];exact h _ (List.getElem_mem hi)
  ·have e:y.1.1.2.getD i p9=p9:=by rw[List.getD,zA7 va5];rfl
   show IG (y.1.1.2.getD i p9).j9
   rw[e];exact ig0
end Go.Proofs.YtacahppoighegaaGreat.BooksIn
namespace Go.Proofs.YtacahppoighegaaGreat.PlantIn
open Go Go.Ev Go.Proofs.Tryz.My Go.Proofs.YtacahppoighegaaGreat.BooksIn
open Go.ChangeShapes Go.WideShapes Go.ChangeAt Go.RowKit
def IW(w:n8):Prop:=BooksIn.IB w.n6/\RB w.line/\A4 w.o6.m0.step
theorem VS:E6 Tryz.prog 25 eF (fun y:Int×Int=>A4 y.1/\A4 y.2):=Co.mem Dz
theorem VU:E6 Tryz.prog 23 (fun y:((Int×Int)×Int)×Int=>((([i64 y.1.1.1]++[i64 y.1.1.2])++[i64 y.1.2])++[i64 y.2])) (fun y=>(((A4 y.1.1.1/\A4 y.1.1.2)/\A4 y.1.2)/\A4 y.2)) :=
 U6 Tryz.underlying23 rfl va4
  (v5 (k:=3) Tryz.underlying23 rfl va4 (v5 (k:=2) Tryz.underlying23 rfl va4 (v5 (k:=1) Tryz.underlying23 rfl va4 (U5 Tryz.underlying23 rfl va4 bp) bp (fun _=>by kernel_rfl)) bp (fun _=>by kernel_rfl)) bp (fun _=>by kernel_rfl))
theorem Ty:E6 Tryz.prog 23 uM IB4:=by
 refine E6.weak (E6.map (en':=uM) VU (fun y=>(⟨y.1.1.1,y.1.1.2,y.1.2,y.2⟩:H2)) (fun _=>rfl)) fun x h=>by
  obtain⟨y,rfl,⟨⟨h,_⟩,_⟩,_⟩:=h;exact h
theorem YK:E6 Tryz.prog 27 (fun y:(Int×Int)×(Int×Int)=>(([i64 y.1.1]++[i64 y.1.2])++eF y.2)) (fun y=>((A4 y.1.1/\A4 y.1.2)/\(A4 y.2.1/\A4 y.2.2))) :=
 U6 Tryz.underlying27 rfl va4
  (v5 (k:=2) Tryz.underlying27 rfl va4 (v5 (k:=1) Tryz.underlying27 rfl va4 (U5 Tryz.underlying27 rfl va4 bp) bp (fun _=>by kernel_rfl)) VS (fun _=>by kernel_rfl))
theorem VV:E6 Tryz.prog 29 (fun y:((H2×Int)×Int)×((Int×Int)×(Int×Int))=>(((uM y.1.1.1++[i64 y.1.1.2])++[i64 y.1.2])++(([i64 y.2.1.1]++[i64 y.2.1.2])++eF y.2.2))) (fun y=>(((IB4 y.1.1.1/\A4 y.1.1.2)/\A4 y.1.2)/\((A4 y.2.1.1/\A4 y.2.1.2)/\(A4 y.2.2.1/\A4 y.2.2.2)))) :=
 U6 Tryz.underlying29 rfl va4
  (v5 (k:=3) Tryz.underlying29 rfl va4 (v5 (k:=2) Tryz.underlying29 rfl va4 (v5 (k:=1) Tryz.underlying29 rfl va4 (U5 Tryz.underlying29 rfl va4 Ty) bp (fun _=>by kernel_rfl)) bp (fun _=>by kernel_rfl)) YK (fun _=>by kernel_rfl))
theorem YL:E6 Tryz.prog 29 Hs RB:=by
 refine E6.weak (E6.map (en':=Hs) VV (fun y=>(⟨y.1.1.1,y.1.1.2,y.1.2,y.2.1.1,y.2.1.2,y.2.2⟩:K1)) (fun _=>rfl)) fun x h=>by
  obtain⟨y,rfl,⟨⟨a,_⟩,_⟩,_,h⟩:=h;exact⟨a,h⟩
theorem VW:E6 Tryz.prog 69 (fun y:((Int×Int)×Int)×Bool=>((([i64 y.1.1.1]++[i64 y.1.1.2])++[u8 y.1.2])++[.bool y.2])) (fun y=>(((A4 y.1.1.1/\A4 y.1.1.2)/\(Lit.int .u8 y.1.2).wf=true)/\True)) :=
 U6 Tryz.underlying69 rfl va4
  (v5 (k:=3) Tryz.underlying69 rfl va4 (v5 (k:=2) Tryz.underlying69 rfl va4 (v5 (k:=1) Tryz.underlying69 rfl va4 (U5 Tryz.underlying69 rfl va4 bp) bp (fun _=>by kernel_rfl)) VP (fun _=>by kernel_rfl)) HN (fun _=>by kernel_rfl))
theorem YM:E6 Tryz.prog 69 C2 (fun x=>True):=by
 refine E6.weak (E6.map (en':=C2) VW (fun y=>(⟨y.1.1.1,y.1.1.2,y.1.2,y.2⟩:u6)) (fun _=>rfl)) fun x h=>trivial
theorem VX:E6 Tryz.prog 30 (fun l:List u6=>[bE l]) (fun _=>True):=by
 have h0:E6 Tryz.prog 30 (fun l:List u6=>[.sl (Tryz.prog.cellsOf 69) l9 C2 l]) (fun l=>(∀ n ∈ l,True)/\l.length<=maxLen):=bP (d:=l9) Tryz.underlying30 va4 (zA1 va4) YM;have e:Tryz.prog.cellsOf 69=4:=by kernel_rfl
 rw[e]at h0;intro H enc w base spare held fuel cs x ht;exact E6.weak h0 (fun _ _=>trivial) ht
theorem RS:E6 Tryz.prog 32 (fun y:((H2×Int)×Int)×List u6=>(((uM y.1.1.1++[i64 y.1.1.2])++[i64 y.1.2])++[bE y.2])) (fun y=>(((IB4 y.1.1.1/\A4 y.1.1.2)/\A4 y.1.2)/\True)) :=
 U6 Tryz.underlying32 rfl va4
  (v5 (k:=3) Tryz.underlying32 rfl va4 (v5 (k:=2) Tryz.underlying32 rfl va4 (v5 (k:=1) Tryz.underlying32 rfl va4 (U5 Tryz.underlying32 rfl va4 Ty) bp (fun _=>by kernel_rfl)) bp (fun _=>by kernel_rfl)) VX (fun _=>by kernel_rfl))
theorem VY:E6 Tryz.prog 32 uN (fun t=>A4 t.m0.step):=by
 refine E6.weak (E6.map (en':=uN) RS (fun y=>(⟨y.1.1.1,y.1.1.2,y.1.2,y.2⟩:r9)) (fun _=>rfl)) fun x h=>by
  obtain⟨y,rfl,⟨⟨h,_⟩,_⟩,_⟩:=h;exact h
theorem RT:E6 Tryz.prog 67 (fun y:(((((Int×Int)×Int)×Int)×Int)×Int)×Bool=>(((((([i64 y.1.1.1.1.1.1]++[i64 y.1.1.1.1.1.2])++[i64 y.1.1.1.1.2])++[u8 y.1.1.1.2])++[i64 y.1.1.2])++[i64 y.1.2])++[.bool y.2])) (fun y=>((((((A4 y.1.1.1.1.1.1/\A4 y.1.1.1.1.1.2)/\A4 y.1.1.1.1.2)/\(Lit.int .u8 y.1.1.1.2).wf=true)/\A4 y.1.1.2)/\A4 y.1.2)/\True)) :=
 U6 Tryz.underlying67 rfl va4
  (v5 (k:=6) Tryz.underlying67 rfl va4 (v5 (k:=5) Tryz.underlying67 rfl va4 (v5 (k:=4) Tryz.underlying67 rfl va4 (v5 (k:=3) Tryz.underlying67 rfl va4 (v5 (k:=2) Tryz.underlying67 rfl va4 (v5 (k:=1) Tryz.underlying67 rfl va4 (U5 Tryz.underlying67 rfl va4 bp) bp (fun _=>by kernel_rfl)) bp (fun _=>by kernel_rfl)) VP (fun _=>by kernel_rfl)) bp (fun _=>by kernel_rfl)) bp (fun _=>by kernel_rfl)) HN (fun _=>by kernel_rfl))
theorem VZ:E6 Tryz.prog 67 B4 (fun x=>True):=by
 refine E6.weak (E6.map (en':=B4) RT (fun y=>(⟨y.1.1.1.1.1.1,y.1.1.1.1.1.2,y.1.1.1.1.2,y.1.1.1.2,y.1.1.2,y.1.2,y.2⟩:B7)) (fun _=>rfl)) fun x h=>trivial
theorem RU:E6 Tryz.prog 40 (fun l:List B7=>[JJ l]) (fun _=>True):=by
 have h0:E6 Tryz.prog 40 (fun l:List B7=>[.sl (Tryz.prog.cellsOf 67) l5 B4 l]) (fun l=>(∀ n ∈ l,True)/\l.length<=maxLen):=bP (d:=l5) Tryz.underlying40 va4 (zA1 va4) VZ;have e:Tryz.prog.cellsOf 67=7:=by kernel_rfl
 rw[e]at h0;intro H enc w base spare held fuel cs x ht;exact E6.weak h0 (fun _ _=>trivial) ht
theorem RV:E6 Tryz.prog 39 (fun y:(Int×Int)×Bool=>(([i64 y.1.1]++[i64 y.1.2])++[.bool y.2])) (fun y=>((A4 y.1.1/\A4 y.1.2)/\True)) :=
 U6 Tryz.underlying39 rfl va4
  (v5 (k:=2) Tryz.underlying39 rfl va4 (v5 (k:=1) Tryz.underlying39 rfl va4 (U5 Tryz.underlying39 rfl va4 bp) bp (fun _=>by kernel_rfl)) HN (fun _=>by kernel_rfl))
theorem Wb:E6 Tryz.prog 39 dw (fun x=>True):=by
 refine E6.weak (E6.map (en':=dw) RV (fun y=>(⟨y.1.1,y.1.2,y.2⟩:Q5)) (fun _=>rfl)) fun x h=>trivial
theorem RW:E6 Tryz.prog 42 (fun y:(((K1×r9)×n9)×Q5)×List B7=>((((Hs y.1.1.1.1++uN y.1.1.1.2)++eB y.1.1.2)++dw y.1.2)++[JJ y.2])) (fun y=>((((RB y.1.1.1.1/\A4 y.1.1.1.2.m0.step)/\BooksIn.IB y.1.1.2)/\True)/\True)) :=
 U6 Tryz.underlying42 rfl va4
  (v5 (k:=4) Tryz.underlying42 rfl va4 (v5 (k:=3) Tryz.underlying42 rfl va4 (v5 (k:=2) Tryz.underlying42 rfl va4 (v5 (k:=1) Tryz.underlying42 rfl va4 (U5 Tryz.underlying42 rfl va4 YL) VY (fun _=>by kernel_rfl)) VQ (fun _=>by kernel_rfl)) Wb (fun _=>by kernel_rfl)) RU (fun _=>by kernel_rfl))
theorem Wc:E6 Tryz.prog 42 eW (fun x=>IW x):=by
 refine E6.weak (E6.map (en':=eW) RW (fun y=>(⟨y.1.1.1.1,y.1.1.1.2,y.1.1.2,y.1.2,y.2⟩:n8)) (fun _=>rfl)) fun x h=>by
  obtain⟨y,rfl,⟨⟨⟨h1,h2⟩,h3⟩,_⟩,_⟩:=h;exact⟨h3,h1,h2⟩
def InOrd(o:B5):Prop:=IG o.j9/\0<=o.kind/\(0<=o.n4/\o.n4<=255)
theorem RX:E6 Tryz.prog 49 (fun y:((((((Int×Int)×Int)×Int)×Int)×v7)×List Int)×List Int=>((((((([u8 y.1.1.1.1.1.1.1]++[i64 y.1.1.1.1.1.1.2])++[i64 y.1.1.1.1.1.2])++[i64 y.1.1.1.1.2])++[u8 y.1.1.1.2])++eG y.1.1.2)++[A9 y.1.2])++[A9 y.2]))
  (fun y=>(((((((Lit.int .u8 y.1.1.1.1.1.1.1).wf=true/\A4 y.1.1.1.1.1.1.2)/\A4 y.1.1.1.1.1.2)/\A4 y.1.1.1.1.2)/\(Lit.int .u8 y.1.1.1.2).wf=true)/\((((A4 y.1.1.2.1.1.1.1/\A4 y.1.1.2.1.1.1.2)/\((A4 y.1.1.2.1.1.2.1.1/\A4 y.1.1.2.1.1.2.1.2)/\(A4 y.1.1.2.1.1.2.2.1/\A4 y.1.1.2.1.1.2.2.2)))/\(A4 y.1.1.2.1.2.1/\A4 y.1.1.2.1.2.2))/\(A4 y.1.1.2.2.1/\A4 y.1.1.2.2.2)))/\True)/\True) :=
 U6 Tryz.underlying49 rfl va4
  (v5 (k:=7) Tryz.underlying49 rfl va4 (v5 (k:=6) Tryz.underlying49 rfl va4 (v5 (k:=5) Tryz.underlying49 rfl va4 (v5 (k:=4) Tryz.underlying49 rfl va4 (v5 (k:=3) Tryz.underlying49 rfl va4 (v5 (k:=2) Tryz.underlying49 rfl va4 (v5 (k:=1) Tryz.underlying49 rfl va4
   (U5 Tryz.underlying49 rfl va4 VP) bp (fun _=>by kernel_rfl)) bp (fun _=>by kernel_rfl)) bp (fun _=>by kernel_rfl)) VP (fun _=>by kernel_rfl)) HM (fun _=>by kernel_rfl)) HL (fun _=>by kernel_rfl)) HL (fun _=>by kernel_rfl))
theorem Wd:E6 Tryz.prog 49 Vi InOrd:=by
 refine E6.weak (E6.map (en':=Vi) RX (fun y=>(⟨y.1.1.1.1.1.1.1,y.1.1.1.1.1.1.2,y.1.1.1.1.1.2,y.1.1.1.1.2,y.1.1.1.2,y.1.1.2,y.1.2,y.2⟩:B5)) (fun _=>rfl)) fun x h=>by
  obtain⟨y,rfl,h,_⟩:=h;obtain⟨⟨h5,g⟩,_⟩:=h;obtain⟨⟨⟨⟨h1,_⟩,_⟩,_⟩,h4⟩:=h5;have h0:IntKind.u8.min=0:=by kernel_rfl
  have hx:IntKind.u8.max=255:=by kernel_rfl
  simp[Lit.wf]at h1 h4;rw[h0,hx]at h1 h4;exact⟨⟨g.1.1.1.1,g.1.1.1.2,⟨g.1.1.2.1.1,g.1.1.2.1.2,g.1.1.2.2.1,g.1.1.2.2.2⟩,g.1.2.1,g.1.2.2,g.2.1,g.2.2⟩,h1.1,h4⟩
end Go.Proofs.YtacahppoighegaaGreat.PlantIn
namespace Go.Proofs.YtacahppoighegaaGreat
open Go
def OL:List Char:=([104,97,114,110,101,115,115,32,102,98,50,97,99,102,100,55,54,97,100,51,97,98,98,101,49,57,102,99,51,53,55,49,49,52,53,50,98,102,102,101,101,101,50,100,100,99,101,49,48,98,99,57,57,100,99,57,49,55,53,50,99,100,51,102,52,56,97,97,101,99,52,56,32,99,117,116,32,97,116,32,115,105,103,104,116,98,101,110,99,104,47,115,105,103,104,116,98,101,110,99,104,108,97,119,49,49,46,80,108,97,110,116,83,116,101,112,115]:List Nat).map Char.ofNat
theorem OM:Tryz.pinned.checked.prog.initOrder=String.ofList OL:=by kernel_rfl
theorem kv:Tryz.pinned.checked.prog.initOrder.toList=OL:=by rw[OM,String.toList_ofList]
open Go Go.Ev
theorem b0:(behindMainWord (wordsSigns OL)).head? = some "cut".toList:=by kernel_rfl
theorem RY:Tryz.pinned.checked.prog.make=some .cut:=MP _ _ kv b0
theorem DA:Tryz.pinned.checked.prog.mayEnter=true:=zI _ _ kv b0 va4 va4 va4
theorem wL:Tryz.pinned.checked.prog.liftsFinal=false:=tO _ _ kv b0

end Go.Proofs.YtacahppoighegaaGreat
