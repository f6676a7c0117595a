/- Helper lemmas. -/
import Derived.Test.YtdpnpdjnaimgaaaGreatRows
import Derived.OpenShut
import Derived.ChangeOld
import Derived.Test.YtdpnpdjnaimgaaaGreatMzWbX
set_option linter.unusedVariables false
set_option linter.unusedSimpArgs false
set_option maxRecDepth 100000
set_option maxHeartbeats 0
namespace Go.Proofs.YtdpnpdjnaimgaaaGreat.BooksIn
open Go Go.Ev Go.Proofs.Tryz.My
open Go.ChangeShapes Go.WideShapes Go.ChangeAt Go.RowKit
theorem Bp:zH Tryz.prog 25 eF (fun y:Int×Int=>G7 y.1/\G7 y.2) :=
 EG Tryz.underlying25 rfl rfl rfl va4 va4 (lX Tryz.underlying3 va4) (lX Tryz.underlying3 va4) (fun _=>by kernel_rfl)
theorem UP:zH Tryz.prog 57 eS (fun y:X2=>(G7 y.1.1/\G7 y.1.2)/\(G7 y.2.1/\G7 y.2.2)) :=
 EG Tryz.underlying57 rfl rfl rfl va4 va4 Bp Bp (fun _=>by kernel_rfl)
theorem Sl:zH Tryz.prog 59 eG (fun y:x8=>((((G7 y.1.1.1.1/\G7 y.1.1.1.2)/\((G7 y.1.1.2.1.1/\G7 y.1.1.2.1.2)/\(G7 y.1.1.2.2.1/\G7 y.1.1.2.2.2)))/\(G7 y.1.2.1/\G7 y.1.2.2))/\(G7 y.2.1/\G7 y.2.2))) :=
 Ny Tryz.underlying59 rfl va4
  (lY (k:=4) Tryz.underlying59 rfl va4 (lY (k:=3) Tryz.underlying59 rfl va4 (lY (k:=2) Tryz.underlying59 rfl va4 (lY (k:=1) Tryz.underlying59 rfl va4
   (Nx Tryz.underlying59 rfl va4 (lX Tryz.underlying3 va4)) (lX Tryz.underlying3 va4) (fun _=>by kernel_rfl)) UP (fun _=>by kernel_rfl)) Bp (fun _=>by kernel_rfl)) Bp (fun _=>by kernel_rfl))
theorem aM:D8 Tryz.prog 3 (fun n:Int=>[i64 n]) G7:=zH.mem (lX Tryz.underlying3 va4)
theorem FA:D8 Tryz.prog 60 (fun l:List Int=>[C8 l]) (fun _=>True):=by
 have h0:D8 Tryz.prog 60 (fun l:List Int=>[.sl (Tryz.prog.cellsOf 3) 0 (fun n:Int=>[i64 n]) l]) (fun l=>(∀ n ∈ l,G7 n)/\l.length<=maxLen):=Z2 (d:=(0:Int)) Tryz.underlying60 va4 (zA1 va4) aM;have e:Tryz.prog.cellsOf 3=1:=by kernel_rfl
 rw[e]at h0;intro H enc w base spare held fuel cs x ht;exact D8.weak h0 (fun _ _=>trivial) ht
theorem Sm:D8 Tryz.prog 5 (fun n:Int=>[u8 n]) (fun n=>(Lit.int .u8 n).wf=true):=zH.mem (Nz Tryz.underlying5 va4)
theorem FC:D8 Tryz.prog 59 eG (fun y:x8=>((((G7 y.1.1.1.1/\G7 y.1.1.1.2)/\((G7 y.1.1.2.1.1/\G7 y.1.1.2.1.2)/\(G7 y.1.1.2.2.1/\G7 y.1.1.2.2.2)))/\(G7 y.1.2.1/\G7 y.1.2.2))/\(G7 y.2.1/\G7 y.2.2))):=zH.mem Sl
end Go.Proofs.YtdpnpdjnaimgaaaGreat.BooksIn
namespace Go.Proofs.YtdpnpdjnaimgaaaGreat.PlantIn
open Go Go.Ev Go.Proofs.Tryz.My Go.Proofs.YtdpnpdjnaimgaaaGreat.BooksIn
open Go.ChangeShapes Go.WideShapes Go.ChangeAt Go.RowKit
theorem Sq:D8 Tryz.prog 25 eF (fun y:Int×Int=>G7 y.1/\G7 y.2):=zH.mem Bp
theorem Sr:D8 Tryz.prog 23 (fun y:((Int×Int)×Int)×Int=>((([i64 y.1.1.1]++[i64 y.1.1.2])++[i64 y.1.2])++[i64 y.2])) (fun y=>(((G7 y.1.1.1/\G7 y.1.1.2)/\G7 y.1.2)/\G7 y.2)) :=
 T2 Tryz.underlying23 rfl va4
  (v5 (k:=3) Tryz.underlying23 rfl va4 (v5 (k:=2) Tryz.underlying23 rfl va4 (v5 (k:=1) Tryz.underlying23 rfl va4 (T1 Tryz.underlying23 rfl va4 aM) aM (fun _=>by kernel_rfl)) aM (fun _=>by kernel_rfl)) aM (fun _=>by kernel_rfl))
theorem PQ:D8 Tryz.prog 23 sK XI:=by
 refine D8.weak (D8.map (en':=sK) Sr (fun y=>(⟨y.1.1.1,y.1.1.2,y.1.2,y.2⟩:G3)) (fun _=>rfl)) fun x h=>by
  obtain⟨y,rfl,⟨⟨h,_⟩,_⟩,_⟩:=h;exact h
theorem UU:D8 Tryz.prog 27 (fun y:(Int×Int)×(Int×Int)=>(([i64 y.1.1]++[i64 y.1.2])++eF y.2)) (fun y=>((G7 y.1.1/\G7 y.1.2)/\(G7 y.2.1/\G7 y.2.2))) :=
 T2 Tryz.underlying27 rfl va4
  (v5 (k:=2) Tryz.underlying27 rfl va4 (v5 (k:=1) Tryz.underlying27 rfl va4 (T1 Tryz.underlying27 rfl va4 aM) aM (fun _=>by kernel_rfl)) Sq (fun _=>by kernel_rfl))
theorem Ss:D8 Tryz.prog 29 (fun y:((G3×Int)×Int)×((Int×Int)×(Int×Int))=>(((sK y.1.1.1++[i64 y.1.1.2])++[i64 y.1.2])++(([i64 y.2.1.1]++[i64 y.2.1.2])++eF y.2.2))) (fun y=>(((XI y.1.1.1/\G7 y.1.1.2)/\G7 y.1.2)/\((G7 y.2.1.1/\G7 y.2.1.2)/\(G7 y.2.2.1/\G7 y.2.2.2)))) :=
 T2 Tryz.underlying29 rfl va4
  (v5 (k:=3) Tryz.underlying29 rfl va4 (v5 (k:=2) Tryz.underlying29 rfl va4 (v5 (k:=1) Tryz.underlying29 rfl va4 (T1 Tryz.underlying29 rfl va4 PQ) aM (fun _=>by kernel_rfl)) aM (fun _=>by kernel_rfl)) UU (fun _=>by kernel_rfl))
theorem sZ:D8 Tryz.prog 29 vu BY:=by
 refine D8.weak (D8.map (en':=vu) Ss (fun y=>(⟨y.1.1.1,y.1.1.2,y.1.2,y.2.1.1,y.2.1.2,y.2.2⟩:A5)) (fun _=>rfl)) fun x h=>by
  obtain⟨y,rfl,⟨⟨a,_⟩,_⟩,_,h⟩:=h;exact⟨a,h⟩
def a3V(o:r8):Prop:=IG o.gauge/\0<=o.kind/\(0<=o.j9/\o.j9<=255)
def InOrds(l:List r8):Prop:=∀ o,o ∈ l->a3V o
theorem OS:D8 Tryz.prog 62 (fun y:((((((Int×Int)×Int)×Int)×Int)×x8)×List Int)×List Int=>((((((([u8 y.1.1.1.1.1.1.1]++[i64 y.1.1.1.1.1.1.2])++[i64 y.1.1.1.1.1.2])++[i64 y.1.1.1.1.2])++[u8 y.1.1.1.2])++eG y.1.1.2)++[C8 y.1.2])++[C8 y.2]))
  (fun y=>(((((((Lit.int .u8 y.1.1.1.1.1.1.1).wf=true/\G7 y.1.1.1.1.1.1.2)/\G7 y.1.1.1.1.1.2)/\G7 y.1.1.1.1.2)/\(Lit.int .u8 y.1.1.1.2).wf=true)/\((((G7 y.1.1.2.1.1.1.1/\G7 y.1.1.2.1.1.1.2)/\((G7 y.1.1.2.1.1.2.1.1/\G7 y.1.1.2.1.1.2.1.2)/\(G7 y.1.1.2.1.1.2.2.1/\G7 y.1.1.2.1.1.2.2.2)))/\(G7 y.1.1.2.1.2.1/\G7 y.1.1.2.1.2.2))/\(G7 y.1.1.2.2.1/\G7 y.1.1.2.2.2)))/\True)/\True) :=
 T2 Tryz.underlying62 rfl va4
  (v5 (k:=7) Tryz.underlying62 rfl va4 (v5 (k:=6) Tryz.underlying62 rfl va4 (v5 (k:=5) Tryz.underlying62 rfl va4 (v5 (k:=4) Tryz.underlying62 rfl va4 (v5 (k:=3) Tryz.underlying62 rfl va4 (v5 (k:=2) Tryz.underlying62 rfl va4 (v5 (k:=1) Tryz.underlying62 rfl va4
   (T1 Tryz.underlying62 rfl va4 Sm) aM (fun _=>by kernel_rfl)) aM (fun _=>by kernel_rfl)) aM (fun _=>by kernel_rfl)) Sm (fun _=>by kernel_rfl)) FC (fun _=>by kernel_rfl)) FA (fun _=>by kernel_rfl)) FA (fun _=>by kernel_rfl))
theorem DR:D8 Tryz.prog 62 bD a3V:=by
 refine D8.weak (D8.map (en':=bD) OS (fun y=>(⟨y.1.1.1.1.1.1.1,y.1.1.1.1.1.1.2,y.1.1.1.1.1.2,y.1.1.1.1.2,y.1.1.1.2,y.1.1.2,y.1.2,y.2⟩:r8)) (fun _=>rfl)) fun x h=>by
  obtain⟨y,rfl,h,_⟩:=h;obtain⟨⟨h5,g⟩,_⟩:=h;obtain⟨⟨⟨⟨h1,_⟩,_⟩,_⟩,h4⟩:=h5;have h0:IntKind.u8.min=0:=by kernel_rfl
  have hx:IntKind.u8.max=255:=by kernel_rfl
  simp[Lit.wf]at h1 h4;rw[h0,hx]at h1 h4;exact⟨⟨g.1.1.1.1,g.1.1.1.2,⟨g.1.1.2.1.1,g.1.1.2.1.2,g.1.1.2.2.1,g.1.1.2.2.2⟩,g.1.2.1,g.1.2.2,g.2.1,g.2.2⟩,h1.1,h4⟩
theorem jF:D8 Tryz.prog 87 (fun l:List r8=>[cG l]) (fun l=>InOrds l/\l.length<=maxLen):=by
 have h0:D8 Tryz.prog 87 (fun l:List r8=>[.sl (Tryz.prog.cellsOf 62) B7 bD l]) (fun l=>(∀ n ∈ l,a3V n)/\l.length<=maxLen):=Z2 (d:=B7) Tryz.underlying87 va4 (zA1 va4) DR;have e:Tryz.prog.cellsOf 62=17:=by kernel_rfl
 rw[e]at h0;intro H enc w base spare held fuel cs x ht;exact D8.weak h0 (fun _ h=>h) ht

end Go.Proofs.YtdpnpdjnaimgaaaGreat.PlantIn
