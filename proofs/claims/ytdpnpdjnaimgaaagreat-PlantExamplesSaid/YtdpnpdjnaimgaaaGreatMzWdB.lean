/- Helper lemmas. -/
import Derived.Test.YtdpnpdjnaimgaaaGreatRows
import Derived.OpenShut
import Derived.ChangeOld
import Derived.Test.YtdpnpdjnaimgaaaGreatMzWbX
set_option linter.unusedVariables false
set_option linter.unusedSimpArgs false
set_option maxRecDepth 100000
set_option maxHeartbeats 0
namespace Go.Proofs.YtdpnpdjnaimgaaaGreat.BooksIn
open Go Go.Ev Go.Proofs.Tryz.My
open Go.ChangeShapes Go.WideShapes Go.ChangeAt Go.RowKit
def IB (b:o7):Prop:=∀ i,IG (b.b8.getD i r9).b9
theorem Bp:zH Tryz.prog 25 eF (fun y:Int×Int=>G7 y.1/\G7 y.2) :=
 EG Tryz.underlying25 rfl rfl rfl (by kernel_rfl) (by kernel_rfl) (lX Tryz.underlying3 (by kernel_rfl)) (lX Tryz.underlying3 (by kernel_rfl)) (fun _=>by kernel_rfl)
theorem UP:zH Tryz.prog 57 eS (fun y:X2=>(G7 y.1.1/\G7 y.1.2)/\(G7 y.2.1/\G7 y.2.2)) :=
 EG Tryz.underlying57 rfl rfl rfl (by kernel_rfl) (by kernel_rfl) Bp Bp (fun _=>by kernel_rfl)
theorem Sl:zH Tryz.prog 59 eG (fun y:x8=>((((G7 y.1.1.1.1/\G7 y.1.1.1.2)/\((G7 y.1.1.2.1.1/\G7 y.1.1.2.1.2)/\(G7 y.1.1.2.2.1/\G7 y.1.1.2.2.2)))/\(G7 y.1.2.1/\G7 y.1.2.2))/\(G7 y.2.1/\G7 y.2.2))) :=
 Ny Tryz.underlying59 rfl (by kernel_rfl)
  (lY (k:=4) Tryz.underlying59 rfl (by kernel_rfl) (lY (k:=3) Tryz.underlying59 rfl (by kernel_rfl) (lY (k:=2) Tryz.underlying59 rfl (by kernel_rfl) (lY (k:=1) Tryz.underlying59 rfl (by kernel_rfl)
   (Nx Tryz.underlying59 rfl (by kernel_rfl) (lX Tryz.underlying3 (by kernel_rfl))) (lX Tryz.underlying3 (by kernel_rfl)) (fun _=>by kernel_rfl)) UP (fun _=>by kernel_rfl)) Bp (fun _=>by kernel_rfl)) Bp (fun _=>by kernel_rfl))
theorem aM:D8 Tryz.prog 3 (fun n:Int=>[i64 n]) G7:=zH.mem (lX Tryz.underlying3 (by kernel_rfl))
theorem FA:D8 Tryz.prog 60 (fun l:List Int=>[C8 l]) (fun _=>True):=by
 have h0:D8 Tryz.prog 60 (fun l:List Int=>[.sl (Tryz.prog.cellsOf 3) 0 (fun n:Int=>[i64 n]) l]) (fun l=>(∀ n ∈ l,G7 n)/\l.length<=maxLen):=Z2 (d:=(0:Int)) Tryz.underlying60 (by kernel_rfl) (of_decide_eq_true (by kernel_rfl)) aM
 have e:Tryz.prog.cellsOf 3=1:=by kernel_rfl
 rw [e] at h0
 intro H enc w base spare held fuel cs x ht
 exact D8.weak h0 (fun _ _=>trivial) ht
theorem Sm:D8 Tryz.prog 5 (fun n:Int=>[u8 n]) (fun n=>(Lit.int .u8 n).wf=true):=zH.mem (Nz Tryz.underlying5 (by kernel_rfl))
theorem XS:D8 Tryz.prog 33 (fun l:List Int=>[Iy l]) (fun _=>True):=by
 have h0:D8 Tryz.prog 33 (fun l:List Int=>[.sl (Tryz.prog.cellsOf 5) 0 (fun n:Int=>[u8 n]) l]) (fun l=>(∀ n ∈ l,(Lit.int .u8 n).wf=true)/\l.length<=maxLen):=Z2 (d:=(0:Int)) Tryz.underlying33 (by kernel_rfl) (of_decide_eq_true (by kernel_rfl)) Sm
 have e:Tryz.prog.cellsOf 5=1:=by kernel_rfl
 rw [e] at h0
 intro H enc w base spare held fuel cs x ht
 exact D8.weak h0 (fun _ _=>trivial) ht
theorem FC:D8 Tryz.prog 59 eG (fun y:x8=>((((G7 y.1.1.1.1/\G7 y.1.1.1.2)/\((G7 y.1.1.2.1.1/\G7 y.1.1.2.1.2)/\(G7 y.1.1.2.2.1/\G7 y.1.1.2.2.2)))/\(G7 y.1.2.1/\G7 y.1.2.2))/\(G7 y.2.1/\G7 y.2.2))):=zH.mem Sl
theorem UQ:D8 Tryz.prog 122 (fun y:((Int×x8)×List Int)×Int=>((([i64 y.1.1.1]++eG y.1.1.2)++[C8 y.1.2])++[u8 y.2])) (fun y=>((G7 y.1.1.1/\((((G7 y.1.1.2.1.1.1.1/\G7 y.1.1.2.1.1.1.2)/\((G7 y.1.1.2.1.1.2.1.1/\G7 y.1.1.2.1.1.2.1.2)/\(G7 y.1.1.2.1.1.2.2.1/\G7 y.1.1.2.1.1.2.2.2)))/\(G7 y.1.1.2.1.2.1/\G7 y.1.1.2.1.2.2))/\(G7 y.1.1.2.2.1/\G7 y.1.1.2.2.2)))/\True)/\(Lit.int .u8 y.2).wf=true) :=
 T2 Tryz.underlying122 rfl (by kernel_rfl)
  (v5 (k:=3) Tryz.underlying122 rfl (by kernel_rfl) (v5 (k:=2) Tryz.underlying122 rfl (by kernel_rfl) (v5 (k:=1) Tryz.underlying122 rfl (by kernel_rfl)
   (T1 Tryz.underlying122 rfl (by kernel_rfl) aM) FC (fun _=>by kernel_rfl)) FA (fun _=>by kernel_rfl)) Sm (fun _=>by kernel_rfl))
theorem XT:D8 Tryz.prog 122 eJ (fun x=>IG x.b9):=by
 refine D8.weak (D8.map (en':=eJ) UQ (fun y=>(⟨y.1.1.1,y.1.1.2,y.1.2,y.2⟩:A9)) (fun _=>rfl)) fun x h=>by
  obtain ⟨y,rfl,⟨⟨_,⟨⟨a,b⟩,c⟩⟩,_⟩,_⟩:=h
  exact ⟨a.1.1,a.1.2,⟨a.2.1.1,a.2.1.2,a.2.2.1,a.2.2.2⟩,⟨b.1,b.2,c.1,c.2⟩⟩
theorem UR:D8 Tryz.prog 34 (fun l:List A9=>[pJ l]) (fun l=>∀ x ∈ l,IG x.b9):=by
 have h0:D8 Tryz.prog 34 (fun l:List A9=>[.sl (Tryz.prog.cellsOf 122) r9 eJ l]) (fun l=>(∀ n ∈ l,IG n.b9)/\l.length<=maxLen):=Z2 (d:=r9) Tryz.underlying34 (by kernel_rfl) (of_decide_eq_true (by kernel_rfl)) XT
 have e:Tryz.prog.cellsOf 122=13:=by kernel_rfl
 rw [e] at h0
 intro H enc w base spare held fuel cs x ht
 exact D8.weak h0 (fun _ h=>h.1) ht
theorem FD:D8 Tryz.prog 4 (fun b:Bool=>[.bool b]) (fun _=>True):=GA Tryz.underlying4 (by kernel_rfl)
theorem US:D8 Tryz.prog 80 (fun y:((((Int×Int)×Int)×List Int)×Int)×Bool=>((((([i64 y.1.1.1.1.1]++[i64 y.1.1.1.1.2])++[i64 y.1.1.1.2])++[C8 y.1.1.2])++[u8 y.1.2])++[.bool y.2])) (fun y=>((((G7 y.1.1.1.1.1/\G7 y.1.1.1.1.2)/\G7 y.1.1.1.2)/\True)/\(Lit.int .u8 y.1.2).wf=true)/\True) :=
 T2 Tryz.underlying80 rfl (by kernel_rfl)
  (v5 (k:=5) Tryz.underlying80 rfl (by kernel_rfl) (v5 (k:=4) Tryz.underlying80 rfl (by kernel_rfl) (v5 (k:=3) Tryz.underlying80 rfl (by kernel_rfl) (v5 (k:=2) Tryz.underlying80 rfl (by kernel_rfl) (v5 (k:=1) Tryz.underlying80 rfl (by kernel_rfl)
   (T1 Tryz.underlying80 rfl (by kernel_rfl) aM) aM (fun _=>by kernel_rfl)) aM (fun _=>by kernel_rfl)) FA (fun _=>by kernel_rfl)) Sm (fun _=>by kernel_rfl)) FD (fun _=>by kernel_rfl))
theorem XU:D8 Tryz.prog 80 V9 (fun _=>True):=by
 refine D8.weak (D8.map (en':=V9) US (fun y=>(⟨y.1.1.1.1.1,y.1.1.1.1.2,y.1.1.1.2,y.1.1.2,y.1.2,y.2⟩:B8)) (fun _=>rfl)) fun _ _=>trivial
theorem UT:D8 Tryz.prog 35 (fun l:List B8=>[mw l]) (fun _=>True):=by
 have h0:D8 Tryz.prog 35 (fun l:List B8=>[.sl (Tryz.prog.cellsOf 80) w9 V9 l]) (fun l=>(∀ n ∈ l,True)/\l.length<=maxLen):=Z2 (d:=w9) Tryz.underlying35 (by kernel_rfl) (of_decide_eq_true (by kernel_rfl)) XU
 have e:Tryz.prog.cellsOf 80=6:=by kernel_rfl
 rw [e] at h0
 intro H enc w base spare held fuel cs x ht
 exact D8.weak h0 (fun _ _=>trivial) ht
theorem OM:D8 Tryz.prog 37 (fun y:(((Int×List Int)×List A9)×Int)×List B8=>(((([i64 y.1.1.1.1]++[Iy y.1.1.1.2])++[pJ y.1.1.2])++[i64 y.1.2])++[mw y.2])) (fun y=>(((G7 y.1.1.1.1/\True)/\∀ x ∈ y.1.1.2,IG x.b9)/\G7 y.1.2)/\True) :=
 T2 Tryz.underlying37 rfl (by kernel_rfl)
  (v5 (k:=4) Tryz.underlying37 rfl (by kernel_rfl) (v5 (k:=3) Tryz.underlying37 rfl (by kernel_rfl) (v5 (k:=2) Tryz.underlying37 rfl (by kernel_rfl) (v5 (k:=1) Tryz.underlying37 rfl (by kernel_rfl)
   (T1 Tryz.underlying37 rfl (by kernel_rfl) aM) XS (fun _=>by kernel_rfl)) UR (fun _=>by kernel_rfl)) aM (fun _=>by kernel_rfl)) UT (fun _=>by kernel_rfl))
theorem ig0:IG r9.b9:=by
 have h:G7 (0:Int):=by first|(unfold G7;decide)|decide|exact ⟨by decide,by decide⟩
 exact ⟨h,h,⟨h,h,h,h⟩,⟨h,h,h,h⟩⟩
theorem Sp:D8 Tryz.prog 37 eB IB:=by
 refine D8.weak (D8.map (en':=eB) OM (fun y=>(⟨y.1.1.1.1,y.1.1.1.2,y.1.1.2,y.1.2,y.2⟩:o7)) (fun _=>rfl)) fun x h=>by
  obtain ⟨y,rfl,⟨⟨_,h⟩,_⟩,_⟩:=h
  intro i
  by_cases hi:i < y.1.1.2.length
  ·have e:y.1.1.2.getD i r9=y.1.1.2[i]:=by simp [List.getD,hi]
   show IG (y.1.1.2.getD i r9).b9
   rw [e]
   exact h _ (List.getElem_mem hi)
  ·have e:y.1.1.2.getD i r9=r9:=by rw [List.getD,List.getElem?_eq_none (by omega)];rfl
   show IG (y.1.1.2.getD i r9).b9
   rw [e]
   exact ig0
end Go.Proofs.YtdpnpdjnaimgaaaGreat.BooksIn
namespace Go.Proofs.YtdpnpdjnaimgaaaGreat.PlantIn
open Go Go.Ev Go.Proofs.Tryz.My Go.Proofs.YtdpnpdjnaimgaaaGreat.BooksIn
open Go.ChangeShapes Go.WideShapes Go.ChangeAt Go.RowKit
def IW (w:n9):Prop:=BooksIn.IB w.l9/\BY w.line/\G7 w.o8.n8.step
theorem Sq:D8 Tryz.prog 25 eF (fun y:Int×Int=>G7 y.1/\G7 y.2):=zH.mem Bp
theorem Sr:D8 Tryz.prog 23 (fun y:((Int×Int)×Int)×Int=>((([i64 y.1.1.1]++[i64 y.1.1.2])++[i64 y.1.2])++[i64 y.2])) (fun y=>(((G7 y.1.1.1/\G7 y.1.1.2)/\G7 y.1.2)/\G7 y.2)) :=
 T2 Tryz.underlying23 rfl (by kernel_rfl)
  (v5 (k:=3) Tryz.underlying23 rfl (by kernel_rfl) (v5 (k:=2) Tryz.underlying23 rfl (by kernel_rfl) (v5 (k:=1) Tryz.underlying23 rfl (by kernel_rfl) (T1 Tryz.underlying23 rfl (by kernel_rfl) aM) aM (fun _=>by kernel_rfl)) aM (fun _=>by kernel_rfl)) aM (fun _=>by kernel_rfl))
theorem PQ:D8 Tryz.prog 23 sK XI:=by
 refine D8.weak (D8.map (en':=sK) Sr (fun y=>(⟨y.1.1.1,y.1.1.2,y.1.2,y.2⟩:G3)) (fun _=>rfl)) fun x h=>by
  obtain ⟨y,rfl,⟨⟨h,_⟩,_⟩,_⟩:=h
  exact h
theorem UU:D8 Tryz.prog 27 (fun y:(Int×Int)×(Int×Int)=>(([i64 y.1.1]++[i64 y.1.2])++eF y.2)) (fun y=>((G7 y.1.1/\G7 y.1.2)/\(G7 y.2.1/\G7 y.2.2))) :=
 T2 Tryz.underlying27 rfl (by kernel_rfl)
  (v5 (k:=2) Tryz.underlying27 rfl (by kernel_rfl) (v5 (k:=1) Tryz.underlying27 rfl (by kernel_rfl) (T1 Tryz.underlying27 rfl (by kernel_rfl) aM) aM (fun _=>by kernel_rfl)) Sq (fun _=>by kernel_rfl))
theorem Ss:D8 Tryz.prog 29 (fun y:((G3×Int)×Int)×((Int×Int)×(Int×Int))=>(((sK y.1.1.1++[i64 y.1.1.2])++[i64 y.1.2])++(([i64 y.2.1.1]++[i64 y.2.1.2])++eF y.2.2))) (fun y=>(((XI y.1.1.1/\G7 y.1.1.2)/\G7 y.1.2)/\((G7 y.2.1.1/\G7 y.2.1.2)/\(G7 y.2.2.1/\G7 y.2.2.2)))) :=
 T2 Tryz.underlying29 rfl (by kernel_rfl)
  (v5 (k:=3) Tryz.underlying29 rfl (by kernel_rfl) (v5 (k:=2) Tryz.underlying29 rfl (by kernel_rfl) (v5 (k:=1) Tryz.underlying29 rfl (by kernel_rfl) (T1 Tryz.underlying29 rfl (by kernel_rfl) PQ) aM (fun _=>by kernel_rfl)) aM (fun _=>by kernel_rfl)) UU (fun _=>by kernel_rfl))
theorem sZ:D8 Tryz.prog 29 vu BY:=by
 refine D8.weak (D8.map (en':=vu) Ss (fun y=>(⟨y.1.1.1,y.1.1.2,y.1.2,y.2.1.1,y.2.1.2,y.2.2⟩:A5)) (fun _=>rfl)) fun x h=>by
  obtain ⟨y,rfl,⟨⟨a,_⟩,_⟩,_,h⟩:=h
  exact ⟨a,h⟩
theorem Su:D8 Tryz.prog 78 (fun y:((Int×Int)×Int)×Bool=>((([i64 y.1.1.1]++[i64 y.1.1.2])++[u8 y.1.2])++[.bool y.2])) (fun y=>(((G7 y.1.1.1/\G7 y.1.1.2)/\(Lit.int .u8 y.1.2).wf=true)/\True)) :=
 T2 Tryz.underlying78 rfl (by kernel_rfl)
  (v5 (k:=3) Tryz.underlying78 rfl (by kernel_rfl) (v5 (k:=2) Tryz.underlying78 rfl (by kernel_rfl) (v5 (k:=1) Tryz.underlying78 rfl (by kernel_rfl) (T1 Tryz.underlying78 rfl (by kernel_rfl) aM) aM (fun _=>by kernel_rfl)) Sm (fun _=>by kernel_rfl)) FD (fun _=>by kernel_rfl))
theorem UW:D8 Tryz.prog 78 I1 (fun x=>True):=by
 refine D8.weak (D8.map (en':=I1) Su (fun y=>(⟨y.1.1.1,y.1.1.2,y.1.2,y.2⟩:x7)) (fun _=>rfl)) fun x h=>trivial
theorem Sv:D8 Tryz.prog 30 (fun l:List x7=>[U1 l]) (fun _=>True):=by
 have h0:D8 Tryz.prog 30 (fun l:List x7=>[.sl (Tryz.prog.cellsOf 78) n4 I1 l]) (fun l=>(∀ n ∈ l,True)/\l.length<=maxLen):=Z2 (d:=n4) Tryz.underlying30 (by kernel_rfl) (of_decide_eq_true (by kernel_rfl)) UW
 have e:Tryz.prog.cellsOf 78=4:=by kernel_rfl
 rw [e] at h0
 intro H enc w base spare held fuel cs x ht
 exact D8.weak h0 (fun _ _=>trivial) ht
theorem ON:D8 Tryz.prog 32 (fun y:((G3×Int)×Int)×List x7=>(((sK y.1.1.1++[i64 y.1.1.2])++[i64 y.1.2])++[U1 y.2])) (fun y=>(((XI y.1.1.1/\G7 y.1.1.2)/\G7 y.1.2)/\True)) :=
 T2 Tryz.underlying32 rfl (by kernel_rfl)
  (v5 (k:=3) Tryz.underlying32 rfl (by kernel_rfl) (v5 (k:=2) Tryz.underlying32 rfl (by kernel_rfl) (v5 (k:=1) Tryz.underlying32 rfl (by kernel_rfl) (T1 Tryz.underlying32 rfl (by kernel_rfl) PQ) aM (fun _=>by kernel_rfl)) aM (fun _=>by kernel_rfl)) Sv (fun _=>by kernel_rfl))
theorem Sw:D8 Tryz.prog 32 xT (fun t=>G7 t.n8.step):=by
 refine D8.weak (D8.map (en':=xT) ON (fun y=>(⟨y.1.1.1,y.1.1.2,y.1.2,y.2⟩:w8)) (fun _=>rfl)) fun x h=>by
  obtain ⟨y,rfl,⟨⟨h,_⟩,_⟩,_⟩:=h
  exact h
theorem OO:D8 Tryz.prog 76 (fun y:(((((Int×Int)×Int)×Int)×Int)×Int)×Bool=>(((((([i64 y.1.1.1.1.1.1]++[i64 y.1.1.1.1.1.2])++[i64 y.1.1.1.1.2])++[u8 y.1.1.1.2])++[i64 y.1.1.2])++[i64 y.1.2])++[.bool y.2])) (fun y=>((((((G7 y.1.1.1.1.1.1/\G7 y.1.1.1.1.1.2)/\G7 y.1.1.1.1.2)/\(Lit.int .u8 y.1.1.1.2).wf=true)/\G7 y.1.1.2)/\G7 y.1.2)/\True)) :=
 T2 Tryz.underlying76 rfl (by kernel_rfl)
  (v5 (k:=6) Tryz.underlying76 rfl (by kernel_rfl) (v5 (k:=5) Tryz.underlying76 rfl (by kernel_rfl) (v5 (k:=4) Tryz.underlying76 rfl (by kernel_rfl) (v5 (k:=3) Tryz.underlying76 rfl (by kernel_rfl) (v5 (k:=2) Tryz.underlying76 rfl (by kernel_rfl) (v5 (k:=1) Tryz.underlying76 rfl (by kernel_rfl) (T1 Tryz.underlying76 rfl (by kernel_rfl) aM) aM (fun _=>by kernel_rfl)) aM (fun _=>by kernel_rfl)) Sm (fun _=>by kernel_rfl)) aM (fun _=>by kernel_rfl)) aM (fun _=>by kernel_rfl)) FD (fun _=>by kernel_rfl))
theorem Sx:D8 Tryz.prog 76 J6 (fun x=>True):=by
 refine D8.weak (D8.map (en':=J6) OO (fun y=>(⟨y.1.1.1.1.1.1,y.1.1.1.1.1.2,y.1.1.1.1.2,y.1.1.1.2,y.1.1.2,y.1.2,y.2⟩:B6)) (fun _=>rfl)) fun x h=>trivial
theorem OP:D8 Tryz.prog 40 (fun l:List B6=>[ua l]) (fun _=>True):=by
 have h0:D8 Tryz.prog 40 (fun l:List B6=>[.sl (Tryz.prog.cellsOf 76) n5 J6 l]) (fun l=>(∀ n ∈ l,True)/\l.length<=maxLen):=Z2 (d:=n5) Tryz.underlying40 (by kernel_rfl) (of_decide_eq_true (by kernel_rfl)) Sx
 have e:Tryz.prog.cellsOf 76=7:=by kernel_rfl
 rw [e] at h0
 intro H enc w base spare held fuel cs x ht
 exact D8.weak h0 (fun _ _=>trivial) ht
theorem OQ:D8 Tryz.prog 39 (fun y:(Int×Int)×Bool=>(([i64 y.1.1]++[i64 y.1.2])++[.bool y.2])) (fun y=>((G7 y.1.1/\G7 y.1.2)/\True)) :=
 T2 Tryz.underlying39 rfl (by kernel_rfl)
  (v5 (k:=2) Tryz.underlying39 rfl (by kernel_rfl) (v5 (k:=1) Tryz.underlying39 rfl (by kernel_rfl) (T1 Tryz.underlying39 rfl (by kernel_rfl) aM) aM (fun _=>by kernel_rfl)) FD (fun _=>by kernel_rfl))
theorem Sy:D8 Tryz.prog 39 eQ (fun x=>True):=by
 refine D8.weak (D8.map (en':=eQ) OQ (fun y=>(⟨y.1.1,y.1.2,y.2⟩:P8)) (fun _=>rfl)) fun x h=>trivial
theorem OR:D8 Tryz.prog 42 (fun y:(((A5×w8)×o7)×P8)×List B6=>((((vu y.1.1.1.1++xT y.1.1.1.2)++eB y.1.1.2)++eQ y.1.2)++[ua y.2])) (fun y=>((((BY y.1.1.1.1/\G7 y.1.1.1.2.n8.step)/\BooksIn.IB y.1.1.2)/\True)/\True)) :=
 T2 Tryz.underlying42 rfl (by kernel_rfl)
  (v5 (k:=4) Tryz.underlying42 rfl (by kernel_rfl) (v5 (k:=3) Tryz.underlying42 rfl (by kernel_rfl) (v5 (k:=2) Tryz.underlying42 rfl (by kernel_rfl) (v5 (k:=1) Tryz.underlying42 rfl (by kernel_rfl) (T1 Tryz.underlying42 rfl (by kernel_rfl) sZ) Sw (fun _=>by kernel_rfl)) Sp (fun _=>by kernel_rfl)) Sy (fun _=>by kernel_rfl)) OP (fun _=>by kernel_rfl))
theorem Sz:D8 Tryz.prog 42 eW (fun x=>IW x):=by
 refine D8.weak (D8.map (en':=eW) OR (fun y=>(⟨y.1.1.1.1,y.1.1.1.2,y.1.1.2,y.1.2,y.2⟩:n9)) (fun _=>rfl)) fun x h=>by
  obtain ⟨y,rfl,⟨⟨⟨h1,h2⟩,h3⟩,_⟩,_⟩:=h
  exact ⟨h3,h1,h2⟩
def InOrd (o:r8):Prop:=IG o.b9/\0<=o.kind/\(0<=o.j9/\o.j9<=255)
def InOrds (l:List r8):Prop:=∀ o,o ∈ l->InOrd o
theorem OS:D8 Tryz.prog 62 (fun y:((((((Int×Int)×Int)×Int)×Int)×x8)×List Int)×List Int=>((((((([u8 y.1.1.1.1.1.1.1]++[i64 y.1.1.1.1.1.1.2])++[i64 y.1.1.1.1.1.2])++[i64 y.1.1.1.1.2])++[u8 y.1.1.1.2])++eG y.1.1.2)++[C8 y.1.2])++[C8 y.2]))
  (fun y=>(((((((Lit.int .u8 y.1.1.1.1.1.1.1).wf=true/\G7 y.1.1.1.1.1.1.2)/\G7 y.1.1.1.1.1.2)/\G7 y.1.1.1.1.2)/\(Lit.int .u8 y.1.1.1.2).wf=true)/\((((G7 y.1.1.2.1.1.1.1/\G7 y.1.1.2.1.1.1.2)/\((G7 y.1.1.2.1.1.2.1.1/\G7 y.1.1.2.1.1.2.1.2)/\(G7 y.1.1.2.1.1.2.2.1/\G7 y.1.1.2.1.1.2.2.2)))/\(G7 y.1.1.2.1.2.1/\G7 y.1.1.2.1.2.2))/\(G7 y.1.1.2.2.1/\G7 y.1.1.2.2.2)))/\True)/\True) :=
 T2 Tryz.underlying62 rfl (by kernel_rfl)
  (v5 (k:=7) Tryz.underlying62 rfl (by kernel_rfl) (v5 (k:=6) Tryz.underlying62 rfl (by kernel_rfl) (v5 (k:=5) Tryz.underlying62 rfl (by kernel_rfl) (v5 (k:=4) Tryz.underlying62 rfl (by kernel_rfl) (v5 (k:=3) Tryz.underlying62 rfl (by kernel_rfl) (v5 (k:=2) Tryz.underlying62 rfl (by kernel_rfl) (v5 (k:=1) Tryz.underlying62 rfl (by kernel_rfl)
   (T1 Tryz.underlying62 rfl (by kernel_rfl) Sm) aM (fun _=>by kernel_rfl)) aM (fun _=>by kernel_rfl)) aM (fun _=>by kernel_rfl)) Sm (fun _=>by kernel_rfl)) FC (fun _=>by kernel_rfl)) FA (fun _=>by kernel_rfl)) FA (fun _=>by kernel_rfl))
theorem DR:D8 Tryz.prog 62 bD InOrd:=by
 refine D8.weak (D8.map (en':=bD) OS (fun y=>(⟨y.1.1.1.1.1.1.1,y.1.1.1.1.1.1.2,y.1.1.1.1.1.2,y.1.1.1.1.2,y.1.1.1.2,y.1.1.2,y.1.2,y.2⟩:r8)) (fun _=>rfl)) fun x h=>by
  obtain ⟨y,rfl,h,_⟩:=h
  obtain ⟨⟨h5,g⟩,_⟩:=h
  obtain ⟨⟨⟨⟨h1,_⟩,_⟩,_⟩,h4⟩:=h5
  have h0:IntKind.u8.min=0:=by kernel_rfl
  have hx:IntKind.u8.max=255:=by kernel_rfl
  simp [Lit.wf] at h1 h4
  rw [h0,hx] at h1 h4
  exact ⟨⟨g.1.1.1.1,g.1.1.1.2,⟨g.1.1.2.1.1,g.1.1.2.1.2,g.1.1.2.2.1,g.1.1.2.2.2⟩,g.1.2.1,g.1.2.2,g.2.1,g.2.2⟩,h1.1,h4⟩
theorem jF:D8 Tryz.prog 87 (fun l:List r8=>[cG l]) (fun l=>InOrds l/\l.length<=maxLen):=by
 have h0:D8 Tryz.prog 87 (fun l:List r8=>[.sl (Tryz.prog.cellsOf 62) B7 bD l]) (fun l=>(∀ n ∈ l,InOrd n)/\l.length<=maxLen):=Z2 (d:=B7) Tryz.underlying87 (by kernel_rfl) (of_decide_eq_true (by kernel_rfl)) DR
 have e:Tryz.prog.cellsOf 62=17:=by kernel_rfl
 rw [e] at h0
 intro H enc w base spare held fuel cs x ht
 exact D8.weak h0 (fun _ h=>h) ht

end Go.Proofs.YtdpnpdjnaimgaaaGreat.PlantIn
