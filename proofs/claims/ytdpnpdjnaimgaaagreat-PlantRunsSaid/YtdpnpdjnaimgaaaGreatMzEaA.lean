/- Helper lemmas. -/
import Derived.Test.YtdpnpdjnaimgaaaGreatMzExB
set_option linter.unusedVariables false
set_option linter.unusedSimpArgs false
set_option maxRecDepth 100000
set_option maxHeartbeats 0
namespace Go.Proofs.Tryz.My
open Go Go.Ev
def oZ(op:Int×Int->Int×Int->(Int×Int)×Int)(a b:Int×Int):(Int×Int)×Int:=if r7 a && r7 b then op a b else((0,0),8)
theorem NM(D:FuncId)(op:Int×Int->Int×Int->(Int×Int)×Int)(hD:∀ a b,r7 a=true->r7 b=true->va6 D [fr a,fr b] (.tup [fr (op a b).1,i64 (op a b).2]))(a b:Int×Int) :
  va6 317 [fr a,fr b,.fn (.func D) [] []] (.tup [fr (oZ op a b).1,i64 (oZ op a b).2]):=by
 have c:=uN a b;have h:oZ op a b=if r7 a && r7 b then op a b else((0,0),8):=rfl
 rw[h];cases ha:r7 a
 ·rw[ha]at c;refine pF Tryz.func317 ?_;conv=>whnf
  refine vb7 ?_;(repeat intro hh);all_goals simp
 cases hb:r7 b
 ·rw[ha,hb]at c;refine pF Tryz.func317 ?_;conv=>whnf
  refine vb7 ?_;(repeat intro hh);all_goals simp
 rw[ha,hb]at c;have c2:=hD a b ha hb;generalize op a b=r at *
 refine pF Tryz.func317 ?_;conv=>whnf
 refine vb7 ?_;(repeat intro hh);all_goals simp
theorem Ra(a b:Int×Int):va6 288 [fr a,fr b] (.tup [fr (oZ lZ a b).1,i64 (oZ lZ a b).2]):=by
 have c:=NM 250 lZ Km a b;generalize oZ lZ a b=r at *
 refine pF Tryz.func288 ?_;conv=>whnf
 try exact va1
def rN(a b:X2):X2×Int:=if z7 a && z7 b then(if z7 (X7 a.1 b.1,X6 a.2 b.2)then((X7 a.1 b.1,X6 a.2 b.2),0)else(zS,6))else(zS,8)
theorem NN(a b:X2):va6 149 [sp a,sp b] (.tup [sp (rN a b).1,i64 (rN a b).2]):=by
 have c:=nz a b;have h:rN a b=if z7 a && z7 b then(if z7 (X7 a.1 b.1,X6 a.2 b.2)then((X7 a.1 b.1,X6 a.2 b.2),0)else(zS,6))else(zS,8):=rfl
 rw[h];cases ha:z7 a
 ·rw[ha]at c;refine pF Tryz.func149 ?_;conv=>whnf
  refine vb7 ?_;(repeat intro hh);all_goals simp
 cases hb:z7 b
 ·rw[ha,hb]at c;refine pF Tryz.func149 ?_;conv=>whnf
  refine vb7 ?_;(repeat intro hh);all_goals simp
 rw[ha,hb]at c;obtain⟨a1,a2,_⟩:=T6.1 ha;obtain⟨b1,b2,_⟩:=T6.1 hb;have c2:=rH a.1 b.1 a1 b1;have c3:=uU a.2 b.2 a2 b2;have c4:=uO (X7 a.1 b.1,X6 a.2 b.2);generalize X7 a.1 b.1=x at *
 generalize X6 a.2 b.2=y at *
 cases hs:z7 (x,y)
 ·rw[hs]at c4;refine pF Tryz.func149 ?_;conv=>whnf
  refine vb7 ?_;(repeat intro hh);all_goals simp
 ·rw[hs]at c4;refine pF Tryz.func149 ?_;conv=>whnf
  refine vb7 ?_;(repeat intro hh);all_goals simp
theorem mq{a b:X2}(h:(P0 a b).2=0):z7 a=true/\z7 b=true/\z7 (P0 a b).1=true:=by
 unfold P0 at h ⊢;cases ha:z7 a<;>cases hb:z7 b<;>rw[ha,hb]at h<;>simp at h
 exact⟨rfl,rfl,(rI mg _ (br ha hb) (by simp[dk]) h).1⟩

end Go.Proofs.Tryz.My
