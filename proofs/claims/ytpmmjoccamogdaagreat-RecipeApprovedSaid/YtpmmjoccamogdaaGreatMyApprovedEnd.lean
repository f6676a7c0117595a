/- RecipeApproved of layer 10: no verdict without a recipe that two others than its author, one of them of quality, had approved, and each verdict is what its gauge measures. -/
import Derived.Test.YtpmmjoccamogdaaGreatMyBj4
import Derived.Test.YtpmmjoccamogdaaGreatMyBd1
import Derived.Test.YtpmmjoccamogdaaGreatMyIniA
set_option linter.unusedVariables false
set_option linter.unusedSimpArgs false
set_option maxRecDepth 100000
set_option maxHeartbeats 0
namespace Go.Proofs.YtpmmjoccamogdaaGreat.BooksIn
open Go Go.Ev Go.Proofs.Tryz.My
open Go.ChangeShapes Go.WideShapes Go.ChangeAt Go.RowKit
theorem Gm:U4 Tryz.prog 22 (fun l:List M9=>[zz l]) (fun _=>True):=by
 have h0:U4 Tryz.prog 22 (fun l:List M9=>[.sl (Tryz.prog.cellsOf 46) n9 zb l]) (fun l=>(∀ n ∈ l,True)/\l.length<=maxLen):=jO (d:=n9) Tryz.underlying22 (by kernel_rfl) (of_decide_eq_true (by kernel_rfl)) Jf
 have e:Tryz.prog.cellsOf 46=15:=by kernel_rfl
 rw [e] at h0
 intro H enc w base spare held fuel cs x ht
 exact U4.weak h0 (fun _ _=>trivial) ht
end Go.Proofs.YtpmmjoccamogdaaGreat.BooksIn
namespace Go.Proofs.YtpmmjoccamogdaaGreat.RecipeApprovedDone
open Go Go.Ev Go.Proofs.Tryz.My Go.Proofs.YtpmmjoccamogdaaGreat.BooksIn
open Go.ChangeShapes Go.WideShapes Go.ChangeAt Go.RowKit
theorem own:ownKnob Tryz.prog.godebug=none:=by kernel_rfl
theorem BJ:laidOutB Tryz.prog=true:=by kernel_rfl
theorem Jj (w:World) (n0:Int) (x1:List M9) (v1:Value) (h1:p9 (fun b=>b < w.heap.size) w (zz x1) v1) :
  Calls Tryz.prog 3 #[.int .i64 n0,v1] w fun e w'=>e = .returned (.bool true)/\Below w.heap.size w w':=by
 refine PC.callsTrue (fH n0 x1) Tryz.func3 (by kernel_rfl) rfl rfl fun i hi=>?_
 match i,hi with
 | 0,_=>exact .int _ _
 | 1,_=>exact h1
theorem lifted (os:Os) (started:os.Started) (H:Type) (enc:TypeId×Value->H) :
  ReturnsInHanded {} Tryz.checked os 3 .any (Rows.recipeApprovedSpec.pre6 enc Tryz.prog Tryz.f3 Rows.recipeApprovedRow.domain false) (Rows.recipeApprovedSpec.post enc Tryz.prog Tryz.f3 false true false false):=by
 refine returnsInHanded_of_change (C:=Tryz.checked) own started (by kernel_rfl) Tryz.func3
  (ChangeSpec.witness6 (enc:=enc) (C:=Tryz.checked) false ⟨#[],#[.int .i64 0,.slice none 0 0],[]⟩ 8 (by kernel_rfl) (by kernel_rfl) (by kernel_rfl) (by kernel_rfl)) ?_
 intro W base args ds gs before Cp hW Mc _
 have Ea:∀ (j:Nat) t v,Tryz.f3.params[j]? = some t->args[j]? = some v->Value.okWide Tryz.prog W .any base t v:=Cp
 have Me:=hW
 obtain ⟨p,q,Kg,hV,rfl,IC,Y6⟩:=hW
 have hA:DataW.TrodAll enc Tryz.prog W 0 (fun _=>true) true Tryz.f3.params.toList args.toList ds p:=Kg
 rw [Tryz.params3] at hA Ea
 obtain ⟨v0,JL,d0,MB,p0,q0,N1,rfl,rfl,h0,r0⟩:=trodAll_cons hA
 obtain ⟨v1,MC,d1,MD,p1,q1,rfl,rfl,rfl,h1,r1⟩:=trodAll_cons r0
 obtain ⟨rfl,rfl,rfl⟩:=trodAll_nil r1
 obtain rfl:args=#[v0,v1]:=by cases args;simp_all
 obtain ⟨rfl,rfl⟩:=trodVars_none hV
 obtain ⟨a0,rfl,rfl,rfl,w0⟩:=open_int Tryz.underlying3 (Ea 0 3 v0 rfl rfl) h0
 have k1:=h1
 have HE:∀ x ∈ p1,x.block < W.heap.size:=by obtain ⟨m,hm⟩:=k1;exact DataW.trod_lt m _ _ _ hm
 obtain ⟨a1,Mf,Mg,rfl⟩:=okWide_slice Tryz.underlying22 (Ea 1 22 v1 rfl rfl)
 obtain ⟨x1,_,i1⟩:=qg (base:=base) Gm h1
 clear Kg Cp
 refine (Jj W a0 x1 _ i1).mono fun e W' ⟨he,FN⟩=>?_
 subst he
 exact ⟨_,rfl,_,_,_,[],_,[],Me,trodAll_mk1 (shut_bool Tryz.underlying4 _),(trodAll_cons_mk (shut_int Tryz.underlying3 w0) (trodAll_cons_mk (Below.trod BJ (by kernel_rfl) (of_decide_eq_true (by kernel_rfl)) k1 FN HE) trodAll_mk0)),rfl,FN.frame _,fun h=>by cases h⟩
theorem closed:joinedFacts Tryz.pinned.checked.prog 3 Tryz.f3 Rows.recipeApprovedSpec Rows.recipeApprovedRow=true :=
 (Dv Tryz.pinned.checked.prog 3 Tryz.f3 Rows.recipeApprovedSpec Rows.recipeApprovedRow AN qh lx).2 (by kernel_rfl)
theorem over:Rows.recipeApprovedRow.holds Tryz.pinned (OpenSpec.ofChange Rows.recipeApprovedSpec) :=
 OpenClaim.holds_of_wide 3 Tryz.f3 rfl rfl rfl rfl rfl rfl rfl ⟨rfl,rfl,rfl,rfl,rfl⟩ rfl rfl rfl rfl rfl (by kernel_rfl) Tryz.func3 closed
  (of_decide_eq_true (by kernel_rfl)) (by unfold Func.isWrapper;first|(rw [if_pos (by decide +kernel)];kernel_rfl)|(rw [if_neg (by decide +kernel)];exact ⟨rfl,rfl⟩))
  (fun os started H enc _=>lifted os started H enc)
theorem proved:Rows.RecipeApprovedSaid:=over
#print axioms proved

end Go.Proofs.YtpmmjoccamogdaaGreat.RecipeApprovedDone
