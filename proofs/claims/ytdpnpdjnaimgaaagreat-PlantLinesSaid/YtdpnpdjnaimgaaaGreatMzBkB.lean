/- A helper text: contracts of functions of the program, and plain lemmas. -/
import Derived.Test.YtdpnpdjnaimgaaaGreatMzGn0
import Derived.Test.YtdpnpdjnaimgaaaGreatMzGaB
import Derived.Test.YtdpnpdjnaimgaaaGreatMzGdD
import Derived.Test.YtdpnpdjnaimgaaaGreatMzEaA
import Derived.Test.YtdpnpdjnaimgaaaGreatMzGdE
set_option maxRecDepth 100000
set_option maxHeartbeats 0
set_option linter.unusedVariables false
set_option linter.unusedSimpArgs false
namespace Go.Proofs.Tryz.My
open Go Go.Ev
end Go.Proofs.Tryz.My
set_option maxRecDepth 100000
set_option maxHeartbeats 0
set_option linter.unusedVariables false
set_option linter.unusedSimpArgs false
namespace Go.Proofs.Tryz.My
open Go Go.Ev
end Go.Proofs.Tryz.My
set_option maxRecDepth 100000
set_option maxHeartbeats 0
set_option linter.unusedVariables false
set_option linter.unusedSimpArgs false
namespace Go.Proofs.Tryz.My
open Go Go.Ev
def byQ (moves : List Int) (noise : Int) (i : Nat) : Int := if i < moves.length then Int.tmod (moves.getD i 0) (4 * noise + 1) else 0
def clipQ (v : Int) : Int := if (if v > 0 then v else 0) < 1020 then (if v > 0 then v else 0) else 1020
def valQ (p moves : List Int) (noise : Int) (i : Nat) : Int := clipQ (4 * p.getD i 0 + byQ moves noise i)
def alwL (p moves : List Int) (noise : Int) : List Int := (List.range p.length).map (valQ p moves noise)
def sclL (p : List Int) : List Int := p.map (fun v => 4 * v)
def fstN (q : List Int) (thr a : Int) : Int × Int × Bool :=
  match brk q thr a 1 with
  | none => (0, 1, false)
  | some k => ((placeN q thr a 1 k).1, (placeN q thr a 1 k).2, true)
def bigL (q : List Int) : Prop := ∀ i, i < q.length → 0 ≤ q.getD i 0 ∧ q.getD i 0 ≤ 1020
def holB (s : SpT) (n d : Int) : Bool := decide ((makeF n d).2 = 0) && (spanB s && validB (makeF n d).1 && hasB s (makeF n d).1)
theorem mul_size {a b A B : Int} (h1 : -A ≤ a) (h2 : a ≤ A) (h3 : 0 ≤ b) (h4 : b ≤ B) : -(A * B) ≤ a * b ∧ a * b ≤ A * B := by
  have k1 : a * b ≤ A * b := Int.mul_le_mul_of_nonneg_right h2 h3
  have k2 : (-A) * b ≤ a * b := Int.mul_le_mul_of_nonneg_right h1 h3
  have k3 : A * b ≤ A * B := Int.mul_le_mul_of_nonneg_left h4 (by omega)
  have k4 : (-A) * b = -(A * b) := by grind
  omega
end Go.Proofs.Tryz.My
set_option maxRecDepth 100000
set_option maxHeartbeats 0
set_option linter.unusedVariables false
set_option linter.unusedSimpArgs false
namespace Go.Proofs.Tryz.My
open Go Go.Ev
theorem mea_known {g : GauT} {p : List Int} (h : (meaF g p).2.2 = 0) :
    gauB g = true ∧ profB p = true ∧
    ((widE p (gThr g) (gNoi g) = (zS, 6) ∧ meaF g p = (s00, if gThr g ≤ mxK p (p.length - 1) + gNoi g then 3 else 2, 0)) ∨
     ((widE p (gThr g) (gNoi g)).2 = 0 ∧ spanB (widE p (gThr g) (gNoi g)).1 = true ∧ spanB (mulS (widE p (gThr g) (gNoi g)).1 (gSc g)).1 = true ∧ (mulS (widE p (gThr g) (gNoi g)).1 (gSc g)).2 = 0 ∧
        meaF g p = ((mulS (widE p (gThr g) (gNoi g)).1 (gSc g)).1, verV (mulS (widE p (gThr g) (gNoi g)).1 (gSc g)).1 (gTol g), 0))) := by
  unfold meaF at h ⊢
  cases hg : gauB g
  · rw [hg] at h; simp at h
  obtain ⟨t, n, _, _, _, _⟩ := gauB_known hg
  rw [hg] at h
  simp only [if_true] at h ⊢
  rcases wid_err (p := p) t.1 t.2 n.1 n.2 with ⟨h1, h2⟩ | ⟨h1, h2 | h2⟩
  · exfalso
    rw [h2] at h
    simp [meaG] at h
  · refine ⟨trivial, h1, .inl ⟨h2, ?_⟩⟩
    rw [h2]
    simp [meaG]
  · refine ⟨trivial, h1, .inr ?_⟩
    have h6 : (widE p (gThr g) (gNoi g)).2 ≠ 6 := by omega
    unfold meaG at h ⊢
    rw [if_neg h6, if_pos h2] at h ⊢
    by_cases hm : (mulS (widE p (gThr g) (gNoi g)).1 (gSc g)).2 = 0
    · rw [if_pos hm]
      obtain ⟨m1, m2, m3⟩ := mulS_ok hm
      exact ⟨h2, m1, m3, hm, rfl⟩
    · rw [if_neg hm] at h
      exact absurd h hm
abbrev gWith (g : GauT) (t : SpT) : GauT := ((g.1.1, t.1), t.2)
abbrev gLoud (g : GauT) (n : Int) : GauT := ((((g.1.1.1.1, n), g.1.1.2), g.1.2), g.2)
end Go.Proofs.Tryz.My
set_option maxRecDepth 100000
set_option maxHeartbeats 0
set_option linter.unusedVariables false
set_option linter.unusedSimpArgs false
namespace Go.Proofs.Tryz.My
open Go Go.Ev
theorem endsG_fine {op : Int × Int → Int × Int → (Int × Int) × Int} : ∀ (l : List SpT) (acc : SpT), (∀ p ∈ l, (op p.1 p.2).2 = 0) → (endsG op acc l).2 = 0
  | [], _, _ => rfl
  | p :: l, acc, h => by
    have h0 := h p (by simp)
    unfold endsG
    rw [if_neg (by rw [h0]; simp)]
    exact endsG_fine l _ (fun q hq => h q (by simp [hq]))
theorem endsF_fine {op : Int × Int → Int × Int → (Int × Int) × Int} (l : List SpT) (h : ∀ p ∈ l, (op p.1 p.2).2 = 0) : (endsF op l).2 = 0 := by
  cases l with
  | nil => rfl
  | cons p l =>
    have h0 := h p (by simp)
    show (if (op p.1 p.2).2 ≠ 0 then (zS, (op p.1 p.2).2) else endsG op ((op p.1 p.2).1, (op p.1 p.2).1) l).2 = 0
    rw [if_neg (by rw [h0]; simp)]
    exact endsG_fine l _ (fun q hq => h q (by simp [hq]))
def smQ (A B : Int) (x : Rat) : Prop := ∃ n d : Int, x = (n : Rat) / (d : Rat) ∧ -A ≤ n ∧ n ≤ A ∧ 0 < d ∧ d ≤ B
theorem smQ_sub {x y : Rat} (hx : smQ 17000 255 x) (hy : smQ 17000 255 y) : smQ 10000000 65025 (x - y) := by
  obtain ⟨n, e, rfl, n1, n2, e1, e2⟩ := hx
  obtain ⟨m, f, rfl, m1, m2, f1, f2⟩ := hy
  have k1 := mul_size n1 n2 (show 0 ≤ f by omega) f2
  have k2 := mul_size m1 m2 (show 0 ≤ e by omega) e2
  have k3 := mul_size (show -255 ≤ e by omega) e2 (show 0 ≤ f by omega) f2
  refine ⟨n * f - m * e, e * f, ?_, by omega, by omega, Int.mul_pos e1 f1, by omega⟩
  have hE := cast_pos e1
  have hF := cast_pos f1
  rw [Rat.intCast_sub, Rat.intCast_mul, Rat.intCast_mul, Rat.intCast_mul]
  grind
theorem edg_small {p : List Int} {thr a noise d : Int} (hd : ways1 d) (h : (edgF p thr a noise d).2 = 0) : smQ 17000 255 (qv (edgF p thr a noise d).1.1) ∧ smQ 17000 255 (qv (edgF p thr a noise d).1.2) := by
  obtain ⟨hp, hq, _, s, k, j, hk, hj, e, q1, q2⟩ := edg_known hd h
  obtain ⟨t1, t2, a1, a2, n1, n2⟩ := ask_known hq
  have hl := prof_len hp
  have z1 := placeN_small (movL_byte p (-noise)) (by rw [movL_length]; exact hl.2) a1 (by rw [movL_length]; exact a2) hd t1 t2 hk
  have z2 := placeN_small (movL_byte p noise) (by rw [movL_length]; exact hl.2) a1 (by rw [movL_length]; exact a2) hd t1 t2 hj
  have y1 := (placeN_val (brk_some.1 hk).2.1 (brk_some.1 hk).2.2).2
  have y2 := (placeN_val (brk_some.1 hj).2.1 (brk_some.1 hj).2.2).2
  have w1 : smQ 17000 255 (qv (placeF (movL p (-noise)) thr a d k)) := ⟨_, _, q1.trans y1.symm, z1.1, z1.2.1, z1.2.2.1, z1.2.2.2⟩
  have w2 : smQ 17000 255 (qv (placeF (movL p noise) thr a d j)) := ⟨_, _, q2.trans y2.symm, z2.1, z2.2.1, z2.2.2.1, z2.2.2.2⟩
  rw [e]
  split
  · exact ⟨w1, w2⟩
  · exact ⟨w2, w1⟩
theorem wid_small {p : List Int} {thr noise : Int} (h : (widE p thr noise).2 = 0) : smQ 10000000 65025 (qv (widE p thr noise).1.1) ∧ smQ 10000000 65025 (qv (widE p thr noise).1.2) := by
  obtain ⟨_, _, r1, f1, _, x1, y1⟩ := wid_known h
  have hr := edg_small (.inl rfl) r1
  have hf := edg_small (.inr rfl) f1
  rw [x1, y1]
  exact ⟨smQ_sub hf.1 hr.2, smQ_sub hf.2 hr.1⟩
theorem mul_fine {a b : Int × Int} (ha : validB a = true) (hb : validB b = true) (sa : smQ 300000000 1040400 (qv a)) (sb : smB b = true) : (mulF a b).2 = 0 ∧ validB (mulF a b).1 = true ∧ qv (mulF a b).1 = qv a * qv b := by
  obtain ⟨n, d, e, n1, n2, d1, d2⟩ := sa
  simp only [smB, Bool.and_eq_true, decide_eq_true_eq] at sb
  have hb1 := ((validB_iff b).1 hb).1
  have k1 : -(300000000 * 1000000) ≤ n * b.1 ∧ n * b.1 ≤ 300000000 * 1000000 := by
    by_cases h : 0 ≤ b.1
    · exact mul_size n1 n2 h sb.1.2
    · have k := mul_size (a := n) (b := -b.1) n1 n2 (B := 1000000) (by omega) (by omega)
      rw [Int.mul_neg] at k
      omega
  have k2 := mul_size (show -1040400 ≤ d by omega) d2 (show 0 ≤ b.2 by omega) sb.2
  have h := fits_small (mulF_fits ha hb) (n := n * b.1) (d := d * b.2) ?_ (by omega) (by omega) (Int.mul_pos d1 (by omega)) (by omega)
  · exact ⟨h.2.1, h.1, h.2.2⟩
  · rw [e]
    unfold qv
    have c1 := cast_pos d1
    have c2 := cast_pos (show 0 < b.2 by omega)
    rw [Rat.intCast_mul, Rat.intCast_mul]
    grind
theorem smQ_more {A B C D : Int} {x : Rat} (h : smQ A B x) (h1 : A ≤ C) (h2 : B ≤ D) : smQ C D x := by
  obtain ⟨n, d, e, n1, n2, d1, d2⟩ := h
  exact ⟨n, d, e, by omega, by omega, d1, by omega⟩
theorem mulS_fine {p : List Int} {thr noise : Int} (h : (widE p thr noise).2 = 0) {s : SpT} (hs : spanB s = true) (s1 : smB s.1 = true) (s2 : smB s.2 = true) : (mulS (widE p thr noise).1 s).2 = 0 := by
  obtain ⟨_, _, _, _, sw, _⟩ := wid_known h
  obtain ⟨q1, q2⟩ := wid_small h
  obtain ⟨a1, a2, _⟩ := spanB_iff.1 sw
  obtain ⟨b1, b2, _⟩ := spanB_iff.1 hs
  have e : mulS (widE p thr noise).1 s = endsF mulF (allP (widE p thr noise).1 s) := by unfold mulS; rw [sw, hs]; rfl
  rw [e]
  refine endsF_fine _ fun p hp => ?_
  simp only [allP, List.mem_cons, List.not_mem_nil, or_false] at hp
  have q1 := smQ_more q1 (C := 300000000) (D := 1040400) (by decide) (by decide)
  have q2 := smQ_more q2 (C := 300000000) (D := 1040400) (by decide) (by decide)
  rcases hp with rfl | rfl | rfl | rfl
  · exact (mul_fine a1 b1 q1 s1).1
  · exact (mul_fine a1 b2 q1 s2).1
  · exact (mul_fine a2 b1 q2 s1).1
  · exact (mul_fine a2 b2 q2 s2).1
theorem verV_three (s t : SpT) : verV s t = 1 ∨ verV s t = 2 ∨ verV s t = 3 := by
  unfold verV
  split
  · split <;> simp
  · simp
theorem mea_ok {g : GauT} {p : List Int} (hg : gauB g = true) (hp : profB p = true) : (meaF g p).2.2 = 0 ∧ ((meaF g p).2.1 = 1 ∨ (meaF g p).2.1 = 2 ∨ (meaF g p).2.1 = 3) := by
  obtain ⟨t, n, s1, _, _, m1, m2, _⟩ := gauB_known hg
  unfold meaF
  rw [hg]
  simp only [if_true]
  rcases wid_err (p := p) t.1 t.2 n.1 n.2 with ⟨h1, h2⟩ | ⟨h1, h2 | h2⟩
  · rw [hp] at h1; simp at h1
  · rw [h2]
    show (0 : Int) = 0 ∧ ((if gThr g ≤ mxK p (p.length - 1) + gNoi g then (3 : Int) else 2) = 1 ∨ (if gThr g ≤ mxK p (p.length - 1) + gNoi g then (3 : Int) else 2) = 2 ∨ (if gThr g ≤ mxK p (p.length - 1) + gNoi g then (3 : Int) else 2) = 3)
    refine ⟨rfl, ?_⟩
    split <;> simp
  · have h6 : (widE p (gThr g) (gNoi g)).2 ≠ 6 := by omega
    unfold meaG
    rw [if_neg h6, if_pos h2, if_pos (mulS_fine h2 s1 m1 m2)]
    exact ⟨rfl, verV_three _ _⟩
theorem mea_bad {g : GauT} {p : List Int} (h : gauB g = false ∨ profB p = false) : (meaF g p).2.2 ≠ 0 := fun h0 => by
  obtain ⟨h1, h2, _⟩ := mea_known h0
  rw [h1, h2] at h
  simp at h
end Go.Proofs.Tryz.My
set_option maxRecDepth 100000
set_option maxHeartbeats 0
set_option linter.unusedVariables false
set_option linter.unusedSimpArgs false
namespace Go.Proofs.Tryz.My
open Go Go.Ev
structure RecT where
  author : Int
  gauge : GauT
  appr : List Int
  state : Int
structure EntT where
  seq : Int
  recipe : Int
  part : Int
  profile : List Int
  verdict : Int
  disputed : Bool
structure BooksT where
  keep : Int
  users : List Int
  recipes : List RecT
  next : Int
  log : List EntT
abbrev e8 (n : Int) : List AV := [u8 n]
abbrev u8l (l : List Int) : AV := .sl 1 0 e8 l
def gau0 : GauT := ((((0, 0), ((0, 0), (0, 0))), (0, 0)), (0, 0))
def rec0 : RecT := ⟨0, gau0, [], 0⟩
def ent0 : EntT := ⟨0, 0, 0, [], 0, false⟩
def books0 : BooksT := ⟨0, [], [], 0, []⟩
def eRec (r : RecT) : List AV := [i64 r.author, i64 (gThr r.gauge), i64 (gNoi r.gauge), i64 (gSc r.gauge).1.1, i64 (gSc r.gauge).1.2, i64 (gSc r.gauge).2.1, i64 (gSc r.gauge).2.2, i64 r.gauge.1.2.1, i64 r.gauge.1.2.2, i64 r.gauge.2.1, i64 r.gauge.2.2, ints r.appr, u8 r.state]
def eEnt (s : EntT) : List AV := [i64 s.seq, i64 s.recipe, i64 s.part, ints s.profile, u8 s.verdict, .bool s.disputed]
abbrev recs (l : List RecT) : AV := .sl 13 rec0 eRec l
abbrev ents (l : List EntT) : AV := .sl 6 ent0 eEnt l
def eB (b : BooksT) : List AV := [i64 b.keep, u8l b.users, recs b.recipes, i64 b.next, ents b.log]
abbrev bks (b : BooksT) : AV := .agg (eB b)
def mayB (roles : List Int) (us : List Int) (u : Int) : Bool := withB u 0 (us.length - 1) && roles.contains (us.getD u.toNat 0)
def sizedB (b : BooksT) : Bool := withB b.keep 1 32 && withB b.next 0 1099511627776 && decide ((b.users.length : Int) ≤ 16) && decide ((b.recipes.length : Int) ≤ 16) && decide ((b.log.length : Int) ≤ b.keep)
def oddR (r : Int) : Bool := decide (r < 1) || decide (r > 3)
def staffedB (b : BooksT) : Bool := !b.users.any oddR
def enoughB (us : List Int) (l : List Int) : Bool := decide ((l.length : Int) > 1) && l.any (mayB [3] us)
def prevI (l : List Int) (i : Nat) : Int := if i = 0 then -1 else l.getD (i - 1) 0
def okA (us : List Int) (x : RecT) (i : Nat) : Bool := decide (prevI x.appr i < x.appr.getD i 0) && !decide (x.appr.getD i 0 = x.author) && mayB [2, 3] us (x.appr.getD i 0)
def apprB (us : List Int) (x : RecT) : Bool := (List.range x.appr.length).all (okA us x)
def stateB (us : List Int) (x : RecT) : Bool := mayB [2] us x.author && gauB x.gauge && withB x.state 1 4 && (decide (x.state > 1) == enoughB us x.appr)
def recB (us : List Int) (x : RecT) : Bool := apprB us x && stateB us x
def activeN (l : List RecT) : Nat := (l.filter fun x => decide (x.state = 3)).length
def approvedB (b : BooksT) : Bool := b.recipes.all (recB b.users) && decide (activeN b.recipes ≤ 1)
def prevE (l : List EntT) (i : Nat) : Int := if i = 0 then -1 else (l.getD (i - 1) ent0).seq
def entB (b : BooksT) (i : Nat) : Bool :=
  decide (prevE b.log i < (b.log.getD i ent0).seq) && decide ((b.log.getD i ent0).seq < b.next) && withB (b.log.getD i ent0).recipe 0 (b.recipes.length - 1) && withB (b.log.getD i ent0).part 0 1099511627776 &&
    (decide ((meaF (b.recipes.getD (b.log.getD i ent0).recipe.toNat rec0).gauge (b.log.getD i ent0).profile).2.2 = 0) && decide ((meaF (b.recipes.getD (b.log.getD i ent0).recipe.toNat rec0).gauge (b.log.getD i ent0).profile).2.1 = (b.log.getD i ent0).verdict) &&
      !decide ((b.recipes.getD (b.log.getD i ent0).recipe.toNat rec0).state = 1))
def loggedB (b : BooksT) : Bool := (List.range b.log.length).all (entB b)
def chkB (b : BooksT) : Bool := sizedB b && staffedB b && approvedB b && loggedB b
def smallR (x : RecT) : Bool := decide (x.appr.length ≤ 30)
def smallE (s : EntT) : Bool := decide (s.profile.length ≤ 100)
def smallB (b : BooksT) : Bool := decide (b.users.length ≤ 30) && decide (b.recipes.length ≤ 30) && decide (b.log.length ≤ 50) && b.recipes.all smallR && b.log.all smallE
theorem small_known {b : BooksT} (h : smallB b = true) : b.users.length ≤ 30 ∧ b.recipes.length ≤ 30 ∧ b.log.length ≤ 50 ∧ (∀ i, (b.recipes.getD i rec0).appr.length ≤ 30) ∧ ∀ i, (b.log.getD i ent0).profile.length ≤ 100 := by
  simp only [smallB, Bool.and_eq_true, decide_eq_true_eq, List.all_eq_true, smallR, smallE] at h
  obtain ⟨⟨⟨⟨h1, h2⟩, h3⟩, h4⟩, h5⟩ := h
  refine ⟨h1, h2, h3, fun i => ?_, fun i => ?_⟩
  · by_cases hi : i < b.recipes.length
    · simp only [List.getD, List.getElem?_eq_getElem hi, Option.getD_some]
      exact h4 _ (List.getElem_mem hi)
    · rw [List.getD, List.getElem?_eq_none (by omega)]; exact Nat.zero_le _
  · by_cases hi : i < b.log.length
    · simp only [List.getD, List.getElem?_eq_getElem hi, Option.getD_some]
      exact h5 _ (List.getElem_mem hi)
    · rw [List.getD, List.getElem?_eq_none (by omega)]; exact Nat.zero_le _
theorem all_range {p : Nat → Bool} {n : Nat} : (List.range n).all p = true ↔ ∀ i, i < n → p i = true := by
  rw [List.all_eq_true]
  exact ⟨fun h i hi => h i (List.mem_range.2 hi), fun h i hi => h i (List.mem_range.1 hi)⟩
theorem all_range_bad {p : Nat → Bool} {n i : Nat} (hi : i < n) (h : p i = false) : (List.range n).all p = false := by
  rw [List.all_eq_false]
  exact ⟨i, List.mem_range.2 hi, by rw [h]; decide⟩
theorem all_getD {α : Type} {p : α → Bool} {l : List α} {d : α} : l.all p = true ↔ ∀ i, i < l.length → p (l.getD i d) = true := by
  rw [List.all_eq_true]
  refine ⟨fun h i hi => ?_, fun h x hx => ?_⟩
  · simp only [List.getD, List.getElem?_eq_getElem hi, Option.getD_some]
    exact h _ (List.getElem_mem hi)
  · obtain ⟨i, hi, rfl⟩ := List.getElem_of_mem hx
    have := h i hi
    simpa [List.getD, List.getElem?_eq_getElem hi] using this
theorem all_bad {α : Type} {p : α → Bool} {l : List α} {d : α} {i : Nat} (hi : i < l.length) (h : p (l.getD i d) = false) : l.all p = false := by
  rw [List.all_eq_false]
  refine ⟨l.getD i d, ?_, by rw [h]; decide⟩
  simp only [List.getD, List.getElem?_eq_getElem hi, Option.getD_some]
  exact List.getElem_mem hi
theorem incr_len {us : List Int} {x : RecT} (h : apprB us x = true) : x.appr.length ≤ us.length := by
  have h := all_range.1 h
  have k : ∀ i, i < x.appr.length → (i : Int) ≤ x.appr.getD i 0 ∧ x.appr.getD i 0 < us.length := by
    intro i
    induction i with
    | zero =>
      intro hi
      have := h 0 hi
      simp only [okA, mayB, withB, Bool.and_eq_true, decide_eq_true_eq, prevI] at this
      omega
    | succ i ih =>
      intro hi
      have a := ih (by omega)
      have := h (i + 1) hi
      have ep : prevI x.appr (i + 1) = x.appr.getD i 0 := by simp [prevI]
      unfold okA at this
      rw [ep] at this
      simp only [mayB, withB, Bool.and_eq_true, decide_eq_true_eq] at this
      omega
  rcases Nat.eq_zero_or_pos x.appr.length with h0 | h0
  · omega
  · have := k (x.appr.length - 1) (by omega)
    omega
end Go.Proofs.Tryz.My
