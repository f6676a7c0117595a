/- Why the executor is right (last part). A helper text: it speaks of no program. -/
import Derived.Test.YtanhmmiifbhcpaaEvR
namespace Go.Ev
section
variable {P : Program} {B : Nat → Prop} {w0 : World} {F0 : Nat → Prop} {S : St} {β : Nat → Option Hd} {F : Nat → Prop} {a : Act} {w : World}

def Aft (B : Nat → Prop) (w0 : World) (F0 : Nat → Prop) (Q : Ex → St → Prop) : Exit → Act → World → Prop
  | .normal, a, w => ∃ S, Q .norm S ∧ ∃ β F, Rel B w0 F0 S β F a w
  | .ret, a, w => ∃ S, Q .ret S ∧ ∃ β F, Rel B w0 F0 S β F a w
  | .exit i, a, w => ∃ S, Q (.exit i) S ∧ ∃ β F, Rel B w0 F0 S β F a w
  | _, _, _ => False

theorem Aft.norm {Q : Ex → St → Prop} (hR : Rel B w0 F0 S β F a w) (h : Q .norm S) : Aft B w0 F0 Q .normal a w := ⟨S, h, β, F, hR⟩

theorem atHead_snd {ds ws bs : List Nat} {S0 : St} {vs : List (Nat × VT)} {K : List AV → List Row → List Row → Prop} (hR : Rel B w0 F0 S β F a w) (h : atHead ds S0 ws bs vs S K) :
    ∃ vals brows vrows, K vals brows vrows ∧ ∃ β', Rel B w0 F0 (mkHead ds S0 ws bs vs vals brows vrows) β' F a w := by
  unfold atHead at h
  rw [fSt_eq, fL_eq, fRows_eq, fRows_eq] at h
  obtain ⟨β', hR'⟩ := hR.canonV vs
  exact ⟨_, _, _, h.1, β', hR'.mask h.2.1 h.2.2⟩

theorem unr_snd (hm : P.follows .mixedOrders = true) {c : Code} (ih : ∀ {S : St} {β : Nat → Option Hd} {F : Nat → Prop} {a : Act} {w : World} {Q : Ex → St → Prop}, ex P c S Q → Rel B w0 F0 S β F a w → c.wp P (Aft B w0 F0 Q) a w) {Q : Ex → St → Prop} :
    ∀ (n : Nat) {S : St} {β : Nat → Option Hd} {F : Nat → Prop} {a : Act} {w : World}, unr (ex P c) n S Q → Rel B w0 F0 S β F a w → (Code.loop c).wp P (Aft B w0 F0 Q) a w := by
  intro n S β F a w h hR
  refine wp_loop_ghost (fun n a w => ∃ S, unr (ex P c) n S Q ∧ ∃ β F, Rel B w0 F0 S β F a w) n ⟨S, h, β, F, hR⟩ ?_
  rintro n a w ⟨S, h, β, F, hR⟩
  cases n with
  | zero => exact h.elim
  | succ n =>
    refine wp_mono (ih h hR) ?_
    rintro e a' w' hq
    cases e with
    | normal =>
      obtain ⟨S', h1, β', F', h2⟩ := hq
      exact ⟨n, Nat.lt_succ_self n, S', h1, β', F', h2⟩
    | ret => exact hq
    | exit i => exact hq
    | goto l => exact hq
    | panic ch => exact hq
    | outgrown => exact hq

theorem ex_snd (hm : P.follows .mixedOrders = true) : ∀ (c : Code) {S : St} {β : Nat → Option Hd} {F : Nat → Prop} {a : Act} {w : World} {Q : Ex → St → Prop}, ex P c S Q → Rel B w0 F0 S β F a w → c.wp P (Aft B w0 F0 Q) a w := by
  intro c
  induction c with
  | skip => intro S β F a w Q h hR; exact wp_skip (.norm hR h)
  | label l => intro S β F a w Q h hR; exact wp_label (.norm hR h)
  | ret => intro S β F a w Q h hR; exact wp_ret ⟨S, h, β, F, hR⟩
  | exit i => intro S β F a w Q h hR; exact wp_exit ⟨S, h, β, F, hR⟩
  | region id ops draw =>
    intro S β F a w Q h hR
    cases draw with
    | false =>
      refine wp_region ?_
      rw [List.range_eq_range']
      have := uRun_snd (P := P) (ops := ops) (K := fun S => fSt S (Q .norm)) (Q := Aft B w0 F0 Q) (fun S β F a w hR h => by rw [fSt_eq] at h; exact .norm hR h) ops.toList 0 (by simp) hR h
      simpa using this
    | true =>
      obtain ⟨h1, h2⟩ := h
      rw [fSt_eq] at h2
      exact lexRun_snd (K := fun S => fSt S (Q .norm)) hm (fun S β F a w hR h => by rw [fSt_eq] at h; exact .norm hR h) hR h1 h2
  | seq x y ihx ihy =>
    intro S β F a w Q h hR
    refine wp_seq (wp_mono (ihx h hR) ?_)
    rintro e a' w' hq
    cases e with
    | normal => obtain ⟨S', h1, β', F', h2⟩ := hq; exact ihy h1 h2
    | ret => exact hq
    | exit i => exact hq
    | goto l => exact hq
    | panic ch => exact hq
    | outgrown => exact hq
  | cond c x y ihx ihy =>
    intro S β F a w Q h hR
    simp only [ex] at h
    have hc := hR.get c
    split at h
    · rename_i e; rw [e] at hc; exact wp_cond_true hc.tt_inv (ihx h hR)
    · rename_i e; rw [e] at hc; exact wp_cond_false hc.ff_inv (ihy h hR)
    · rename_i b e
      rw [e] at hc
      exact wp_cond_split hc.bool_inv (fun hb => ihx (h.1 hb) hR) fun hb => ihy (h.2 hb) hR
    · exact h.elim
  | block id x ih =>
    intro S β F a w Q h hR
    refine wp_block (wp_mono (ih h hR) ?_)
    rintro e a' w' hq
    cases e with
    | normal => exact hq
    | ret => exact hq
    | exit i =>
      obtain ⟨S', h1, β', F', h2⟩ := hq
      simp only [] at h1
      cases hb : Nat.beq i id with
      | true =>
        rw [hb] at h1
        have := Nat.eq_of_beq_eq_true hb
        simp only [Exit.inBlock, this, if_true]
        exact ⟨S', h1, β', F', h2⟩
      | false =>
        rw [hb] at h1
        have := Nat.ne_of_beq_eq_false hb
        simp only [Exit.inBlock, this, if_false]
        exact ⟨S', h1, β', F', h2⟩
    | goto l => exact hq
    | panic ch => exact hq
    | outgrown => exact hq
  | loop x ih =>
    intro S β F a w Q h hR
    rcases h with ⟨n, h⟩ | ⟨ι, ws, bs, vs, V, BR, VR, μ, I, h⟩
    · exact unr_snd hm ih n h hR
    · rw [fNs_eq, fSt_eq] at h
      obtain ⟨⟨i, h0⟩, hstep⟩ := h
      obtain ⟨vals, brows, vrows, ⟨hI, rfl, rfl, rfl⟩, β', hR'⟩ := atHead_snd hR h0
      refine wp_loop_ghost (fun n a w => ∃ i, μ i = n ∧ I i ∧ ∃ β F, Rel B w0 F0 (mkHead (dstsC x) (Ev.canonV vs S) ws bs vs (V i) (BR i) (VR i)) β F a w) (μ i) ⟨i, rfl, hI, β', F, hR'⟩ ?_
      rintro n a w ⟨i, rfl, hI, β', F, hR'⟩
      have h1 := hstep i hI
      rw [fSt_eq] at h1
      refine wp_mono (ih h1 hR') ?_
      rintro e a' w' hq
      cases e with
      | normal =>
        obtain ⟨S', ⟨i', h1⟩, β', F', h2⟩ := hq
        obtain ⟨vals, brows, vrows, ⟨⟨hlt, hI'⟩, rfl, rfl, rfl⟩, β', hR'⟩ := atHead_snd h2 h1
        exact ⟨_, hlt, i', rfl, hI', β', F', hR'⟩
      | ret => exact hq
      | exit i => exact hq
      | goto l => exact hq
      | panic ch => exact hq
      | outgrown => exact hq
  | _ => intro S β F a w Q h; exact h.elim

end
end Go.Ev
