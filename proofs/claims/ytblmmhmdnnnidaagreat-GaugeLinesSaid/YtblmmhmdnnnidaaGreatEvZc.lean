/- Structs of two ints and a slice of ints that came in. A helper text: it speaks of no program. -/
import Derived.Test.YtblmmhmdnnnidaaGreatEvZa
set_option linter.unusedVariables false
set_option linter.unusedSimpArgs false
namespace Go.Ev
theorem repI_image {H : Type} {enc : TypeId × Value → H} {P : Program} {w : World} {r : Reach} {base : Nat} {spare : Nat → Bool} {held : Bool} {t ti tsl : TypeId} {fs : Array Field} {f0 f1 f2 : Field} {v : Value} {d : DataW H} {ps : List MemPlace} (ht : P.underlying t = some (.struct fs))
    (h0 : fs[0]? = some f0) (h1 : fs[1]? = some f1) (h2 : fs[2]? = some f2) (o0 : f0.offset = 0) (o1 : f1.offset = 1) (o2 : f2.offset = 2) (t0 : f0.type = ti) (t1 : f1.type = ti) (t2 : f2.type = tsl) (hti : P.underlying ti = some (.int .i64)) (hci : P.cellsOf ti = 1)
    (htsl : P.underlying tsl = some (.slice ti)) (hcsl : P.cellsOf tsl = 1) (hct : P.cellsOf t = 3) (hcell : P.cellTypes P.depth t = some [ti, ti, tsl]) (hv : Value.okWide P w r base t v) (h : DataW.Trod enc P w 0 spare held t v d ps) :
    ∃ (a b : Int) (l : List Int), I64 a ∧ I64 b ∧ RepI (fun b => b < w.heap.size) w (.agg [i64 a, i64 b, ints l]) v := by
  unfold Value.okWide at hv
  rw [ht] at hv
  obtain ⟨cs, rfl, hsz, ts, hts, _, hrow⟩ := hv
  rw [hcell] at hts
  cases hts
  obtain ⟨fuel, h⟩ := h
  have e : (Value.agg cs).cells.toList = cs.toList := rfl
  rw [e] at h
  obtain ⟨n0, y0, _, e0⟩ := trod_field ht h0 h
  obtain ⟨n1, y1, _, e1⟩ := trod_field ht h1 h
  obtain ⟨n2, y2, _, e2⟩ := trod_field ht h2 h
  rw [o0, t0, hci] at e0
  rw [o1, t1, hci] at e1
  rw [o2, t2, hcsl] at e2
  rw [hct] at hsz
  obtain ⟨l⟩ := cs
  have hl : l.length = 3 := hsz
  match l, hl with
  | [x, y, z], _ =>
    have e0 : DataW.trod enc P w 0 spare held n0 ti [x] = some y0 := e0
    have e1 : DataW.trod enc P w 0 spare held n1 ti [y] = some y1 := e1
    have e2 : DataW.trod enc P w 0 spare held n2 tsl [z] = some y2 := e2
    obtain ⟨m0, k0, _, w0⟩ := DataW.trod_int hti e0
    obtain ⟨m1, k1, _, w1⟩ := DataW.trod_int hti e1
    obtain rfl : x = .int .i64 m0 := by simpa using k0
    obtain rfl : y = .int .i64 m1 := by simpa using k1
    obtain ⟨a, len, cap, rfl⟩ : ∃ a len cap, z = .slice a len cap := by
      rcases DataW.trod_slice htsl e2 with ⟨hcs, _⟩ | ⟨x, l, c, _, _, _, _, hcs, _⟩
      · exact ⟨_, _, _, by simpa using hcs⟩
      · exact ⟨_, _, _, by simpa using hcs⟩
    obtain ⟨u, hu, hok⟩ := hrow 2 (.slice a len cap) rfl
    have hu : u = tsl := by
      have : some tsl = some u := hu
      exact (Option.some.inj this).symm
    subst hu
    have hv2 : Value.okWide P w r base u (.slice a len cap) := by
      unfold Value.okWide
      rw [htsl]
      exact hok
    obtain ⟨l, hr, _, _⟩ := repI_ints htsl hti hci hv2 e2
    refine ⟨m0, m1, l, wf_i64 w0, wf_i64 w1, .agg rfl fun i hi => ?_⟩
    match i, hi with
    | 0, _ => exact .int _ _
    | 1, _ => exact .int _ _
    | 2, _ => exact hr
end Go.Ev
