/- What the law TaxSlope computes is true for every input. -/
import Derived.Test.YtmahdomlmidfdaaDoorPtg
import Derived.Test.YtmahdomlmidfdaaDoorXx3
namespace Go.Proofs.YtmahdomlmidfdaaDoor.Pure
open Go.RowKit Go.Proofs.YtmahdomlmidfdaaDoorW.PrintWords Go.Proofs.YtmahdomlmidfdaaDoorW.PrintMore Go.Proofs.YtmahdomlmidfdaaDoor Go.Proofs.YtmahdomlmidfdaaDoor.X
set_option linter.unusedSimpArgs false
set_option linter.unusedVariables false

theorem lives_ev : Ev (fun k => worldmintlaw31_lives.f k) true := Ev.of_mono worldmintlaw31_lives.mono (k0 := 1000) (by decide +kernel)
theorem fits_sale : fitsL saleB.data.toList = true := by decide +kernel
theorem size_sale : saleB.size ≤ 1000000 := by decide +kernel
theorem slope_j2 {l : List Br} (hv : VT l) {a s : Int} (ha : (Lit.int .i64 a).wf = true) (h0 : 0 ≤ s) (h1 : s ≤ 1099511627776) : Ev (fun k => worldmintlaw31_TaxSlope.j2 k a s (dueZ l s) saleB l) true := by
  refine Ev.up ?_
  simp only [worldmintlaw31_TaxSlope.j2]
  have hb := around_bd a (s + 1) (by omega)
  rw [wrap_id (n := s + 1) (by omega) (by omega)]
  refine Ev.bind0 (around_eq a (s + 1) (i64_bounds ha) (by omega)) ?_
  generalize aroundOf a (s + 1) = b at hb ⊢
  rw [wrap_id (n := s - b) (by omega) (by omega)]
  refine Ev.bind (due_gives hv fits_sale size_sale hb.1 (by omega)) (Ev.bind (more_gives hv fits_sale size_sale hb.1 (by omega) (by omega)) (Ev.pos rfl (Ev.pos rfl (Ev.pos ?_ (Ev.bind lives_ev (Ev.ok _))))))
  have d1 := due_bd (s := b) hv.bd hb.1
  have d2 := due_bd (s := s) hv.bd h0
  show wrap64 (dueZ l b + (dueZ l (b + (s - b)) - dueZ l b)) = dueZ l s
  rw [show b + (s - b) = s by omega, wrap_id (by omega) (by omega)]
  omega
theorem slope_j1 {l : List Br} (hv : VT l) {a s : Int} (ha : (Lit.int .i64 a).wf = true) (h0 : 0 ≤ s) (h1 : s ≤ 1099511627776) {b : Bool} (hb : b = false) : Ev (fun k => worldmintlaw31_TaxSlope.j1 k a s (dueZ l s) b saleB l) true := by
  subst hb
  refine Ev.up ?_
  simp only [worldmintlaw31_TaxSlope.j1]
  refine Ev.neg (by decide) ?_
  by_cases h : s > 0
  · refine Ev.pos h ?_
    rw [wrap_id (n := s - 1) (by omega) (by omega)]
    have d := due_step (s := s - 1) hv.bd (by omega)
    rw [show s - 1 + 1 = s by omega] at d
    have d1 := due_bd (s := s) hv.bd (by omega)
    have d2 := due_bd (s := s - 1) hv.bd (by omega)
    have e : wrap64 (dueZ l s - dueZ l (s - 1)) = dueZ l s - dueZ l (s - 1) := by rw [wrap_id (by omega) (by omega)]
    refine Ev.bind (due_gives hv fits_sale size_sale (a := s - 1) (by omega) (by omega)) (Ev.pos rfl (Ev.neg ?_ (Ev.neg ?_ (slope_j2 hv ha h0 h1))))
    · show ¬ wrap64 (dueZ l s - dueZ l (s - 1)) < 0
      omega
    · show ¬ wrap64 (dueZ l s - dueZ l (s - 1)) > 1
      omega
  · exact Ev.neg h (slope_j2 hv ha h0 h1)
theorem TaxSlope : worldmintlaw31_TaxSlope.Pure := by
  intro l0 a1 a2 hm h8 hw h1 h2
  obtain ⟨l, hv, g1⟩ := tax_gives hw
  obtain ⟨s, g2, s0, s1⟩ := sum_gives saleB hv h1
  have d := due_bd (s := s) hv.bd s0
  obtain ⟨r, g3, r0, r1, r2, r3⟩ := net_gives hv fits_sale size_sale (a := s - dueZ l s) (by omega) (by omega)
  have hsr : s ≤ r := by
    rcases Int.lt_or_le r s with h | h
    · have h4 := r3 (by omega)
      have h5 := left_le hv.bd (s := r + 1) (t := s) (by omega) (by omega)
      omega
    · exact h
  have dr := due_bd (s := r) hv.bd r0
  have hle := left_le hv.bd s0 hsr
  refine Ev.ex (f := fun k => worldmintlaw31_TaxSlope.f k l0 a1 a2) ?_
  unfold worldmintlaw31_TaxSlope.f
  have e : wrap64 (s - dueZ l s) = s - dueZ l s := by rw [wrap_id (by omega) (by omega)]
  refine Ev.bind g1 (Ev.bind0 g2 (Ev.bind (due_gives hv fits_sale size_sale s0 s1) (Ev.bind0 (x := (r, 0)) (by show tax_Net.f saleB l (wrap64 (s - dueZ l s)) = _; rw [e]; exact g3) (Ev.pos rfl (Ev.pos rfl ?_)))))
  show Ev (fun k => if dueZ l s < 0 then _ else if dueZ l s > s then _ else worldmintlaw31_TaxSlope.j0 k a2 s (dueZ l s) r (decide (r < s)) saleB l) true
  refine Ev.neg (by omega) (Ev.neg (by omega) ?_)
  rw [decide_eq_false (by omega)]
  refine Ev.up ?_
  simp only [worldmintlaw31_TaxSlope.j0]
  refine Ev.neg (by decide) (Ev.bind (due_gives hv fits_sale size_sale r0 r1) (Ev.pos rfl (slope_j1 hv h2 s0 s1 ?_)))
  show (wrap64 (r - dueZ l r) != wrap64 (s - dueZ l s)) = false
  rw [e, wrap_id (n := r - dueZ l r) (by omega) (by omega)]
  have e2 : r - dueZ l r = s - dueZ l s := by omega
  rw [e2]
  simp
end Go.Proofs.YtmahdomlmidfdaaDoor.Pure
