/- The tax the statements make, plain. -/
import Derived.Test.YtmahdomlmidfdaaDoorPtx
import Derived.Test.YtmahdomlmidfdaaDoorXx2
namespace Go.Proofs.YtmahdomlmidfdaaDoor.Pure
open Go.RowKit Go.Proofs.YtmahdomlmidfdaaDoorW.PrintWords Go.Proofs.YtmahdomlmidfdaaDoorW.PrintMore Go.Proofs.YtmahdomlmidfdaaDoor Go.Proofs.YtmahdomlmidfdaaDoor.X
set_option linter.unusedSimpArgs false
set_option linter.unusedVariables false

theorem pick_s {l : List Int} (hl : wfI l) (i m m2 : Int) (hm : 0 < m) (e : m = m2) : ∃ n, worldmintref01_Pick.f l i m2 = some n ∧ 0 ≤ n ∧ n < m := e ▸ pick_ex hl i m hm
structure VI (l : List Br) : Prop where
  pos : 0 < l.length
  inc : ∀ i : Nat, i + 1 < l.length → (rd_T37 l (i : Int)).f0 < (rd_T37 l ((i + 1 : Nat) : Int)).f0
  bd : ∀ i : Nat, i < l.length → 0 ≤ (rd_T37 l (i : Int)).f0 ∧ (rd_T37 l (i : Int)).f0 ≤ i * 1000001000 ∧ 0 ≤ (rd_T37 l (i : Int)).f1 ∧ (rd_T37 l (i : Int)).f1 ≤ 10000
theorem rd_app_l (l : List Br) (b : Br) (i : Nat) (h : i < l.length) : rd_T37 (l ++ [b]) (i : Int) = rd_T37 l (i : Int) := by
  rw [rd_br _ i (by simp; omega), rd_br l i h, List.getElem_append_left h]
theorem rd_app_r (l : List Br) (b : Br) : rd_T37 (l ++ [b]) (l.length : Int) = b := by
  rw [rd_br _ l.length (by simp)]
  simp
theorem VI.one {r : Int} (h0 : 0 ≤ r) (h1 : r < 10001) : VI [(⟨0, r⟩ : Br)] := by
  refine ⟨by simp, fun i hi => absurd hi (by simp), fun i hi => ?_⟩
  have e : i = 0 := by simp at hi; omega
  subst e
  rw [rd_br _ 0 (by simp)]
  show 0 ≤ (0 : Int) ∧ (0 : Int) ≤ _ ∧ 0 ≤ r ∧ r ≤ 10000
  omega
theorem VI.snoc {l : List Br} (h : VI l) {b : Br} (h0 : (rd_T37 l ((l.length : Int) - 1)).f0 < b.f0) (h1 : b.f0 ≤ (rd_T37 l ((l.length : Int) - 1)).f0 + 1000001000) (h2 : 0 ≤ b.f1) (h3 : b.f1 ≤ 10000) : VI (l ++ [b]) := by
  have hp := h.pos
  have hl := h.bd (l.length - 1) (by omega)
  rw [show (((l.length - 1 : Nat)) : Int) = (l.length : Int) - 1 by omega] at hl
  refine ⟨by simp, fun i hi => ?_, fun i hi => ?_⟩
  · simp only [List.length_append, List.length_cons, List.length_nil] at hi
    by_cases h4 : i + 1 < l.length
    · rw [rd_app_l l b i (by omega), rd_app_l l b (i + 1) h4]
      exact h.inc i h4
    · have e : i + 1 = l.length := by omega
      rw [rd_app_l l b i (by omega), e, rd_app_r, show (i : Int) = (l.length : Int) - 1 by omega]
      exact h0
  · simp only [List.length_append, List.length_cons, List.length_nil] at hi
    by_cases h4 : i < l.length
    · rw [rd_app_l l b i h4]
      exact h.bd i h4
    · have e : i = l.length := by omega
      subst e
      rw [rd_app_r]
      omega
theorem VI.vt {l : List Br} (h : VI l) (h6 : l.length ≤ 6) : VT l := by
  refine ⟨h.pos, h6, ?_, h.inc, fun b hb => ?_⟩
  · have := h.bd 0 h.pos
    rw [show ((0 : Nat) : Int) = 0 from rfl] at this
    omega
  · obtain ⟨i, hi, rfl⟩ := List.mem_iff_getElem.1 hb
    have := h.bd i hi
    rw [rd_br l i hi] at this
    omega
theorem rd_six (r t : Int) (hr0 : 0 ≤ r) (hr1 : r < 10001) (h0 : 0 ≤ t) (h1 : t < 6) : 0 ≤ rd [0, 1, 5000, 9999, 10000, r] t ∧ rd [0, 1, 5000, 9999, 10000, r] t ≤ 10000 := by
  have : t = 0 ∨ t = 1 ∨ t = 2 ∨ t = 3 ∨ t = 4 ∨ t = 5 := by omega
  rcases this with rfl | rfl | rfl | rfl | rfl | rfl <;> simp [rd] <;> omega
theorem tax_l0 {x : List Int} (hx : wfI x) (nm : ByteArray) {t : Int} (ht : worldmintref01_Pick.f x 1 6 = some t) (ht6 : t < 6) : ∀ (n : Nat) (l : List Br), l.length ≤ 6 → t - ((l.length : Int) - 1) ≤ n → VI l →
    ∃ r, VT r ∧ ∀ k, n < k → worldmintref31_Tax.l0 k x ((l.length : Int) - 1) nm l = some (nm, r) := by
  intro n
  induction n with
  | zero =>
    intro l h1 h2 hv
    have hp := hv.pos
    refine ⟨l, hv.vt h1, fun k hk => ?_⟩
    obtain ⟨k, rfl⟩ : ∃ m, k = m + 1 := ⟨k - 1, by omega⟩
    simp only [worldmintref31_Tax.l0]
    rw [ht, Option.bind_some, if_neg (by omega)]
  | succ n ih =>
    intro l h1 h2 hv
    have hp := hv.pos
    by_cases hlt : (l.length : Int) - 1 < t
    · have w2 : wrap64 (wrap64 ((l.length : Int) - 1 + 1)) = (l.length : Int) - 1 + 1 := by rw [wrap_id (n := (l.length : Int) - 1 + 1) (by omega) (by omega), wrap_id (by omega) (by omega)]
      have w1 : wrap64 ((l.length : Int) - 1 + 1) = (l.length : Int) := by rw [wrap_id (by omega) (by omega)]; omega
      obtain ⟨t1, p1, p1a, p1b⟩ := pick_ex hx (wrap64 (2 + (wrap64 (2 * ((l.length : Int) - 1))))) 1000 (by omega)
      obtain ⟨t2, p2, p2a, p2b⟩ := pick_ex hx (wrap64 (3 + (wrap64 (2 * ((l.length : Int) - 1))))) 9 (by omega)
      obtain ⟨t3, p3, p3a, p3b⟩ := pick_ex hx (wrap64 (3 + (wrap64 (2 * ((l.length : Int) - 1))))) 10001 (by omega)
      obtain ⟨t4, p4, p4a, p4b⟩ := pick_ex hx (wrap64 (4 + (wrap64 (2 * ((l.length : Int) - 1))))) 6 (by omega)
      have h6 := rd_six t3 t4 p3a p3b p4a p4b
      have hb := hv.bd (l.length - 1) (by omega)
      rw [show (((l.length - 1 : Nat)) : Int) = (l.length : Int) - 1 by omega] at hb
      generalize hF : (rd_T37 l ((l.length : Int) - 1)).f0 = F at hb
      have go : ∀ d : Int, 0 ≤ d → d ≤ 1000000000 → ∃ r, VT r ∧ ∀ k, n < k → worldmintref31_Tax.l0 k x (l.length : Int) nm (l ++ [(⟨F + 1 + t1 + d, rd [0, 1, 5000, 9999, 10000, t3] t4⟩ : Br)]) = some (nm, r) := by
        intro d hd0 hd1
        have := ih (l ++ [(⟨F + 1 + t1 + d, rd [0, 1, 5000, 9999, 10000, t3] t4⟩ : Br)]) (by simp; omega) (by simp; omega) (hv.snoc (by rw [hF]; show F < F + 1 + t1 + d; omega) (by rw [hF]; show F + 1 + t1 + d ≤ F + 1000001000; omega) h6.1 h6.2)
        rw [List.length_append, List.length_cons, List.length_nil, show (((l.length + (0 + 1) : Nat)) : Int) - 1 = (l.length : Int) by omega] at this
        exact this
      have q1 : wrap64 (wrap64 (F + 1) + t1) = F + 1 + t1 := by rw [wrap_id (n := F + 1) (by omega) (by omega), wrap_id (by omega) (by omega)]
      have q2 : wrap64 (F + 1 + t1 + 1000000000) = F + 1 + t1 + 1000000000 := by rw [wrap_id (by omega) (by omega)]
      by_cases h9 : t2 = 0
      · obtain ⟨r, hr, go⟩ := go 1000000000 (by omega) (by omega)
        refine ⟨r, hr, fun k hk => ?_⟩
        obtain ⟨k, rfl⟩ : ∃ m, k = m + 1 := ⟨k - 1, by omega⟩
        simp only [worldmintref31_Tax.l0]
        rw [ht, Option.bind_some, if_pos hlt, if_pos (by omega), if_pos (by omega), p1, Option.bind_some, p2, Option.bind_some, if_pos h9, p3, Option.bind_some, Option.bind_some, p4, Option.bind_some, if_pos p4a, if_pos (by simp; omega), if_pos (by omega), w1, hF, q1, q2]
        exact go k (by omega)
      · obtain ⟨r, hr, go⟩ := go 0 (by omega) (by omega)
        refine ⟨r, hr, fun k hk => ?_⟩
        obtain ⟨k, rfl⟩ : ∃ m, k = m + 1 := ⟨k - 1, by omega⟩
        simp only [worldmintref31_Tax.l0]
        rw [ht, Option.bind_some, if_pos hlt, if_pos (by omega), if_pos (by omega), p1, Option.bind_some, p2, Option.bind_some, if_neg h9, p3, Option.bind_some, Option.bind_some, p4, Option.bind_some, if_pos p4a, if_pos (by simp; omega), if_pos (by omega), w1, hF, q1]
        have := go k (by omega)
        rw [Int.add_zero] at this
        exact this
    · refine ⟨l, hv.vt h1, fun k hk => ?_⟩
      obtain ⟨k, rfl⟩ : ∃ m, k = m + 1 := ⟨k - 1, by omega⟩
      simp only [worldmintref31_Tax.l0]
      rw [ht, Option.bind_some, if_neg hlt]
abbrev saleB : ByteArray := ⟨#[115, 97, 108, 101]⟩
theorem tax_gives {x : List Int} (hx : wfI x) : ∃ l, VT l ∧ Ev (fun k => worldmintref31_Tax.f k x) (saleB, l) := by
  obtain ⟨t0, p0, p0a, p0b⟩ := pick_ex hx 0 10001 (by omega)
  obtain ⟨t, p1, p1a, p1b⟩ := pick_ex hx 1 6 (by omega)
  obtain ⟨r, hr, h⟩ := tax_l0 hx saleB p1 p1b 5 [(⟨0, t0⟩ : Br)] (by simp) (by simp; omega) (VI.one p0a p0b)
  refine ⟨r, hr, 6, fun k hk => ?_⟩
  show worldmintref31_Tax.f k x = _
  unfold worldmintref31_Tax.f
  rw [p0, Option.bind_some]
  exact h k (by omega)
theorem sum_gives (nm : ByteArray) {l : List Br} (hv : VT l) {a : Int} (ha : (Lit.int .i64 a).wf = true) : ∃ s, worldmintref31_Sum.f nm l a = some s ∧ 0 ≤ s ∧ s ≤ 1099511627776 := by
  have hb := i64_bounds ha
  have h6 := hv.len
  unfold worldmintref31_Sum.f
  have e1 := around_eq a 40 hb (by omega)
  have b1 := around_bd a 40 (by omega)
  have hd : -9223372036854775808 ≤ Int.tdiv a 40 ∧ Int.tdiv a 40 ≤ 9223372036854775807 := by
    rcases Int.le_total 0 a with h | h
    · rw [Int.tdiv_eq_ediv_of_nonneg h]; omega
    · rw [show a = -(-a) by omega, Int.neg_tdiv, Int.tdiv_eq_ediv_of_nonneg (by omega)]; omega
  rw [wrap_id (n := Int.tdiv a 40) (by omega) (by omega)]
  have e2 := around_eq (Int.tdiv a 40) 10000 hd (by omega)
  have b2 := around_bd (Int.tdiv a 40) 10000 (by omega)
  rw [e1, e2, Option.bind_some, Option.bind_some]
  generalize aroundOf a 40 = p at b1 ⊢
  generalize aroundOf (Int.tdiv a 40) 10000 = q at b2 ⊢
  rw [Int.tmod_eq_emod_of_nonneg b2.1, Int.tmod_eq_emod_of_nonneg b2.1]
  by_cases h1 : p < (l.length : Int)
  · rw [if_pos h1, if_pos b1.1]
    have hq := hv.bd l[p.toNat] (List.getElem_mem _)
    have e3 := rd_br l p.toNat (by omega)
    rw [show ((p.toNat : Nat) : Int) = p by omega] at e3
    rw [e3]
    generalize l[p.toNat] = b at hq ⊢
    rw [wrap_id (n := b.f0 + q % 5) (by omega) (by omega), wrap_id (n := b.f0 + q % 5 - 2) (by omega) (by omega)]
    refine ⟨_, rfl, ?_⟩
    unfold mx
    split <;> omega
  · rw [if_neg h1]
    by_cases h2 : p = 39
    · rw [if_pos h2]
      refine ⟨_, rfl, ?_⟩
      rw [wrap_id (by omega) (by omega)]
      omega
    · rw [if_neg h2]
      by_cases h3 : p > 30
      · rw [if_pos h3]
        refine ⟨_, rfl, ?_⟩
        rw [wrap_id (by omega) (by omega)]
        omega
      · rw [if_neg h3]
        exact ⟨_, rfl, by omega, by omega⟩
theorem due_gives {nm : ByteArray} {l : List Br} (hv : VT l) (hn : fitsL nm.data.toList = true) (hs : nm.size ≤ 1000000) {a : Int} (h0 : 0 ≤ a) (h1 : a ≤ 1099511627776) : Ev (fun k => tax_Due.f k nm l a) (dueZ l a, 0) := by
  refine ⟨8, fun k hk => ?_⟩
  have h6 := hv.len
  show tax_Due.f k nm l a = _
  unfold tax_Due.f
  rw [check_one hv hn hs h0 h1 k (by omega), Option.bind_some, if_pos rfl, due_run nm hv.bd (by omega) h0 h1 k (by omega), Option.bind_some]
theorem more_gives {nm : ByteArray} {l : List Br} (hv : VT l) (hn : fitsL nm.data.toList = true) (hs : nm.size ≤ 1000000) {a b : Int} (h0 : 0 ≤ a) (h1 : 0 ≤ b) (h2 : a + b ≤ 1099511627776) : Ev (fun k => tax_More.f k nm l a b) (dueZ l (a + b) - dueZ l a, 0) := by
  refine ⟨8, fun k hk => ?_⟩
  have h6 := hv.len
  have d1 := due_bd (s := a) hv.bd h0
  have d2 := due_bd (s := a + b) hv.bd (by omega)
  show tax_More.f k nm l a b = _
  unfold tax_More.f
  rw [check_two hv hn hs h0 h1 h2 k (by omega), Option.bind_some, if_pos rfl, wrap_id (n := a + b) (by omega) (by omega), due_run nm hv.bd (by omega) (by omega) h2 k (by omega), Option.bind_some, due_run nm hv.bd (by omega) h0 (by omega) k (by omega), Option.bind_some, wrap_id (by omega) (by omega)]
/-- Net finds the greatest sum that leaves this much. -/
theorem net_gives {nm : ByteArray} {l : List Br} (hv : VT l) (hn : fitsL nm.data.toList = true) (hs : nm.size ≤ 1000000) {a : Int} (h0 : 0 ≤ a) (h1 : a ≤ 1099511627776) :
    ∃ r, tax_Net.f nm l a = some (r, 0) ∧ 0 ≤ r ∧ r ≤ 1099511627776 ∧ r - dueZ l r ≤ a ∧ (r < 1099511627776 → a < (r + 1) - dueZ l (r + 1)) := by
  have h6 := hv.len
  obtain ⟨r, e, r0, r1, r2, r3⟩ := search_ok nm hv.bd (by omega) a 41 0 1099511627777 (by omega) (by omega) (by omega) (by decide) (fun t h h' => by omega) (fun h => by omega) 1000 (by omega)
  have hp : 0 < r := by
    rcases Int.lt_or_le 0 r with h | h
    · exact h
    · have e0 : r = 0 := by omega
      subst e0
      have := due_bd (s := 0) hv.bd (by omega)
      have := r3 (by omega)
      omega
  refine ⟨r - 1, ?_, by omega, by omega, r2 (r - 1) (by omega) (by omega), fun h => ?_⟩
  · unfold tax_Net.f
    rw [check_one hv hn hs h0 h1 1000 (by omega), Option.bind_some, if_pos rfl, e, Option.bind_some, wrap_id (by omega) (by omega)]
  · rw [show r - 1 + 1 = r by omega]
    exact r3 (by omega)
end Go.Proofs.YtmahdomlmidfdaaDoor.Pure
