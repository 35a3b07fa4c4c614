/- The tax on a sum, plain: slope, Net, validity. -/
import Derived.Test.YtmahdomlmidfdaaDoorEv
import Derived.Test.YtmahdomlmidfdaaDoorXx1
import Derived.Test.YtmahdomlmidfdaaDoorExn
namespace Go.Proofs.YtmahdomlmidfdaaDoor.Pure
open Go.RowKit Go.Proofs.YtmahdomlmidfdaaDoorW.PrintWords Go.Proofs.YtmahdomlmidfdaaDoor Go.Proofs.YtmahdomlmidfdaaDoor.X
set_option linter.unusedSimpArgs false
set_option linter.unusedVariables false

abbrev Br := S37
def aroundOf (n m : Int) : Int := Int.tmod (if n < 0 then -(n + 1) else n) m
theorem i64_bounds {n : Int} (h : (Lit.int .i64 n).wf = true) : -9223372036854775808 ≤ n ∧ n ≤ 9223372036854775807 := by
  simp only [Lit.wf, IntKind.min, IntKind.max, IntKind.signed, IntKind.bits, Bool.and_eq_true, decide_eq_true_eq, if_true] at h
  omega
theorem around_eq (n m : Int) (hn : -9223372036854775808 ≤ n ∧ n ≤ 9223372036854775807) (hm : 0 < m) : worldmintref01_Around.f n m = some (aroundOf n m) := by
  unfold worldmintref01_Around.f aroundOf
  by_cases h : n < 0
  · rw [if_pos h, if_neg (by omega), if_pos h, wrap_id (n := n + 1) (by omega) (by omega), wrap_id (n := -(n + 1)) (by omega) (by omega)]
  · rw [if_neg h, if_neg (by omega), if_neg h]
theorem around_bd (n m : Int) (hm : 0 < m) : 0 ≤ aroundOf n m ∧ aroundOf n m < m := by
  unfold aroundOf
  have h : 0 ≤ (if n < 0 then -(n + 1) else n) := by split <;> omega
  exact ⟨Int.tmod_nonneg _ h, Int.tmod_lt_of_pos _ hm⟩
def wfI (l : List Int) : Prop := ∀ x ∈ l, (Lit.int .i64 x).wf = true
theorem pick_ex {l : List Int} (hl : wfI l) (i m : Int) (hm : 0 < m) : ∃ n, worldmintref01_Pick.f l i m = some n ∧ 0 ≤ n ∧ n < m := by
  unfold worldmintref01_Pick.f
  by_cases h1 : i < 0
  · exact ⟨0, if_pos h1, by omega, by omega⟩
  · by_cases h2 : i ≥ (l.length : Int)
    · exact ⟨0, by rw [if_neg h1, if_pos h2], by omega, by omega⟩
    · have hd : rd l i ∈ l := by
        unfold rd
        rw [List.getD_eq_getElem?_getD, List.getElem?_eq_getElem (by omega)]
        exact List.getElem_mem _
      refine ⟨aroundOf (rd l i) m, ?_, around_bd _ _ hm⟩
      rw [if_neg h1, if_neg h2, if_pos (by omega), if_pos (by omega), around_eq _ _ (i64_bounds (hl _ hd)) hm]
      rfl

/-- A tax as the statements make it: brackets from 0 on, increasing, with small numbers. -/
structure VT (l : List Br) : Prop where
  pos : 0 < l.length
  len : l.length ≤ 6
  first : (rd_T37 l 0).f0 = 0
  inc : ∀ i : Nat, i + 1 < l.length → (rd_T37 l (i : Int)).f0 < (rd_T37 l ((i + 1 : Nat) : Int)).f0
  bd : ∀ b ∈ l, 0 ≤ b.f0 ∧ b.f0 ≤ 10000000000 ∧ 0 ≤ b.f1 ∧ b.f1 ≤ 10000

/-- What is due in ten thousandths, of the brackets from the last one on. -/
def tot : List Br → Int → Int
  | [], _ => 0
  | b :: r, s => if s > b.f0 then (s - b.f0) * b.f1 + tot r b.f0 else tot r s
def dueZ (l : List Br) (s : Int) : Int := tot l.reverse s / 10000
def bdB (r : List Br) : Prop := ∀ b ∈ r, 0 ≤ b.f0 ∧ b.f0 ≤ 10000000000 ∧ 0 ≤ b.f1 ∧ b.f1 ≤ 10000
theorem tot_bd : ∀ {r : List Br} {s : Int}, bdB r → 0 ≤ s → 0 ≤ tot r s ∧ tot r s ≤ 10000 * s
  | [], s, _, h0 => by simp [tot]; omega
  | b :: r, s, h, h0 => by
    have hb := h b (by simp)
    have hr : bdB r := fun x hx => h x (by simp [hx])
    unfold tot
    by_cases hs : s > b.f0
    · rw [if_pos hs]
      have ih := tot_bd (s := b.f0) hr hb.1
      have h1 : 0 ≤ (s - b.f0) * b.f1 := Int.mul_nonneg (by omega) hb.2.2.1
      have h2 : (s - b.f0) * b.f1 ≤ (s - b.f0) * 10000 := Int.mul_le_mul_of_nonneg_left hb.2.2.2 (by omega)
      omega
    · rw [if_neg hs]
      exact tot_bd hr h0
theorem tot_step : ∀ {r : List Br} {s : Int}, bdB r → 0 ≤ s → tot r s ≤ tot r (s + 1) ∧ tot r (s + 1) ≤ tot r s + 10000
  | [], s, _, h0 => by simp [tot]
  | b :: r, s, h, h0 => by
    have hb := h b (by simp)
    have hr : bdB r := fun x hx => h x (by simp [hx])
    unfold tot
    by_cases hs : s > b.f0
    · rw [if_pos hs, if_pos (by omega)]
      have e : (s + 1 - b.f0) * b.f1 = (s - b.f0) * b.f1 + b.f1 := by
        rw [show s + 1 - b.f0 = (s - b.f0) + 1 by omega, Int.add_mul, Int.one_mul]
      rw [e]
      omega
    · rw [if_neg hs]
      by_cases h1 : s = b.f0
      · subst h1
        rw [if_pos (by omega), show b.f0 + 1 - b.f0 = 1 by omega, Int.one_mul]
        omega
      · rw [if_neg (by omega)]
        exact tot_step hr h0
theorem due_step {l : List Br} {s : Int} (h : bdB l) (h0 : 0 ≤ s) : 0 ≤ dueZ l (s + 1) - dueZ l s ∧ dueZ l (s + 1) - dueZ l s ≤ 1 := by
  have := tot_step (r := l.reverse) (s := s) (fun b hb => h b (List.mem_reverse.1 hb)) h0
  unfold dueZ
  omega
theorem due_bd {l : List Br} {s : Int} (h : bdB l) (h0 : 0 ≤ s) : 0 ≤ dueZ l s ∧ dueZ l s ≤ s := by
  have := tot_bd (r := l.reverse) (s := s) (fun b hb => h b (List.mem_reverse.1 hb)) h0
  unfold dueZ
  omega
/-- What is left does not decrease. -/
theorem left_mono {l : List Br} (h : bdB l) {s : Int} (h0 : 0 ≤ s) (n : Nat) : s - dueZ l s ≤ (s + n) - dueZ l (s + n) := by
  induction n with
  | zero => simp
  | succ n ih =>
    have := due_step (s := s + n) h (by omega)
    rw [show s + ((n + 1 : Nat) : Int) = s + n + 1 by omega]
    omega
theorem left_le {l : List Br} (h : bdB l) {s t : Int} (h0 : 0 ≤ s) (hst : s ≤ t) : s - dueZ l s ≤ t - dueZ l t := by
  have := left_mono h h0 (t - s).toNat
  rw [show s + ((t - s).toNat : Int) = t by omega] at this
  exact this

theorem rd_br (l : List Br) (i : Nat) (h : i < l.length) : rd_T37 l (i : Int) = l[i] := by
  unfold rd_T37
  rw [Int.toNat_natCast, List.getD_eq_getElem?_getD, List.getElem?_eq_getElem h]
  rfl
theorem due_l0 (nm : ByteArray) {l : List Br} (h : bdB l) (hl : l.length ≤ 1000) : ∀ (n : Nat) (s t : Int), n ≤ l.length → 0 ≤ s → s ≤ 1099511627776 → 0 ≤ t → t + 10000 * s ≤ 10000 * 1099511627776 →
    ∀ k, n < k → tax_due.l0 k s t ((n : Int) - 1) nm l = some (wrap64 (Int.tdiv (t + tot (l.take n).reverse s) 10000)) := by
  intro n
  induction n with
  | zero =>
    intro s t _ h0 h1 h2 h3 k hk
    obtain ⟨k, rfl⟩ : ∃ m, k = m + 1 := ⟨k - 1, by omega⟩
    simp only [tax_due.l0]
    rw [if_neg (by omega)]
    simp [tot]
  | succ n ih =>
    intro s t hn h0 h1 h2 h3 k hk
    obtain ⟨k, rfl⟩ : ∃ m, k = m + 1 := ⟨k - 1, by omega⟩
    simp only [tax_due.l0]
    rw [show (((n + 1 : Nat) : Int) - 1) = (n : Int) by omega, if_pos (by omega), if_pos (by omega), if_pos (by omega), rd_br l n (by omega), List.take_succ_eq_append_getElem (by omega), List.reverse_append]
    have hb := h l[n] (List.getElem_mem _)
    generalize l[n] = b at hb ⊢
    show _ = some (wrap64 (Int.tdiv (t + tot (b :: (l.take n).reverse) s) 10000))
    unfold tot
    rw [wrap_id (n := (n : Int) - 1) (by omega) (by omega)]
    by_cases hs : s > b.f0
    · rw [if_pos hs, if_pos hs]
      have m1 : 0 ≤ (s - b.f0) * b.f1 := Int.mul_nonneg (by omega) hb.2.2.1
      have m2 : (s - b.f0) * b.f1 ≤ (s - b.f0) * 10000 := Int.mul_le_mul_of_nonneg_left hb.2.2.2 (by omega)
      rw [wrap_id (n := s - b.f0) (by omega) (by omega), wrap_id (n := (s - b.f0) * b.f1) (by omega) (by omega), wrap_id (n := t + (s - b.f0) * b.f1) (by omega) (by omega)]
      rw [ih b.f0 (t + (s - b.f0) * b.f1) (by omega) hb.1 (by omega) (by omega) (by omega) k (by omega), Int.add_assoc]
    · rw [if_neg hs, if_neg hs]
      exact ih s t (by omega) h0 h1 h2 h3 k (by omega)
theorem due_run (nm : ByteArray) {l : List Br} (h : bdB l) (hl : l.length ≤ 900) {s : Int} (h0 : 0 ≤ s) (h1 : s ≤ 1099511627776) (k : Nat) (hk : l.length < k) : tax_due.f k nm l s = some (dueZ l s) := by
  unfold tax_due.f
  have hb := tot_bd (r := l.reverse) (s := s) (fun b hb => h b (List.mem_reverse.1 hb)) h0
  rw [wrap_id (by omega) (by omega), due_l0 nm h (by omega) l.length s 0 (Nat.le_refl _) h0 h1 (by omega) (by omega) k hk, List.take_length, Int.zero_add, Int.tdiv_eq_ediv_of_nonneg hb.1]
  unfold dueZ
  rw [wrap_id (by omega) (by omega)]

theorem addF_no (g : Int → Bool) (c : Int) (b : Bool) (x : Int) (h : g x = false) (hb : b = false ∨ x ≠ c) : addF g c b x = false := by
  unfold addF
  rcases hb with rfl | hb
  · simp [h]
  · simp [h, hb]
theorem taxSt_no (g : Int → Bool) (l : List (Int × Int)) (x : Int) (hg : g x = false) (h4 : l.length ≤ 16) (hp : 0 < l.length) (h0 : (l.getD 0 (0, 0)).1 = 0)
    (hinc : ∀ i, 0 < i → i < l.length → (l.getD (i - 1) (0, 0)).1 < (l.getD i (0, 0)).1) (hb : ∀ i, i < l.length → outB (l.getD i (0, 0)).1 0 1099511627776 = false ∧ outB (l.getD i (0, 0)).2 0 10000 = false) : ∀ n, n ≤ l.length → taxSt g l n x = false := by
  intro n
  induction n with
  | zero =>
    intro _
    unfold taxSt tax0
    refine addF_no _ _ _ _ (addF_no _ _ _ _ hg (.inl (decide_eq_false (by omega)))) (.inl ?_)
    rw [h0, decide_eq_false (by omega)]
    rfl
  | succ n ih =>
    intro hn
    unfold taxSt
    have hbn := hb n (by omega)
    refine addF_no _ _ _ _ (addF_no _ _ _ _ (ih (by omega)) (.inl ?_)) (.inl (by rw [hbn.1, hbn.2]; rfl))
    by_cases h : 0 < n
    · have := hinc n h (by omega)
      rw [decide_eq_true h, decide_eq_false (by omega)]
      rfl
    · rw [decide_eq_false h]; rfl
theorem prs_get (l : List Br) (i : Nat) (h : i < l.length) : (prs l).getD i (0, 0) = (l[i].f0, l[i].f1) := by
  unfold prs
  rw [List.getD_eq_getElem?_getD, List.getElem?_map, List.getElem?_eq_getElem h]
  rfl
theorem valid_ok {nm : ByteArray} {l : List Br} (hv : VT l) (hn : fitsL nm.data.toList = true) (hs : nm.size ≤ 1000000) : tax_Valid.f nm l = some 0 := by
  have hp := hv.pos
  have hl6 := hv.len
  unfold tax_Valid.f
  rw [if_pos ⟨hs, by omega⟩]
  have hall : ∀ x, oneTax nm.data.toList (prs l) x = false := by
    intro x
    unfold oneTax
    refine taxSt_no _ _ x ?_ (by rw [prs_len]; omega) (by rw [prs_len]; exact hp) ?_ ?_ ?_ _ (Nat.le_refl _)
    · rw [hn]
      exact addF_no _ _ _ _ (addF_no _ _ _ _ (addF_no _ _ _ _ rfl (.inl rfl)) (.inl rfl)) (.inl rfl)
    · have := hv.first
      rw [prs_get l 0 hp]
      have e := rd_br l 0 hp
      rw [show ((0 : Nat) : Int) = 0 from rfl] at e
      rw [e] at this
      exact this
    · intro i h0 hi
      rw [prs_len] at hi
      have := hv.inc (i - 1) (by omega)
      rw [rd_br l (i - 1) (by omega), rd_br l (i - 1 + 1) (by omega)] at this
      rw [prs_get l (i - 1) (by omega), prs_get l i hi]
      have e : l[i - 1 + 1]'(by omega) = l[i] := by congr 1; omega
      rw [e] at this
      exact this
    · intro i hi
      rw [prs_len] at hi
      have hb := hv.bd l[i] (List.getElem_mem _)
      rw [prs_get l i hi]
      unfold outB
      exact ⟨by rw [decide_eq_false (by simp only []; omega), decide_eq_false (by simp only []; omega)]; rfl, by rw [decide_eq_false (by simp only []; omega), decide_eq_false (by simp only []; omega)]; rfl⟩
  unfold validT
  simp [firstF, hall]
theorem check_one {nm : ByteArray} {l : List Br} (hv : VT l) (hn : fitsL nm.data.toList = true) (hs : nm.size ≤ 1000000) {a : Int} (h0 : 0 ≤ a) (h1 : a ≤ 1099511627776) (k : Nat) (hk : 1 < k) : tax_check.f k nm l [a] = some 0 := by
  unfold tax_check.f
  rw [valid_ok hv hn hs, Option.bind_some, if_pos rfl]
  obtain ⟨k, rfl⟩ : ∃ m, k = m + 2 := ⟨k - 2, by omega⟩
  have w1 : wrap64 (0 + 1) = 1 := by decide +kernel
  simp only [tax_check.l0]
  rw [if_pos (by simp), if_pos (by omega), if_pos (by simp), show rd [a] 0 = a from rfl, if_neg (by omega), if_neg (by omega), w1, if_neg (by simp)]
theorem check_two {nm : ByteArray} {l : List Br} (hv : VT l) (hn : fitsL nm.data.toList = true) (hs : nm.size ≤ 1000000) {a b : Int} (h0 : 0 ≤ a) (h1 : 0 ≤ b) (h2 : a + b ≤ 1099511627776) (k : Nat) (hk : 2 < k) : tax_check.f k nm l [a, b] = some 0 := by
  unfold tax_check.f
  rw [valid_ok hv hn hs, Option.bind_some, if_pos rfl]
  obtain ⟨k, rfl⟩ : ∃ m, k = m + 3 := ⟨k - 3, by omega⟩
  have w1 : wrap64 (0 + 1) = 1 := by decide +kernel
  have w2 : wrap64 (1 + 1) = 2 := by decide +kernel
  simp only [tax_check.l0]
  rw [if_pos (by simp), if_pos (by omega), if_pos (by simp), show rd [a, b] 0 = a from rfl, if_neg (by omega), if_neg (by omega), w1, if_pos (by simp), if_pos (by omega), if_pos (by simp), show rd [a, b] 1 = b from rfl, wrap_id (n := 1099511627776 - a) (by omega) (by omega), if_neg (by omega), if_neg (by omega), w2, if_neg (by simp)]

/-- The search finds the first place where the answer is yes. -/
theorem search_ok (nm : ByteArray) {l : List Br} (h : bdB l) (hl : l.length ≤ 900) (net : Int) : ∀ (n : Nat) (i j : Int), 0 ≤ i → i ≤ j → j ≤ 1099511627777 → j - i < 2 ^ n → (∀ t, 0 ≤ t → t < i → t - dueZ l t ≤ net) → (j ≤ 1099511627776 → net < j - dueZ l j) →
    ∀ m, n < m → ∃ r, netS nm l net m i j = some r ∧ i ≤ r ∧ r ≤ 1099511627777 ∧ (∀ t, 0 ≤ t → t < r → t - dueZ l t ≤ net) ∧ (r ≤ 1099511627776 → net < r - dueZ l r) := by
  intro n
  induction n with
  | zero =>
    intro i j h0 hij hj hd hlo hhi m hm
    obtain ⟨m, rfl⟩ : ∃ q, m = q + 1 := ⟨m - 1, by omega⟩
    simp only [netS]
    have e : i = j := by simp at hd; omega
    subst e
    exact ⟨i, by rw [if_neg (by omega)], by omega, hj, hlo, hhi⟩
  | succ n ih =>
    intro i j h0 hij hj hd hlo hhi m hm
    obtain ⟨m, rfl⟩ : ∃ q, m = q + 1 := ⟨m - 1, by omega⟩
    simp only [netS]
    by_cases hlt : i < j
    · rw [if_pos hlt]
      have c0 : 0 ≤ (i + j) / 2 := by omega
      have c1 : i ≤ (i + j) / 2 := by omega
      have c2 : (i + j) / 2 < j := by omega
      have c3 : (i + j) / 2 - i < 2 ^ n := by
        have : (2 : Int) ^ (n + 1) = 2 * 2 ^ n := by rw [Int.pow_succ]; omega
        omega
      have c4 : j - ((i + j) / 2 + 1) < 2 ^ n := by
        have : (2 : Int) ^ (n + 1) = 2 * 2 ^ n := by rw [Int.pow_succ]; omega
        omega
      generalize (i + j) / 2 = c at c0 c1 c2 c3 c4 ⊢
      have hp : netP nm l net c = some (decide (net < c - dueZ l c)) := by
        unfold netP
        rw [due_run nm h hl c0 (by omega) 1000 (by omega), Option.bind_some]
        have := due_bd (s := c) h c0
        rw [wrap_id (by omega) (by omega)]
      rw [hp, Option.bind_some]
      by_cases hq : net < c - dueZ l c
      · rw [decide_eq_true hq, if_pos rfl]
        obtain ⟨r, r1, r2, r3, r4, r5⟩ := ih i c h0 c1 (by omega) c3 hlo (fun _ => hq) m (by omega)
        exact ⟨r, r1, r2, r3, r4, r5⟩
      · rw [decide_eq_false hq, if_neg (by decide)]
        obtain ⟨r, r1, r2, r3, r4, r5⟩ := ih (c + 1) j (by omega) (by omega) hj c4 (fun t ht htc => by
          have := left_le h ht (show t ≤ c by omega)
          omega) hhi m (by omega)
        exact ⟨r, r1, by omega, r3, r4, r5⟩
    · have e : i = j := by omega
      subst e
      exact ⟨i, by rw [if_neg hlt], by omega, hj, hlo, hhi⟩
end Go.Proofs.YtmahdomlmidfdaaDoor.Pure
