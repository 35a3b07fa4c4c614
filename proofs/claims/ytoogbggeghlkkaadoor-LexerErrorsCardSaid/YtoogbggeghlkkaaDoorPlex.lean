/- The reference's Tokens is the lexer's, in plain Lean. -/
import Derived.Test.YtoogbggeghlkkaaDoorEv
import Derived.Test.YtoogbggeghlkkaaDoorXx4
import Derived.Lib.AtoiAllCases
namespace Go.Proofs.YtoogbggeghlkkaaDoor.X
open Go.RowKit Go.Proofs.YtoogbggeghlkkaaDoorW.PrintWords Go.Proofs.YtoogbggeghlkkaaDoorW.PrintLast Go.Proofs.YtoogbggeghlkkaaDoorW.PrintMore
open Lex

theorem all_bytes {P : UInt8 → Prop} (h : ∀ n, n < 256 → P (UInt8.ofNat n)) (b : UInt8) : P b := by
  have := h b.toNat b.toNat_lt
  rwa [UInt8.ofNat_toNat] at this

def cls (b : UInt8) : Int := if isB b then 0 else if isL b then 1 else if isD b then 2 else if b = 95 then 3 else if single b then 4 else if b = 35 then 5 else if b = 45 then 6 else 7

theorem cls_ok : ∀ n, n < 256 → worldmintref07_class.f 3 ((UInt8.ofNat n).toNat : Int) = some (cls (UInt8.ofNat n)) := by decide +kernel
theorem class_ev (b : UInt8) : Ev (fun k => worldmintref07_class.f k (b.toNat : Int)) (cls b) :=
  Ev.of_mono (k0 := 3) (fun k => worldmintref07_class.mono _ k) (all_bytes (P := fun b => worldmintref07_class.f 3 (b.toNat : Int) = some (cls b)) cls_ok b)

theorem cls_a (b : UInt8) : (cls b = 0 ↔ isB b = true) ∧ (cls b = 1 ↔ isL b = true) ∧ (cls b = 2 ↔ isD b = true) :=
  all_bytes (P := fun b => (cls b = 0 ↔ isB b = true) ∧ (cls b = 1 ↔ isL b = true) ∧ (cls b = 2 ↔ isD b = true)) (by decide +kernel) b
theorem cls_b (b : UInt8) : (1 ≤ cls b ∧ cls b ≤ 3) ↔ isW b = true :=
  all_bytes (P := fun b => (1 ≤ cls b ∧ cls b ≤ 3) ↔ isW b = true) (by decide +kernel) b
theorem cls_c (b : UInt8) : (isB b = false ∧ isL b = false ∧ isD b = false ∧ b ≠ 35) → (cls b = 4 ↔ single b = true) ∧ (cls b = 6 ↔ b = 45) :=
  all_bytes (P := fun b => (isB b = false ∧ isL b = false ∧ isD b = false ∧ b ≠ 35) → (cls b = 4 ↔ single b = true) ∧ (cls b = 6 ↔ b = 45)) (by decide +kernel) b
theorem cls_d (b : UInt8) : (isL b = true → isD b = false) ∧ (isL b = true → isW b = true) ∧ (b = 45 → single b = false) :=
  all_bytes (P := fun b => (isL b = true → isD b = false) ∧ (isL b = true → isW b = true) ∧ (b = 45 → single b = false)) (by decide +kernel) b
theorem cls_facts (b : UInt8) : (cls b = 0 ↔ isB b = true) ∧ (cls b = 1 ↔ isL b = true) ∧ (cls b = 2 ↔ isD b = true) ∧ ((cls b ≥ 1 ∧ cls b ≤ 3) ↔ isW b = true) ∧ (isB b = false → isL b = false → isD b = false → b ≠ 35 → (cls b = 4 ↔ single b = true) ∧ (cls b = 6 ↔ b = 45)) ∧ (isL b = true → isD b = false) ∧ (isL b = true → isW b = true) ∧ (b = 45 → single b = false) :=
  ⟨(cls_a b).1, (cls_a b).2.1, (cls_a b).2.2, cls_b b, fun h1 h2 h3 h4 => cls_c b ⟨h1, h2, h3, h4⟩, (cls_d b).1, (cls_d b).2.1, (cls_d b).2.2⟩

def skipN : Bool → List UInt8 → Nat
  | _, [] => 0
  | c, b :: r => if b = 10 then 1 + skipN false r else if (c || b == 35) = true then 1 + skipN true r else if isB b then 1 + skipN false r else 0

theorem byte_eq (b : UInt8) (n : Nat) (h : n < 256) : ((b.toNat : Int) = (n : Int)) ↔ b = UInt8.ofNat n := by
  constructor
  · intro e
    have e2 : b.toNat = n := by omega
    rw [← e2, UInt8.ofNat_toNat]
  · intro e
    subst e
    rw [UInt8.toNat_ofNat']
    have : n % 2 ^ 8 = n := Nat.mod_eq_of_lt h
    omega

theorem skip_ev (s : ByteArray) (hs : s.size < 4611686018427387904) : ∀ (l : List UInt8) (p : Nat) (c : Bool), s.data.toList.drop p = l →
    Ev (fun k => worldmintref07_skip.l0 k s p c) ((p + skipN c l : Nat) : Int) := by
  intro l
  induction l with
  | nil =>
    intro p c h
    have := drop_nil h
    refine Ev.up ?_
    simp only [worldmintref07_skip.l0]
    exact Ev.neg (by omega) (Ev.ok _)
  | cons b r ih =>
    intro p c h
    obtain ⟨hp, hb, hd, hl⟩ := bt_drop h
    have w := wrap_succ p (by omega)
    have key : ∀ c', c' = (c || b == 35) → Ev (fun k => worldmintref07_skip.j1 k s p c') ((p + skipN c (b :: r) : Nat) : Int) := by
      intro c' hc'
      refine Ev.up ?_
      simp only [worldmintref07_skip.j1, hb]
      refine Ev.pos (by omega) (Ev.pos (by omega) ?_)
      by_cases h10 : b = 10
      · subst h10
        refine Ev.pos (by rfl) (Ev.bind (class_ev 10) (Ev.pos (by decide) ?_))
        rw [w]
        refine (ih (p + 1) false hd).cast ?_
        simp only [skipN, if_true]
        omega
      · refine Ev.neg (fun e => h10 ((byte_eq b 10 (by decide)).1 e)) ?_
        cases c' with
        | true =>
          refine Ev.pos rfl ?_
          rw [w]
          refine (ih (p + 1) true hd).cast ?_
          simp only [skipN, if_neg h10, ← hc', if_true]
          omega
        | false =>
          refine Ev.neg (by decide) (Ev.bind (class_ev b) ?_)
          by_cases hB : isB b = true
          · refine Ev.pos ((cls_facts b).1.2 hB) ?_
            rw [w]
            refine (ih (p + 1) false hd).cast ?_
            simp only [skipN, if_neg h10, ← hc', hB, if_true, Bool.false_eq_true, if_false]
            omega
          · refine Ev.neg (fun e => hB ((cls_facts b).1.1 e)) ((Ev.ok _).cast ?_)
            simp only [skipN, if_neg h10, ← hc', hB, Bool.false_eq_true, if_false]
            omega
    refine Ev.up ?_
    simp only [worldmintref07_skip.l0, hb]
    refine Ev.pos (by omega) (Ev.pos (by omega) ?_)
    by_cases h35 : b = 35
    · subst h35
      exact Ev.pos (by rfl) (key true (by simp))
    · exact Ev.neg (fun e => h35 ((byte_eq b 35 (by decide)).1 e)) (key c (by simp [h35]))

theorem span_cons (f : UInt8 → Bool) (c : UInt8) (r : List UInt8) : span f (c :: r) = if f c then 1 + span f r else 0 := by
  unfold span
  by_cases h : f c = true
  · simp [h]; omega
  · simp [h]

theorem end_l0_ev (s : ByteArray) (hs : s.size < 4611686018427387904) : ∀ (l : List UInt8) (p : Nat), s.data.toList.drop p = l →
    Ev (fun k => worldmintref07_end.l0 k s p) ((p + span isW l : Nat) : Int) := by
  intro l
  induction l with
  | nil =>
    intro p h
    have := drop_nil h
    refine Ev.up ?_
    simp only [worldmintref07_end.l0]
    exact Ev.neg (by omega) (Ev.ok _)
  | cons b r ih =>
    intro p h
    obtain ⟨hp, hb, hd, hl⟩ := bt_drop h
    have w := wrap_succ p (by omega)
    refine Ev.up ?_
    simp only [worldmintref07_end.l0, hb, w]
    refine Ev.pos (by omega) (Ev.pos (by omega) (Ev.bind (class_ev b) ?_))
    have hW := (cls_facts b).2.2.2.1
    rw [span_cons]
    by_cases h1 : isW b = true
    · refine Ev.pos (hW.2 h1).1 (Ev.pos (hW.2 h1).2 ((ih (p + 1) hd).cast ?_))
      rw [if_pos h1]; omega
    · rw [if_neg h1]
      by_cases h2 : cls b ≥ 1
      · exact Ev.pos h2 (Ev.neg (fun h3 => h1 (hW.1 ⟨h2, h3⟩)) (Ev.ok _))
      · exact Ev.neg h2 (Ev.ok _)

theorem end_l1_ev (s : ByteArray) (hs : s.size < 4611686018427387904) : ∀ (l : List UInt8) (p : Nat), s.data.toList.drop p = l →
    Ev (fun k => worldmintref07_end.l1 k s p) ((p + span isD l : Nat) : Int) := by
  intro l
  induction l with
  | nil =>
    intro p h
    have := drop_nil h
    refine Ev.up ?_
    simp only [worldmintref07_end.l1]
    exact Ev.neg (by omega) (Ev.ok _)
  | cons b r ih =>
    intro p h
    obtain ⟨hp, hb, hd, hl⟩ := bt_drop h
    have w := wrap_succ p (by omega)
    refine Ev.up ?_
    simp only [worldmintref07_end.l1, hb, w]
    refine Ev.pos (by omega) (Ev.pos (by omega) (Ev.bind (class_ev b) ?_))
    have hD := (cls_facts b).2.2.1
    rw [span_cons]
    by_cases h1 : isD b = true
    · refine Ev.pos (hD.2 h1) ((ih (p + 1) hd).cast ?_)
      rw [if_pos h1]; omega
    · rw [if_neg h1]
      exact Ev.neg (fun e => h1 (hD.1 e)) (Ev.ok _)

/-- The length of the token at the head of what is no blank and no comment. -/
def tokLen : List UInt8 → Nat
  | [] => 0
  | c :: r => if isL c then span isW (c :: r) else if isD c then span isD (c :: r) else symLen (c :: r)

theorem end_ev (s : ByteArray) (hs : s.size < 4611686018427387904) (p : Nat) (c : UInt8) (r : List UInt8) (h : s.data.toList.drop p = c :: r) (hB : isB c = false) (h35 : c ≠ 35) :
    Ev (fun k => worldmintref07_end.f k s p) ((p + tokLen (c :: r) : Nat) : Int) := by
  obtain ⟨hp, hb, hd, hl⟩ := bt_drop h
  have w := wrap_succ p (by omega)
  obtain ⟨f0, f1, f2, f3, f4, f5, f6, f7⟩ := cls_facts c
  simp only [worldmintref07_end.f, hb, w]
  refine Ev.pos (by omega) (Ev.pos (by omega) (Ev.bind (class_ev c) ?_))
  have et : tokLen (c :: r) = if isL c then span isW (c :: r) else if isD c then span isD (c :: r) else symLen (c :: r) := rfl
  rw [et]
  by_cases hL : isL c = true
  · rw [if_pos hL, span_cons, if_pos (f6 hL)]
    refine Ev.pos (f1.2 hL) ((end_l0_ev s hs r (p + 1) hd).cast (by omega))
  · rw [if_neg hL]
    refine Ev.neg (fun e => hL (f1.1 e)) ?_
    by_cases hD : isD c = true
    · rw [if_pos hD, span_cons, if_pos hD]
      refine Ev.pos (f2.2 hD) ((end_l1_ev s hs r (p + 1) hd).cast (by omega))
    · rw [if_neg hD]
      refine Ev.neg (fun e => hD (f2.1 e)) ?_
      obtain ⟨g4, g6⟩ := f4 hB (by simpa using hL) (by simpa using hD) h35
      have e : symLen (c :: r) = if c = 45 ∧ r.head? = some 62 then 2 else if single c then 1 else 0 := rfl
      rw [e]
      by_cases h45 : c = 45
      · have hs45 : single c = false := f7 h45
        refine Ev.neg (fun e => by rw [g4] at e; rw [e] at hs45; cases hs45) (Ev.pos (g6.2 h45) ?_)
        rw [hs45]
        clear f0 f1 f2 f3 f4 f5 f6 f7 g4 g6 e
        cases r with
        | nil =>
          have := drop_nil hd
          refine Ev.neg (by omega) ((Ev.ok _).cast (by simp))
        | cons d r2 =>
          obtain ⟨hp2, hb2, hd2, _⟩ := bt_drop hd
          clear w hb
          have q1 : ((p + 1 : Nat) : Int) < (s.size : Int) := by omega
          have q2 : (0 : Int) ≤ ((p + 1 : Nat) : Int) := by omega
          have w2 := wrap_succ (p + 1) (by omega)
          refine Ev.pos q1 (Ev.pos q2 ?_)
          rw [hb2]
          by_cases h62 : d = 62
          · refine Ev.pos (by rw [h62]; rfl) ((Ev.ok _).cast ?_)
            rw [if_pos ⟨h45, by rw [h62]; rfl⟩, w2]
          · refine Ev.neg (fun e => h62 ((byte_eq d 62 (by decide)).1 e)) ((Ev.ok _).cast ?_)
            rw [if_neg (fun h => h62 (Option.some.inj h.2))]
            simp
      · have e9 : (if c = 45 ∧ r.head? = some 62 then 2 else if single c then 1 else 0) = if single c then 1 else 0 := if_neg (fun h => h45 h.1)
        rw [e9]
        by_cases hs1 : single c = true
        · rw [if_pos hs1]
          exact Ev.pos (g4.2 hs1) (Ev.ok _)
        · rw [if_neg hs1]
          exact Ev.neg (fun e => hs1 (g4.1 e)) (Ev.neg (fun e => h45 (g6.1 e)) (Ev.ok _))

/-! The value of digits. -/
def valOf (acc : Int) : List UInt8 → Int
  | [] => acc
  | c :: r => valOf (mn (10 * acc + ((c.toNat : Int) - 48)) 1099511627777) r

theorem value_ev (s : ByteArray) (hs : s.size < 4611686018427387904) : ∀ (l : List UInt8) (p : Nat) (acc : Int), s.data.toList.drop p = l → (∀ c ∈ l, isD c = true) → 0 ≤ acc → acc ≤ 1099511627777 →
    Ev (fun k => worldmintref07_value.l0 k s acc p) (valOf acc l) := by
  intro l
  induction l with
  | nil =>
    intro p acc h _ _ _
    have := drop_nil h
    refine Ev.up ?_
    simp only [worldmintref07_value.l0]
    exact Ev.neg (by omega) (Ev.ok _)
  | cons b r ih =>
    intro p acc h hD h0 h1
    obtain ⟨hp, hb, hd, hl⟩ := bt_drop h
    have w := wrap_succ p (by omega)
    refine Ev.up ?_
    simp only [worldmintref07_value.l0, hb, w]
    refine Ev.pos (by omega) (Ev.pos (by omega) ?_)
    have hbD : isD b = true := hD b (by simp)
    have hb2 : 48 ≤ b.toNat ∧ b.toNat ≤ 57 := by
      unfold isD at hbD
      simp only [Bool.and_eq_true, decide_eq_true_eq, UInt8.le_iff_toNat_le] at hbD
      exact hbD
    have e1 : ((b.toNat : Int) - 48) % 256 = (b.toNat : Int) - 48 := by omega
    have e2 : wrap64 (10 * acc) = 10 * acc := wrap_id (by omega) (by omega)
    have e3 : wrap64 (10 * acc + ((b.toNat : Int) - 48)) = 10 * acc + ((b.toNat : Int) - 48) := wrap_id (by omega) (by omega)
    rw [e1, e2, e3]
    refine ih (p + 1) _ hd (fun c hc => hD c (by simp [hc])) ?_ ?_
    · unfold mn; split <;> omega
    · unfold mn; split <;> omega

theorem valOf_cap : ∀ (l : List UInt8), (∀ c ∈ l, isD c = true) → valOf 1099511627777 l = 1099511627777 := by
  intro l
  induction l with
  | nil => intro _; rfl
  | cons b r ih =>
    intro hD
    have hbD : isD b = true := hD b (by simp)
    have hb2 : 48 ≤ b.toNat ∧ b.toNat ≤ 57 := by
      unfold isD at hbD
      simp only [Bool.and_eq_true, decide_eq_true_eq, UInt8.le_iff_toNat_le] at hbD
      exact hbD
    simp only [valOf]
    have : mn (10 * 1099511627777 + ((b.toNat : Int) - 48)) 1099511627777 = 1099511627777 := by unfold mn; split <;> omega
    rw [this]
    exact ih (fun c hc => hD c (by simp [hc]))

theorem valOf_parse : ∀ (l : List UInt8) (acc : Nat) (a : Int), (∀ c ∈ l, isD c = true) → a = mn acc 1099511627777 →
    (∃ u, Lib.parseUint10 acc l = .ok u ∧ valOf a l = mn u 1099511627777) ∨ (Lib.parseUint10 acc l = .range ∧ valOf a l = 1099511627777) := by
  intro l
  induction l with
  | nil => intro acc a _ ha; exact .inl ⟨acc, rfl, ha⟩
  | cons b r ih =>
    intro acc a hD ha
    have hbD : isD b = true := hD b (by simp)
    have hb2 : 48 ≤ b.toNat ∧ b.toNat ≤ 57 := by
      unfold isD at hbD
      simp only [Bool.and_eq_true, decide_eq_true_eq, UInt8.le_iff_toNat_le] at hbD
      exact hbD
    have hr : ∀ c ∈ r, isD c = true := fun c hc => hD c (by simp [hc])
    simp only [Lib.parseUint10, valOf, if_pos hb2]
    have big : 1844674407370955161 ≤ acc → valOf (mn (10 * a + ((b.toNat : Int) - 48)) 1099511627777) r = 1099511627777 := by
      intro h
      have : mn (10 * a + ((b.toNat : Int) - 48)) 1099511627777 = 1099511627777 := by
        subst ha
        unfold mn
        split <;> split <;> omega
      rw [this]
      exact valOf_cap r hr
    by_cases h1 : 1844674407370955162 ≤ acc
    · rw [if_pos h1]
      exact .inr ⟨rfl, big (by omega)⟩
    · rw [if_neg h1]
      by_cases h2 : 18446744073709551616 ≤ acc * 10 + (b.toNat - 48)
      · rw [if_pos h2]
        exact .inr ⟨rfl, big (by omega)⟩
      · rw [if_neg h2]
        refine ih _ _ hr ?_
        subst ha
        unfold mn
        split <;> split <;> (try split) <;> omega

/-! The pieces. -/
def its (r : List UInt8) (p : Nat) : List Tk := items r.length r p
theorem its_skip1 {c : UInt8} {r : List UInt8} {n : Nat} (p : Nat) (h : Lex.step (c :: r) = .skip n) : its (c :: r) p = its ((c :: r).drop n) (p + n) := by
  have hl := skip_pos h
  have e : its (c :: r) p = items r.length ((c :: r).drop n) (p + n) := by
    show items (r.length + 1) (c :: r) p = _
    simp only [items, h, reduceCtorEq, if_false]
  rw [e]
  exact items_fuel _ _ _ _ (by simp; omega) (Nat.le_refl _)
theorem its_tok1 {c : UInt8} {r : List UInt8} {n : Nat} {kd : Int} (p : Nat) (h : Lex.step (c :: r) = .tok kd n) :
    its (c :: r) p = ⟨kd, (c :: r).take n, p⟩ :: (if n = 0 then [] else its ((c :: r).drop n) (p + n)) := by
  have e : its (c :: r) p = ⟨kd, (c :: r).take n, p⟩ :: (if n = 0 then [] else items r.length ((c :: r).drop n) (p + n)) := by
    show items (r.length + 1) (c :: r) p = _
    simp only [items, h, reduceCtorEq, if_false]
  rw [e]
  by_cases h0 : n = 0
  · rw [if_pos h0, if_pos h0]
  · rw [if_neg h0, if_neg h0]
    rw [items_fuel r.length ((c :: r).drop n).length _ _ (by simp; omega) (Nat.le_refl _)]
    rfl
theorem its_blank {c : UInt8} (r : List UInt8) (p : Nat) (h : isB c = true) : its (c :: r) p = its r (p + 1) := by
  have h1 : Lex.step (c :: r) = .skip (1 + span isB r) := by rw [step_cons, if_pos h, span_cons, if_pos h]
  rw [its_skip1 p h1]
  have e : (c :: r).drop (1 + span isB r) = r.drop (span isB r) := by rw [Nat.add_comm]; rfl
  rw [e]
  cases r with
  | nil => rfl
  | cons d r2 =>
    by_cases hd : isB d = true
    · have h2 : Lex.step (d :: r2) = .skip (span isB (d :: r2)) := by rw [step_cons, if_pos hd]
      rw [its_skip1 (p + 1) h2, Nat.add_assoc]
    · have h0 : span isB (d :: r2) = 0 := by rw [span_cons, if_neg hd]
      rw [h0]
      rfl
theorem its_hash (r : List UInt8) (p : Nat) : its (35 :: r) p = its (r.drop (span (· != 10) r)) (p + 1 + span (· != 10) r) := by
  have h1 : Lex.step (35 :: r) = .skip (1 + span (· != 10) r) := by
    rw [step_cons, if_neg (by decide), if_pos rfl, span_cons, if_pos (by decide)]
  rw [its_skip1 p h1]
  have e : ((35 : UInt8) :: r).drop (1 + span (· != 10) r) = r.drop (span (· != 10) r) := by rw [Nat.add_comm]; rfl
  rw [e, Nat.add_assoc]
theorem skipN_true (r : List UInt8) : skipN true r = span (· != 10) r + skipN false (r.drop (span (· != 10) r)) := by
  induction r with
  | nil => rfl
  | cons b r ih =>
    rw [span_cons]
    by_cases h : b = 10
    · subst h
      rw [if_neg (by decide)]
      simp [skipN]
    · rw [if_pos (by simpa using h)]
      have e : (b :: r).drop (1 + span (· != 10) r) = r.drop (span (· != 10) r) := by rw [Nat.add_comm]; rfl
      rw [e]
      simp only [skipN, if_neg h, Bool.true_or, if_true, ih]
      omega
theorem drop_1 (b : UInt8) (r : List UInt8) (n : Nat) : (b :: r).drop (1 + n) = r.drop n := by rw [Nat.add_comm]; rfl
theorem its_skipN : ∀ (n : Nat) (r : List UInt8) (p : Nat), r.length ≤ n → its r p = its (r.drop (skipN false r)) (p + skipN false r) := by
  intro n
  induction n with
  | zero =>
    intro r p h
    have : r = [] := List.length_eq_zero_iff.1 (by omega)
    subst this; rfl
  | succ n ih =>
    intro r p h
    cases r with
    | nil => rfl
    | cons b r =>
      simp only [List.length_cons] at h
      by_cases h10 : b = 10
      · have e : skipN false (b :: r) = 1 + skipN false r := by simp only [skipN, if_pos h10]
        rw [e, drop_1, its_blank r p (by subst h10; decide), ih r (p + 1) (by omega), Nat.add_assoc]
      · by_cases h35 : b = 35
        · subst h35
          have e : skipN false (35 :: r) = 1 + (span (· != 10) r + skipN false (r.drop (span (· != 10) r))) := by
            rw [← skipN_true]; rfl
          rw [e, drop_1, its_hash, ih (r.drop (span (· != 10) r)) _ (by rw [List.length_drop]; omega), List.drop_drop]
          congr 1
          omega
        · have h35' : (b == (35 : UInt8)) = false := by simpa using h35
          by_cases hB : isB b = true
          · have e : skipN false (b :: r) = 1 + skipN false r := by simp only [skipN, if_neg h10, h35', Bool.or_false, Bool.false_eq_true, if_false, hB, if_true]
            rw [e, drop_1, its_blank r p hB, ih r (p + 1) (by omega), Nat.add_assoc]
          · have e : skipN false (b :: r) = 0 := by simp only [skipN, if_neg h10, h35', Bool.or_false, Bool.false_eq_true, if_false, hB]
            rw [e]; rfl
theorem skipN_head : ∀ (r : List UInt8) (c : Bool) (b : UInt8) (r' : List UInt8), r.drop (skipN c r) = b :: r' → isB b = false ∧ b ≠ 35 := by
  intro r
  induction r with
  | nil => intro c b r' h; simp [skipN] at h
  | cons d r ih =>
    intro c b r' h
    simp only [skipN] at h
    split at h
    · rw [drop_1] at h; exact ih _ _ _ h
    · split at h
      · rw [drop_1] at h; exact ih _ _ _ h
      · split at h
        · rw [drop_1] at h; exact ih _ _ _ h
        · rename_i h1 h2 h3
          simp only [List.drop_zero, List.cons.injEq] at h
          obtain ⟨rfl, _⟩ := h
          refine ⟨by simpa using h3, ?_⟩
          simp at h2
          exact h2.2
theorem skipN_le : ∀ (r : List UInt8) (c : Bool), skipN c r ≤ r.length := by
  intro r
  induction r with
  | nil => intro c; simp [skipN]
  | cons d r ih =>
    intro c
    have h1 := ih true
    have h2 := ih false
    simp only [skipN, List.length_cons]
    split
    · omega
    · split
      · omega
      · split <;> omega
end Go.Proofs.YtoogbggeghlkkaaDoor.X
