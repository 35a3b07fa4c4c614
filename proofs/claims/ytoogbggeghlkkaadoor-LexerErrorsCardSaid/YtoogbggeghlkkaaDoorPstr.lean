/- How texts of pieces fall into tokens: pieces in a row, texts cut, offsets. -/
import Derived.Test.YtoogbggeghlkkaaDoorPgen
namespace Go.Proofs.YtoogbggeghlkkaaDoor.X
open Go.RowKit Go.Proofs.YtoogbggeghlkkaaDoorW.PrintWords Go.Proofs.YtoogbggeghlkkaaDoorW.PrintLast Go.Proofs.YtoogbggeghlkkaaDoorW.PrintMore
open Lex

def kindOf : List UInt8 → Int
  | [] => 2
  | c :: _ => if isL c then 0 else if isD c then 1 else 2

/-- The pieces from p on, c: in a comment. -/
def itsC (c : Bool) (r : List UInt8) (p : Nat) : List Tk := its (r.drop (skipN c r)) (p + skipN c r)
theorem itsC_false (r : List UInt8) (p : Nat) : itsC false r p = its r p := (its_skipN _ r p (Nat.le_refl _)).symm
theorem its_nil (p : Nat) : its [] p = [] := rfl

/-- One token at the head. -/
theorem its_head (c : UInt8) (r : List UInt8) (p : Nat) (hB : isB c = false) (h35 : c ≠ 35) :
    its (c :: r) p = ⟨kindOf (c :: r), (c :: r).take (tokLen (c :: r)), p⟩ :: (if tokLen (c :: r) = 0 then [] else its ((c :: r).drop (tokLen (c :: r))) (p + tokLen (c :: r))) := by
  have hs : Lex.step (c :: r) = .tok (kindOf (c :: r)) (tokLen (c :: r)) := by
    rw [step_cons, if_neg (by rw [hB]; decide), if_neg h35]
    show _ = Step.tok (if isL c then 0 else if isD c then 1 else 2) (if isL c then span isW (c :: r) else if isD c then span isD (c :: r) else symLen (c :: r))
    by_cases h1 : isL c = true
    · rw [if_pos h1, if_pos h1, if_pos h1]
    · by_cases h2 : isD c = true
      · rw [if_neg h1, if_pos h2, if_neg h1, if_pos h2, if_neg h1, if_pos h2]
      · rw [if_neg h1, if_neg h2, if_neg h1, if_neg h2, if_neg h1, if_neg h2]
  exact its_tok1 p hs

/-- In one step: nothing, or a token. -/
theorem itsC_cases (c : Bool) (r : List UInt8) (p : Nat) :
    (skipN c r = r.length ∧ itsC c r p = []) ∨
    (∃ d y, r.drop (skipN c r) = d :: y ∧ isB d = false ∧ d ≠ 35 ∧ itsC c r p = ⟨kindOf (d :: y), (d :: y).take (tokLen (d :: y)), p + skipN c r⟩ :: (if tokLen (d :: y) = 0 then [] else its ((d :: y).drop (tokLen (d :: y))) (p + skipN c r + tokLen (d :: y)))) := by
  cases h : r.drop (skipN c r) with
  | nil =>
    left
    have := List.drop_eq_nil_iff.1 h
    have h2 := skipN_le r c
    exact ⟨by omega, by unfold itsC; rw [h]; rfl⟩
  | cons d y =>
    right
    obtain ⟨h1, h2⟩ := skipN_head r c d y h
    exact ⟨d, y, rfl, h1, h2, by unfold itsC; rw [h]; exact its_head d y _ h1 h2⟩

theorem tokLen_le (r : List UInt8) : tokLen r ≤ r.length := by
  cases r with
  | nil => simp [tokLen]
  | cons c r =>
    have e : tokLen (c :: r) = if isL c then span isW (c :: r) else if isD c then span isD (c :: r) else symLen (c :: r) := rfl
    rw [e]
    split
    · exact span_le _ _
    · split
      · exact span_le _ _
      · exact symLen_le _

/-! Texts cut. -/
theorem skipN_take : ∀ (r : List UInt8) (c : Bool) (j : Nat), skipN c (r.take j) = min (skipN c r) j := by
  intro r
  induction r with
  | nil => intro c j; simp [skipN]
  | cons b r ih =>
    intro c j
    cases j with
    | zero => simp [skipN]
    | succ j =>
      rw [List.take_succ_cons]
      simp only [skipN]
      split
      · rw [ih]; omega
      · split
        · rw [ih]; omega
        · split
          · rw [ih]; omega
          · omega
theorem span_take (f : UInt8 → Bool) : ∀ (r : List UInt8) (j : Nat), span f (r.take j) = min (span f r) j := by
  intro r
  induction r with
  | nil => intro j; simp [span]
  | cons b r ih =>
    intro j
    cases j with
    | zero => simp [span]
    | succ j =>
      rw [List.take_succ_cons, span_cons, span_cons, ih]
      split <;> omega
theorem tokLen_take (r : List UInt8) (j : Nat) (h1 : 1 ≤ j) (h : tokLen r ≤ j) : tokLen (r.take j) = tokLen r := by
  cases r with
  | nil => simp
  | cons c r =>
    obtain ⟨j, rfl⟩ : ∃ i, j = i + 1 := ⟨j - 1, by omega⟩
    rw [List.take_succ_cons]
    have e : ∀ r, tokLen (c :: r) = if isL c then span isW (c :: r) else if isD c then span isD (c :: r) else symLen (c :: r) := fun _ => rfl
    rw [e] at h ⊢
    rw [e]
    have et : c :: r.take j = (c :: r).take (j + 1) := (List.take_succ_cons).symm
    by_cases hL : isL c = true
    · rw [if_pos hL] at h ⊢
      rw [if_pos hL, et, span_take]
      omega
    · rw [if_neg hL] at h ⊢
      rw [if_neg hL]
      by_cases hD : isD c = true
      · rw [if_pos hD] at h ⊢
        rw [if_pos hD, et, span_take]
        omega
      · rw [if_neg hD] at h ⊢
        rw [if_neg hD]
        have es : ∀ r : List UInt8, symLen (c :: r) = if c = 45 ∧ r.head? = some 62 then 2 else if single c then 1 else 0 := fun _ => rfl
        rw [es] at h ⊢
        rw [es]
        have hh : 2 ≤ j + 1 → (r.take j).head? = r.head? := by
          intro hj
          obtain ⟨i, rfl⟩ : ∃ i, j = i + 1 := ⟨j - 1, by omega⟩
          cases r with
          | nil => rfl
          | cons d r => rfl
        by_cases h45 : c = 45 ∧ r.head? = some 62
        · rw [if_pos h45] at h ⊢
          rw [if_pos ⟨h45.1, by rw [hh h]; exact h45.2⟩]
        · rw [if_neg h45]
          have : ¬ (c = 45 ∧ (r.take j).head? = some 62) := by
            rintro ⟨g1, g2⟩
            refine h45 ⟨g1, ?_⟩
            cases j with
            | zero => simp at g2
            | succ j => rw [← hh (by omega)]; exact g2
          rw [if_neg this]
theorem kindOf_take (r : List UInt8) (j : Nat) (h1 : 1 ≤ j) (hr : r ≠ []) : kindOf (r.take j) = kindOf r := by
  cases r with
  | nil => exact absurd rfl hr
  | cons c r =>
    obtain ⟨j, rfl⟩ : ∃ i, j = i + 1 := ⟨j - 1, by omega⟩
    rfl

/-! Offsets. -/
def shiftTk (q : Nat) (t : Tk) : Tk := ⟨t.kind, t.text, t.at_ + q⟩
theorem items_shift (q : Nat) : ∀ (k : Nat) (r : List UInt8) (p : Nat), items k r (p + q) = (items k r p).map (shiftTk q) := by
  intro k
  induction k with
  | zero => intro r p; rfl
  | succ k ih =>
    intro r p
    simp only [items]
    split
    · rfl
    · split
      · rename_i n _
        have : p + q + n = p + n + q := by omega
        rw [this, ih]
      · rename_i kd n _
        rw [List.map_cons]
        congr 1
        split
        · rfl
        · have : p + q + n = p + n + q := by omega
          rw [this, ih]
theorem its_shift (q : Nat) (r : List UInt8) (p : Nat) : its r (p + q) = (its r p).map (shiftTk q) := items_shift q _ r p

/-- Equal but for the offset. -/
def eqTok (a b : Tok) : Prop := a.kind = b.kind ∧ a.text = b.text ∧ a.n = b.n
theorem eat_shift (q : Nat) (x : Tk) : (∀ e, eat x = .inl e → eat (shiftTk q x) = .inl e) ∧ (∀ t, eat x = .inr t → eat (shiftTk q x) = .inr ⟨t.kind, t.text, t.n, x.at_ + q⟩) := by
  unfold eat shiftTk
  simp only
  by_cases h1 : x.text = []
  · rw [if_pos h1, if_pos h1]
    exact ⟨fun e h => h, fun t h => by cases h⟩
  · rw [if_neg h1, if_neg h1]
    by_cases h2 : x.kind = 0 ∧ 16 < x.text.length
    · rw [if_pos h2, if_pos h2]
      exact ⟨fun e h => h, fun t h => by cases h⟩
    · rw [if_neg h2, if_neg h2]
      by_cases h3 : x.kind = 1
      · rw [if_pos h3, if_pos h3]
        cases Lib.atoiAll x.text with
        | ok v =>
          simp only
          by_cases h4 : v > 1099511627776
          · rw [if_pos h4, if_pos h4]
            exact ⟨fun e h => h, fun t h => by cases h⟩
          · rw [if_neg h4, if_neg h4]
            exact ⟨fun e h => (by cases h), fun t h => (by cases h; rfl)⟩
        | range => exact ⟨fun e h => h, fun t h => by cases h⟩
        | _ => exact ⟨fun e h => h, fun t h => by cases h⟩
      · rw [if_neg h3, if_neg h3]
        exact ⟨fun e h => (by cases h), fun t h => (by cases h; rfl)⟩
theorem eat_at {x : Tk} {t : Tok} (h : eat x = .inr t) : t.kind = x.kind ∧ t.text = x.text ∧ t.at_ = x.at_ ∧ x.text ≠ [] := by
  unfold eat at h
  by_cases h1 : x.text = []
  · rw [if_pos h1] at h; cases h
  · rw [if_neg h1] at h
    by_cases h2 : x.kind = 0 ∧ 16 < x.text.length
    · rw [if_pos h2] at h; cases h
    · rw [if_neg h2] at h
      by_cases h3 : x.kind = 1
      · rw [if_pos h3] at h
        cases hv : Lib.atoiAll x.text with
        | ok v =>
          rw [hv] at h
          simp only at h
          by_cases h4 : v > 1099511627776
          · rw [if_pos h4] at h; cases h
          · rw [if_neg h4] at h; cases h; exact ⟨rfl, rfl, rfl, h1⟩
        | range => rw [hv] at h; cases h
        | _ => rw [hv] at h; cases h
      · rw [if_neg h3] at h; cases h; exact ⟨rfl, rfl, rfl, h1⟩

/-- All is eaten. -/
def Eats : List Tk → List Tok → Prop
  | [], ts => ts = []
  | x :: xs, ts => ∃ t ts', eat x = .inr t ∧ Eats xs ts' ∧ ts = t :: ts'
theorem run_of_eats : ∀ (xs : List Tk) (ts out : List Tok), Eats xs ts → run xs out = (out ++ ts, 0, 0) := by
  intro xs
  induction xs with
  | nil => intro ts out h; cases h; simp [run]
  | cons x xs ih =>
    rintro ts out ⟨t, ts', h1, h2, rfl⟩
    rw [run_cons_inr h1, ih ts' _ h2]
    simp
theorem eats_of_run : ∀ (xs : List Tk) (out : List Tok), (run xs out).2.2 = 0 → ∃ ts, Eats xs ts := by
  intro xs
  induction xs with
  | nil => intro out _; exact ⟨[], rfl⟩
  | cons x xs ih =>
    intro out h
    cases he : eat x with
    | inl e =>
      rw [run_cons_inl he] at h
      exfalso
      have : e = 0 := h
      subst this
      unfold eat at he
      split at he
      · cases he
      · split at he
        · cases he
        · split at he
          · split at he
            · split at he <;> cases he
            · cases he
          · cases he
    | inr t =>
      rw [run_cons_inr he] at h
      obtain ⟨ts, hts⟩ := ih _ h
      exact ⟨t :: ts, t, ts, he, hts, rfl⟩
theorem eats_append {xs ys : List Tk} {ts us : List Tok} (h : Eats xs ts) (k : Eats ys us) : Eats (xs ++ ys) (ts ++ us) := by
  induction xs generalizing ts with
  | nil => cases h; exact k
  | cons x xs ih =>
    obtain ⟨t, ts', h1, h2, rfl⟩ := h
    exact ⟨t, ts' ++ us, h1, ih h2, rfl⟩
theorem eats_shift (q : Nat) {xs : List Tk} {ts : List Tok} (h : Eats xs ts) : Eats (xs.map (shiftTk q)) (ts.map fun t => ⟨t.kind, t.text, t.n, t.at_ + q⟩) := by
  induction xs generalizing ts with
  | nil => cases h; rfl
  | cons x xs ih =>
    obtain ⟨t, ts', h1, h2, rfl⟩ := h
    have h3 := (eat_shift q x).2 t h1
    rw [← (eat_at h1).2.2.1] at h3
    exact ⟨_, _, h3, ih h2, rfl⟩
theorem tokens_of_eats {l : List UInt8} {ts : List Tok} (hl : l.length ≤ 8192) (h : Eats (its l 0) ts) : tokens l = (ts, 0, 0) := by
  unfold tokens
  rw [if_neg (by omega)]
  exact (run_of_eats _ _ [] h).trans (by simp)
theorem tokens_skip {r : List UInt8} (hl : r.length ≤ 8192) (h : skipN false r = r.length) : tokens r = ([], 0, 0) := by
  refine tokens_of_eats hl ?_
  rw [← itsC_false]
  unfold itsC
  rw [h, List.drop_length]
  rfl

/-! Pieces in a row. -/
def endC : Bool → List UInt8 → Bool
  | c, [] => c
  | c, b :: r => if b = 10 then endC false r else if (c || b == 35) = true then endC true r else endC false r
theorem skipN_append : ∀ (x rest : List UInt8) (c : Bool), skipN c (x ++ rest) = if skipN c x = x.length then x.length + skipN (endC c x) rest else skipN c x := by
  intro x
  induction x with
  | nil => intro rest c; simp [skipN, endC]
  | cons b x ih =>
    intro rest c
    rw [List.cons_append]
    simp only [skipN, endC, List.length_cons]
    by_cases h10 : b = 10
    · simp only [if_pos h10, ih]
      split
      · rename_i h; rw [if_pos (by omega)]; omega
      · rename_i h; rw [if_neg (by omega)]
    · simp only [if_neg h10]
      by_cases hc : (c || b == 35) = true
      · simp only [if_pos hc, ih]
        split
        · rename_i h; rw [if_pos (by omega)]; omega
        · rename_i h; rw [if_neg (by omega)]
      · simp only [if_neg hc]
        by_cases hB : isB b = true
        · simp only [if_pos hB, ih]
          split
          · rename_i h; rw [if_pos (by omega)]; omega
          · rename_i h; rw [if_neg (by omega)]
        · simp only [if_neg hB]
          rw [if_neg (by omega)]
theorem tokLen_append (y rest : List UInt8) (h : tokLen y < y.length) (h2 : 2 ≤ y.length) : tokLen (y ++ rest) = tokLen y := by
  have e : (y ++ rest).take y.length = y := List.take_left
  by_cases hle : tokLen (y ++ rest) ≤ y.length
  · have := tokLen_take (y ++ rest) y.length (by omega) hle
    rw [e] at this
    exact this.symm
  · exfalso
    cases y with
    | nil => simp at h2
    | cons c y =>
      have et : ∀ r, tokLen (c :: r) = if isL c then span isW (c :: r) else if isD c then span isD (c :: r) else symLen (c :: r) := fun _ => rfl
      rw [List.cons_append, et] at hle
      rw [et] at h
      have st : ∀ f, span f ((c :: y)) = min (span f (c :: (y ++ rest))) (c :: y).length := by
        intro f
        rw [← span_take, ← List.cons_append, List.take_left]
      by_cases hL : isL c = true
      · rw [if_pos hL] at hle h
        rw [st] at h
        omega
      · rw [if_neg hL] at hle h
        by_cases hD : isD c = true
        · rw [if_pos hD] at hle h
          rw [st] at h
          omega
        · rw [if_neg hD] at hle
          have : symLen (c :: (y ++ rest)) ≤ 2 := by
            show (if c = 45 ∧ (y ++ rest).head? = some 62 then 2 else if single c then 1 else 0) ≤ 2
            split
            · omega
            · split <;> omega
          omega
def scan : Nat → Bool → List UInt8 → Nat → Option (Bool × List Tk)
  | 0, _, _, _ => none
  | n + 1, c, x, p => if skipN c x = x.length then some (endC c x, []) else
    if tokLen (x.drop (skipN c x)) < (x.drop (skipN c x)).length ∧ 2 ≤ (x.drop (skipN c x)).length ∧ tokLen (x.drop (skipN c x)) ≠ 0 then
      (scan n false ((x.drop (skipN c x)).drop (tokLen (x.drop (skipN c x)))) (p + skipN c x + tokLen (x.drop (skipN c x)))).map fun r => (r.1, ⟨kindOf (x.drop (skipN c x)), (x.drop (skipN c x)).take (tokLen (x.drop (skipN c x))), p + skipN c x⟩ :: r.2)
    else none
theorem scan_its : ∀ (n : Nat) (c : Bool) (x rest : List UInt8) (p : Nat) (c' : Bool) (ts : List Tk), scan n c x p = some (c', ts) → itsC c (x ++ rest) p = ts ++ itsC c' rest (p + x.length) := by
  intro n
  induction n with
  | zero => intro c x rest p c' ts h; cases h
  | succ n ih =>
    intro c x rest p c' ts h
    unfold scan at h
    split at h
    · rename_i hk
      cases h
      unfold itsC
      rw [skipN_append, if_pos hk, ← List.drop_drop, List.drop_left, List.nil_append, Nat.add_assoc]
    · rename_i hk
      split at h
      · rename_i hc
        obtain ⟨h1, h2, h3⟩ := hc
        rw [Option.map_eq_some_iff] at h
        obtain ⟨⟨c2, ts2⟩, hs, he⟩ := h
        simp only [Prod.mk.injEq] at he
        obtain ⟨rfl, rfl⟩ := he
        have hle := skipN_le x c
        have hkx : skipN c (x ++ rest) = skipN c x := by rw [skipN_append, if_neg hk]
        have hd : (x ++ rest).drop (skipN c x) = x.drop (skipN c x) ++ rest := List.drop_append_of_le_length hle
        obtain ⟨y, hy⟩ : ∃ y, x.drop (skipN c x) = y := ⟨_, rfl⟩
        have hyl : y.length = x.length - skipN c x := by rw [← hy, List.length_drop]
        rw [hy] at hs hd h1 h2 h3 ⊢
        have htl := tokLen_append y rest h1 h2
        have e1 : itsC c (x ++ rest) p = its (y ++ rest) (p + skipN c x) := by unfold itsC; rw [hkx, hd]
        rw [e1]
        cases y with
        | nil => simp at h2
        | cons d y =>
          have hhead := skipN_head x c d y hy
          rw [List.cons_append] at htl ⊢
          rw [its_head d (y ++ rest) _ hhead.1 hhead.2, htl, if_neg h3]
          have e2 : (d :: (y ++ rest)).take (tokLen (d :: y)) = (d :: y).take (tokLen (d :: y)) := by
            rw [← List.cons_append, List.take_append_of_le_length (by omega)]
          have e3 : (d :: (y ++ rest)).drop (tokLen (d :: y)) = (d :: y).drop (tokLen (d :: y)) ++ rest := by
            rw [← List.cons_append, List.drop_append_of_le_length (by omega)]
          have := ih false _ rest _ _ _ hs
          rw [itsC_false] at this
          rw [e2, e3, this, List.cons_append]
          congr 2
          congr 1
          rw [List.length_drop]
          omega
      · cases h
end Go.Proofs.YtoogbggeghlkkaaDoor.X
