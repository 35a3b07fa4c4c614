/- What the lexer computes, in plain Lean. -/
import Derived.Lib.AtoiAll
namespace Go.Proofs.YtmahdomlmidfdaaDoor.Lex

def isL (c : UInt8) : Bool := 97 ≤ c && c ≤ 122
def isD (c : UInt8) : Bool := 48 ≤ c && c ≤ 57
def isB (c : UInt8) : Bool := c == 32 || c == 9 || c == 10
def isW (c : UInt8) : Bool := isL c || isD c || c == 95
def single (c : UInt8) : Bool := [58, 59, 44, 40, 41, 123, 125, 61, 60, 62, 43, 46].contains c
def symLen : List UInt8 → Nat
  | [] => 0
  | c :: r => if c = 45 ∧ r.head? = some 62 then 2 else if single c then 1 else 0
def span (p : UInt8 → Bool) (r : List UInt8) : Nat := (r.takeWhile p).length

inductive Step where
  | skip (n : Nat)
  | tok (kind : Int) (n : Nat)

def step : List UInt8 → Step
  | [] => .skip 0
  | c :: r => if isB c then .skip (span isB (c :: r)) else if c = 35 then .skip (span (· != 10) (c :: r)) else if isL c then .tok 0 (span isW (c :: r)) else if isD c then .tok 1 (span isD (c :: r)) else .tok 2 (symLen (c :: r))

structure Tk where
  kind : Int
  text : List UInt8
  at_ : Nat

/-- What the iterator yields from place p on; an empty piece ends it. -/
def items : Nat → List UInt8 → Nat → List Tk
  | 0, _, _ => []
  | k + 1, r, p => if r = [] then [] else match step r with
    | .skip n => items k (r.drop n) (p + n)
    | .tok kd n => ⟨kd, r.take n, p⟩ :: (if n = 0 then [] else items k (r.drop n) (p + n))

/-- A token: kind, text, value, place. -/
structure Tok where
  kind : Int
  text : List UInt8
  n : Int
  at_ : Nat

/-- What the loop's body does with a piece: an error, or a token. -/
def eat (x : Tk) : Int ⊕ Tok :=
  if x.text = [] then .inl 2
  else if x.kind = 0 ∧ 16 < x.text.length then .inl 4
  else if x.kind = 1 then match Lib.atoiAll x.text with
    | .ok v => if v > 1099511627776 then .inl 4 else .inr ⟨x.kind, x.text, v, x.at_⟩
    | _ => .inl 4
  else .inr ⟨x.kind, x.text, 0, x.at_⟩

def run : List Tk → List Tok → List Tok × Int × Int
  | [], out => (out, 0, 0)
  | x :: xs, out => match eat x with
    | .inl e => ([], x.at_, e)
    | .inr t => run xs (out ++ [t])

def tokens (s : List UInt8) : List Tok × Int × Int :=
  if 8192 < s.length then ([], 0, 4) else run (items s.length s 0) []

theorem span_le (p : UInt8 → Bool) (r : List UInt8) : span p r ≤ r.length := by
  unfold span
  exact (List.takeWhile_sublist p).length_le
theorem symLen_le (r : List UInt8) : symLen r ≤ r.length := by
  unfold symLen
  split
  · exact Nat.zero_le _
  · rename_i c r
    split
    · rename_i h
      cases r with
      | nil => simp at h
      | cons d r => simp
    · split <;> simp
theorem span_pos {p : UInt8 → Bool} {c : UInt8} {r : List UInt8} (h : p c = true) : 1 ≤ span p (c :: r) := by
  unfold span
  simp [h]

theorem isW_of_isL {c : UInt8} (h : isL c = true) : isW c = true := by unfold isW; rw [h]; rfl

theorem step_cons (c : UInt8) (r : List UInt8) : step (c :: r) = if isB c then .skip (span isB (c :: r)) else if c = 35 then .skip (span (· != 10) (c :: r)) else if isL c then .tok 0 (span isW (c :: r)) else if isD c then .tok 1 (span isD (c :: r)) else .tok 2 (symLen (c :: r)) := rfl

theorem step_le (r : List UInt8) : (∀ n, step r = .skip n → n ≤ r.length) ∧ (∀ kd n, step r = .tok kd n → n ≤ r.length) := by
  cases r with
  | nil => exact ⟨fun n h => by cases h; simp, fun kd n h => by cases h⟩
  | cons c r =>
    rw [step_cons]
    have h1 := span_le isB (c :: r)
    have h2 := span_le (· != 10) (c :: r)
    have h3 := span_le isW (c :: r)
    have h4 := span_le isD (c :: r)
    have h5 := symLen_le (c :: r)
    refine ⟨fun n h => ?_, fun kd n h => ?_⟩
    · split at h
      · cases h; exact h1
      · split at h
        · cases h; exact h2
        · split at h
          · cases h
          · split at h <;> cases h
    · split at h
      · cases h
      · split at h
        · cases h
        · split at h
          · cases h; exact h3
          · split at h
            · cases h; exact h4
            · cases h; exact h5

theorem skip_pos {c : UInt8} {r : List UInt8} {n : Nat} (h : step (c :: r) = .skip n) : 1 ≤ n := by
  rw [step_cons] at h
  split at h
  · cases h; exact span_pos (by assumption)
  · split at h
    · rename_i h2; cases h; exact span_pos (by subst h2; decide)
    · split at h
      · cases h
      · split at h <;> cases h

/-- More fuel than bytes changes nothing. -/
theorem items_fuel : ∀ (k k' : Nat) (r : List UInt8) (p : Nat), r.length ≤ k → r.length ≤ k' → items k r p = items k' r p := by
  intro k
  induction k with
  | zero =>
    intro k' r p h _
    have : r = [] := List.length_eq_zero_iff.1 (by omega)
    subst this
    cases k' with
    | zero => rfl
    | succ k' => simp [items]
  | succ k ih =>
    intro k' r p h h'
    cases r with
    | nil =>
      cases k' with
      | zero => simp [items]
      | succ k' => simp [items]
    | cons c r =>
      cases k' with
      | zero => simp at h'
      | succ k' =>
        have hl := step_le (c :: r)
        simp only [items]
        cases hs : step (c :: r) with
        | skip n =>
          have h1 := skip_pos hs
          have h2 : ((c :: r).drop n).length ≤ r.length := by simp; omega
          simp only [List.length_cons] at h h'
          simp only [reduceCtorEq, if_false]
          exact ih k' _ _ (by omega) (by omega)
        | tok kd n =>
          simp only [reduceCtorEq, if_false]
          by_cases h0 : n = 0
          · simp [h0]
          · have h2 : ((c :: r).drop n).length ≤ r.length := by simp; omega
            simp only [List.length_cons] at h h'
            rw [if_neg h0, if_neg h0, ih k' _ _ (by omega) (by omega)]

theorem items_skip (l : List UInt8) (p m : Nat) (hp : p < l.length) (hs : step (l.drop p) = .skip m) (h1 : 1 ≤ m) (hle : p + m ≤ l.length) :
    items (l.length - p) (l.drop p) p = items (l.length - (p + m)) (l.drop (p + m)) (p + m) := by
  obtain ⟨k, hk⟩ : ∃ k, l.length - p = k + 1 := ⟨l.length - p - 1, by omega⟩
  rw [hk]
  have hne : l.drop p ≠ [] := by
    intro h
    have := congrArg List.length h
    simp at this
    omega
  simp only [items, if_neg hne, hs, List.drop_drop]
  exact items_fuel _ _ _ _ (by rw [List.length_drop]; omega) (by rw [List.length_drop]; omega)

theorem items_tok (l : List UInt8) (p m : Nat) (kd : Int) (hp : p < l.length) (hs : step (l.drop p) = .tok kd m) (hle : p + m ≤ l.length) :
    items (l.length - p) (l.drop p) p = ⟨kd, (l.drop p).take m, p⟩ :: (if m = 0 then [] else items (l.length - (p + m)) (l.drop (p + m)) (p + m)) := by
  obtain ⟨k, hk⟩ : ∃ k, l.length - p = k + 1 := ⟨l.length - p - 1, by omega⟩
  rw [hk]
  have hne : l.drop p ≠ [] := by
    intro h
    have := congrArg List.length h
    simp at this
    omega
  simp only [items, if_neg hne, hs, List.drop_drop]
  by_cases h0 : m = 0
  · rw [if_pos h0, if_pos h0]
  · rw [if_neg h0, if_neg h0]
    rw [items_fuel k (l.length - (p + m)) _ _ (by rw [List.length_drop]; omega) (by rw [List.length_drop]; omega)]

theorem items_end (k : Nat) (p : Nat) : items k [] p = [] := by
  cases k with
  | zero => rfl
  | succ k => simp [items]

/-- The length of the first piece of a list that begins r. -/
def symFind : List (List UInt8) → List UInt8 → Nat
  | [], _ => 0
  | p :: ps, r => if p.isPrefixOf r then p.length else symFind ps r
def syms : List (List UInt8) := [[45, 62], [58], [59], [44], [40], [41], [123], [125], [61], [60], [62], [43], [46]]
theorem symFind_single (cs : List UInt8) (c : UInt8) (r : List UInt8) : symFind (cs.map fun x => [x]) (c :: r) = if cs.contains c then 1 else 0 := by
  induction cs with
  | nil => rfl
  | cons x cs ih =>
    simp only [List.map_cons, symFind]
    by_cases h : x = c
    · subst h; simp
    · have h1 : ([x] : List UInt8).isPrefixOf (c :: r) = false := by simp [List.isPrefixOf, h]
      have h2 : (c == x) = false := by simpa using fun e : c = x => h e.symm
      rw [h1, ih, List.contains_cons, h2]
      simp
theorem symFind_syms (c : UInt8) (r : List UInt8) : symFind syms (c :: r) = symLen (c :: r) := by
  have e : syms = [45, 62] :: (([58, 59, 44, 40, 41, 123, 125, 61, 60, 62, 43, 46] : List UInt8).map fun x => [x]) := rfl
  rw [e, symFind, symFind_single]
  have e2 : symLen (c :: r) = if c = 45 ∧ r.head? = some 62 then 2 else if single c then 1 else 0 := rfl
  rw [e2]
  unfold single
  have h1 : ([45, 62] : List UInt8).isPrefixOf (c :: r) = true ↔ (c = 45 ∧ r.head? = some 62) := by
    cases r with
    | nil => simp [List.isPrefixOf]
    | cons d r =>
      simp only [List.isPrefixOf, Bool.and_true, Bool.and_eq_true, beq_iff_eq, List.head?_cons, Option.some.injEq]
      exact ⟨fun h => ⟨h.1.symm, h.2.symm⟩, fun h => ⟨h.1.symm, h.2.symm⟩⟩
  by_cases h : c = 45 ∧ r.head? = some 62
  · rw [if_pos (h1.2 h), if_pos h]; rfl
  · rw [if_neg (fun h2 => h (h1.1 h2)), if_neg h]

theorem syms_drop (k : Nat) (h : k < 13) (r : List UInt8) : symFind (syms.drop k) r = if (syms.getD k []).isPrefixOf r then (syms.getD k []).length else symFind (syms.drop (k + 1)) r := by
  rcases k with _|_|_|_|_|_|_|_|_|_|_|_|_|k <;> first | rfl | omega

theorem tok_step (l : List UInt8) (pre full : List Tk) (n p m : Nat) (kd : Int) (hn : l.length = n) (hp : p < n) (hf : full = pre ++ items (n - p) (l.drop p) p) (hs : step (l.drop p) = .tok kd m) (hle : p + m ≤ n) :
    full = (pre ++ [⟨kd, (l.drop p).take m, p⟩]) ++ (if m = 0 then [] else items (n - (p + m)) (l.drop (p + m)) (p + m)) := by
  subst hn
  rw [hf, items_tok l p m kd hp hs hle, List.append_assoc, List.singleton_append]

theorem run_append (xs ys : List Tk) (out : List Tok) (h : ∀ x ∈ xs, ∃ t, eat x = .inr t) :
    ∃ out', run (xs ++ ys) out = run ys out' ∧ run xs out = (out', 0, 0) ∧ out'.length = out.length + xs.length := by
  induction xs generalizing out with
  | nil => exact ⟨out, rfl, rfl, rfl⟩
  | cons x xs ih =>
    obtain ⟨t, ht⟩ := h x (by simp)
    obtain ⟨out', h1, h2, h3⟩ := ih (out ++ [t]) (fun y hy => h y (by simp [hy]))
    refine ⟨out', ?_, ?_, ?_⟩
    · simp only [List.cons_append, run, ht]; exact h1
    · simp only [run, ht]; exact h2
    · rw [h3]; simp; omega
end Go.Proofs.YtmahdomlmidfdaaDoor.Lex
