/- What the law LexerApart computes is true for every input. -/
import Derived.Test.YtoogbggeghlkkaaDoorPcle
import Derived.Test.YtoogbggeghlkkaaDoorXx10
namespace Go.Proofs.YtoogbggeghlkkaaDoor.Pure
open Go.RowKit Go.Proofs.YtoogbggeghlkkaaDoor.X Go.Proofs.YtoogbggeghlkkaaDoorW.PrintWords
open Lex

theorem lex_eqA {s : ByteArray} {ts : List Tok} {p e : Int} (h : tokens s.data.toList = (ts, p, e)) : lexer_Tokens.f s = some (ts.map ofTok, p, e) := by
  unfold lexer_Tokens.f
  rw [h]

/-- Alike but for offsets. -/
def Alike : List S61 → List S61 → Prop
  | [], ys => ys = []
  | x :: xs, ys => ∃ y ys', ys = y :: ys' ∧ x.f0 = y.f0 ∧ x.f1 = y.f1 ∧ x.f2 = y.f2 ∧ Alike xs ys'
theorem alike_len : ∀ {xs ys : List S61}, Alike xs ys → xs.length = ys.length := by
  intro xs
  induction xs with
  | nil => intro ys h; cases h; rfl
  | cons x xs ih => rintro ys ⟨y, ys', rfl, _, _, _, h⟩; simp [ih h]
theorem alike_get : ∀ {xs ys : List S61}, Alike xs ys → ∀ (i : Nat) (x : S61), xs[i]? = some x → ∃ y : S61, ys[i]? = some y ∧ x.f0 = y.f0 ∧ x.f1 = y.f1 ∧ x.f2 = y.f2 := by
  intro xs
  induction xs with
  | nil => intro ys _ i x h; simp at h
  | cons z xs ih =>
    rintro ys ⟨y, ys', rfl, h0, h1, h2, h⟩ i x hx
    cases i with
    | zero => simp at hx; subst hx; exact ⟨y, rfl, h0, h1, h2⟩
    | succ i => exact ih h i x (by simpa using hx)
theorem alike_append : ∀ {xs ys : List S61} (_ : Alike xs ys) {xs' ys' : List S61}, Alike xs' ys' → Alike (xs ++ xs') (ys ++ ys') := by
  intro xs
  induction xs with
  | nil => intro ys h xs' ys' k; cases h; exact k
  | cons x xs ih => rintro ys ⟨y, ys2, rfl, h0, h1, h2, h⟩ xs' ys' k; exact ⟨y, ys2 ++ ys', rfl, h0, h1, h2, ih h k⟩
theorem alike_l0 (xs ys : List S61) (h : Alike xs ys) (hx : xs.length < 4611686018427387904) : ∀ (n i : Nat), xs.length - i ≤ n → i ≤ xs.length → Ev (fun k => worldmintlaw07_same.l0 k xs ys false i) true := by
  have hl := alike_len h
  intro n
  induction n with
  | zero =>
    intro i h1 h2
    refine Ev.up ?_
    simp only [worldmintlaw07_same.l0]
    exact Ev.neg (by omega) (Ev.ok _)
  | succ n ih =>
    intro i h1 h2
    refine Ev.up ?_
    simp only [worldmintlaw07_same.l0]
    by_cases hi : i = xs.length
    · exact Ev.neg (by omega) (Ev.ok _)
    · have hi2 : i < xs.length := by omega
      have hg : xs[i]? = some xs[i] := List.getElem?_eq_getElem hi2
      obtain ⟨y, hy, g0, g1, g2⟩ := alike_get h i _ hg
      rw [rd_T61_at xs i _ hg, rd_T61_at ys i _ hy, wrap_succ i (by omega)]
      exact Ev.pos (by omega) (Ev.pos (by omega) (Ev.pos (by omega) (Ev.pos g0 (Ev.pos (by rw [g1]) (Ev.pos g2 (Ev.neg (by decide) (ih (i + 1) (by omega) (by omega))))))))
theorem alike_ev (xs ys : List S61) (h : Alike xs ys) (hx : xs.length < 4611686018427387904) : Ev (fun k => worldmintlaw07_same.f k xs ys false) true := by
  simp only [worldmintlaw07_same.f]
  exact Ev.pos (by rw [alike_len h]) (alike_l0 xs ys h hx xs.length 0 (by omega) (by omega))

theorem alike_shift (f : Tok → Nat) (ts : List Tok) : Alike ((ts.map fun t => (⟨t.kind, t.text, t.n, f t⟩ : Tok)).map tk61) (ts.map tk61) := by
  induction ts with
  | nil => rfl
  | cons t ts ih => exact ⟨_, _, rfl, rfl, rfl, rfl, ih⟩

/-! The tokens written again. -/
theorem eat_move {x : Tk} {t : Tok} (p : Nat) (h : eat x = .inr t) : eat ⟨x.kind, x.text, p⟩ = .inr ⟨t.kind, t.text, t.n, p⟩ := by
  unfold eat at h ⊢
  simp only
  by_cases h1 : x.text = []
  · rw [if_pos h1] at h; cases h
  · rw [if_neg h1] at h ⊢
    by_cases h2 : x.kind = 0 ∧ 16 < x.text.length
    · rw [if_pos h2] at h; cases h
    · rw [if_neg h2] at h ⊢
      by_cases h3 : x.kind = 1
      · rw [if_pos h3] at h ⊢
        cases hv : Lib.atoiAll x.text with
        | ok v =>
          rw [hv] at h
          simp only at h ⊢
          by_cases h4 : v > 1099511627776
          · rw [if_pos h4] at h; cases h
          · rw [if_neg h4] at h ⊢; cases h; rfl
        | range => rw [hv] at h; cases h
        | _ => rw [hv] at h; cases h
      · rw [if_neg h3] at h ⊢; cases h; rfl

/-- A text that is one token. -/
def TokText (t : Tok) : Prop := ∃ c r, t.text = c :: r ∧ isB c = false ∧ c ≠ 35 ∧ tokLen (c :: r) = (c :: r).length ∧ ∀ p, eat ⟨kindOf (c :: r), c :: r, p⟩ = .inr ⟨t.kind, t.text, t.n, p⟩

theorem tok_texts : ∀ (n : Nat) (r : List UInt8) (p : Nat) (ts : List Tok), r.length ≤ n → Eats (its r p) ts → (∀ t ∈ ts, TokText t) ∧ ts.length ≤ r.length ∧ (ts.flatMap (·.text)).length ≤ r.length := by
  intro n
  induction n with
  | zero =>
    intro r p ts h1 h2
    have : r = [] := List.length_eq_zero_iff.1 (by omega)
    subst this
    cases h2
    exact ⟨fun t h => (by cases h), by simp, by simp⟩
  | succ n ih =>
    intro r p ts h1 h2
    have hc := itsC_cases false r p
    rw [itsC_false] at hc
    rcases hc with ⟨_, h⟩ | ⟨d, y, hdy, hB, h35, h⟩
    · rw [h] at h2; cases h2; exact ⟨fun t h => (by cases h), by simp, by simp⟩
    · rw [h] at h2
      obtain ⟨t, ts', he, hes, rfl⟩ := h2
      obtain ⟨_, htext, hat, hne⟩ := eat_at he
      simp only at htext hat hne
      have hm0 : tokLen (d :: y) ≠ 0 := fun h0 => hne (by rw [h0]; rfl)
      rw [if_neg hm0] at hes
      have htl := tokLen_le (d :: y)
      have hsl := skipN_le r false
      have hyl : (d :: y).length = r.length - skipN false r := by rw [← hdy, List.length_drop]
      obtain ⟨g1, g2, g3⟩ := ih _ _ ts' (by rw [List.length_drop]; omega) hes
      rw [List.length_drop] at g2 g3
      have hlt : t.text.length = tokLen (d :: y) := by rw [htext, List.length_take]; omega
      refine ⟨fun t' ht' => ?_, by simp only [List.length_cons]; omega, by rw [List.flatMap_cons, List.length_append]; omega⟩
      rcases List.mem_cons.1 ht' with rfl | ht'
      · obtain ⟨m, hm⟩ : ∃ m, tokLen (d :: y) = m + 1 := ⟨tokLen (d :: y) - 1, by omega⟩
        have e1 : (d :: y).take (tokLen (d :: y)) = d :: y.take m := by rw [hm, List.take_succ_cons]
        refine ⟨d, y.take m, by rw [htext, e1], hB, h35, ?_, fun q => ?_⟩
        · rw [← e1, tokLen_take _ _ (by omega) (Nat.le_refl _), List.length_take]; omega
        · have := eat_move q he
          simp only at this
          rw [e1] at this
          have ek : kindOf (d :: y.take m) = kindOf (d :: y) := rfl
          rw [ek]
          exact this
      · exact g1 t' ht'

/-- What may stand behind a token. -/
def Stops (r : List UInt8) : Prop := r = [] ∨ ∃ c r', r = c :: r' ∧ (c = 32 ∨ c = 10 ∨ c = 35)
theorem span_all (f : UInt8 → Bool) : ∀ (t rest : List UInt8), span f t = t.length → (rest = [] ∨ ∃ c r', rest = c :: r' ∧ f c = false) → span f (t ++ rest) = t.length := by
  intro t
  induction t with
  | nil =>
    intro rest _ h
    rcases h with rfl | ⟨c, r', rfl, hf⟩
    · rfl
    · rw [List.nil_append, span_cons, if_neg (by rw [hf]; decide)]; rfl
  | cons b t ih =>
    intro rest h1 h2
    rw [span_cons] at h1
    rw [List.cons_append, span_cons]
    by_cases hb : f b = true
    · rw [if_pos hb] at h1 ⊢
      rw [ih rest (by simp at h1; omega) h2]
      simp; omega
    · rw [if_neg hb] at h1
      simp at h1
theorem tokLen_stop (c : UInt8) (r rest : List UInt8) (h : tokLen (c :: r) = (c :: r).length) (hr : Stops rest) : tokLen (c :: r ++ rest) = (c :: r).length := by
  have e : ∀ r, tokLen (c :: r) = if isL c then span isW (c :: r) else if isD c then span isD (c :: r) else symLen (c :: r) := fun _ => rfl
  have stop : ∀ f : UInt8 → Bool, f 32 = false → f 10 = false → f 35 = false → (rest = [] ∨ ∃ c r', rest = c :: r' ∧ f c = false) := by
    intro f h1 h2 h3
    rcases hr with h | ⟨d, r', h, (rfl | rfl | rfl)⟩
    · exact .inl h
    · exact .inr ⟨_, _, h, h1⟩
    · exact .inr ⟨_, _, h, h2⟩
    · exact .inr ⟨_, _, h, h3⟩
  rw [e] at h
  rw [List.cons_append, e]
  by_cases hL : isL c = true
  · rw [if_pos hL] at h ⊢
    rw [← List.cons_append]
    exact span_all isW _ _ h (stop isW (by decide) (by decide) (by decide))
  · rw [if_neg hL] at h ⊢
    by_cases hD : isD c = true
    · rw [if_pos hD] at h ⊢
      rw [← List.cons_append]
      exact span_all isD _ _ h (stop isD (by decide) (by decide) (by decide))
    · rw [if_neg hD] at h ⊢
      have es : ∀ r : List UInt8, symLen (c :: r) = if c = 45 ∧ r.head? = some 62 then 2 else if single c then 1 else 0 := fun _ => rfl
      rw [es] at h ⊢
      by_cases h45 : c = 45 ∧ r.head? = some 62
      · rw [if_pos h45] at h
        have : (r ++ rest).head? = some 62 := by
          cases r with
          | nil => simp at h45
          | cons d r => exact h45.2
        rw [if_pos ⟨h45.1, this⟩]
        exact h
      · rw [if_neg h45] at h
        by_cases hs : single c = true
        · rw [if_pos hs] at h
          have hn45 : c ≠ 45 := fun e => by subst e; exact absurd hs (by decide)
          rw [if_neg (fun g => hn45 g.1), if_pos hs]
          exact h
        · rw [if_neg hs] at h
          simp at h

/-- Blanks or a comment with its end. -/
def sep4 : List ByteArray := [(⟨#[32]⟩ : ByteArray), (⟨#[10]⟩ : ByteArray), (⟨#[32, 9]⟩ : ByteArray), (⟨#[35, 120, 10]⟩ : ByteArray)]
theorem sep4_ok : ∀ s ∈ sep4, skipN false s.data.toList = s.data.toList.length ∧ endC false s.data.toList = false ∧ s.data.toList ≠ [] ∧ s.size ≤ 3 ∧ (s.data.toList.head? = some 32 ∨ s.data.toList.head? = some 10 ∨ s.data.toList.head? = some 35) := by decide
/-- Tokens, each with what stands in front of it. -/
def joined : List (ByteArray × Tok) → List UInt8
  | [] => []
  | (s, t) :: l => s.data.toList ++ (t.text ++ joined l)
theorem joined_stops : ∀ l : List (ByteArray × Tok), (∀ x ∈ l, x.1 ∈ sep4) → Stops (joined l) := by
  intro l h
  cases l with
  | nil => exact .inl rfl
  | cons x l =>
    obtain ⟨s, t⟩ := x
    obtain ⟨_, _, hne, _, hh⟩ := sep4_ok s (h (s, t) (by simp))
    cases hs : s.data.toList with
    | nil => exact absurd hs hne
    | cons c r =>
      refine .inr ⟨c, r ++ (t.text ++ joined l), by show s.data.toList ++ (t.text ++ joined l) = _; rw [hs]; rfl, ?_⟩
      rw [hs] at hh
      simpa using hh
theorem joined_its : ∀ (l : List (ByteArray × Tok)) (p : Nat), (∀ x ∈ l, x.1 ∈ sep4) → (∀ x ∈ l, TokText x.2) → ∃ ts, Eats (its (joined l) p) ts ∧ Alike (ts.map tk61) ((l.map (·.2)).map tk61) := by
  intro l
  induction l with
  | nil => intro p _ _; exact ⟨[], rfl, rfl⟩
  | cons x l ih =>
    intro p hs ht
    obtain ⟨s, t⟩ := x
    obtain ⟨h1, h2, _, _, _⟩ := sep4_ok s (hs (s, t) (by simp))
    obtain ⟨c, r, htx, hB, h35, hT, hE⟩ := ht (s, t) (by simp)
    simp only at htx hE
    have hst := joined_stops l (fun x hx => hs x (by simp [hx]))
    have hsk : skipN false (t.text ++ joined l) = 0 := by
      rw [htx, List.cons_append]
      have h10 : c ≠ 10 := fun e => by subst e; exact absurd hB (by decide)
      have h35' : (c == (35 : UInt8)) = false := by simpa using h35
      simp only [skipN, if_neg h10, h35', Bool.or_false, Bool.false_eq_true, if_false, hB]
    have hsk2 : skipN false (joined ((s, t) :: l)) = s.data.toList.length := by
      show skipN false (s.data.toList ++ (t.text ++ joined l)) = _
      rw [skipN_append, if_pos h1, h2, hsk]
      rfl
    have e1 : its (joined ((s, t) :: l)) p = its (t.text ++ joined l) (p + s.data.toList.length) := by
      rw [← itsC_false]
      unfold itsC
      rw [hsk2]
      show its ((s.data.toList ++ (t.text ++ joined l)).drop s.data.toList.length) _ = _
      rw [List.drop_left]
    have hTL := tokLen_stop c r (joined l) hT hst
    obtain ⟨ts, g1, g2⟩ := ih (p + s.data.toList.length + (c :: r).length) (fun x hx => hs x (by simp [hx])) (fun x hx => ht x (by simp [hx]))
    have e2 : its (t.text ++ joined l) (p + s.data.toList.length) = ⟨kindOf (c :: r), c :: r, p + s.data.toList.length⟩ :: its (joined l) (p + s.data.toList.length + (c :: r).length) := by
      rw [htx, List.cons_append, its_head c (r ++ joined l) _ hB h35, ← List.cons_append, hTL, if_neg (by simp), List.take_left, List.drop_left]
      rfl
    rw [e1, e2]
    exact ⟨_, ⟨_, ts, hE _, g1, rfl⟩, ⟨_, _, rfl, rfl, rfl, rfl, g2⟩⟩

def pkN (how : List Int) (i : Nat) : Int := if h : i < how.length then aroundOf how[i] 4 else 0
theorem pick_eq (how : List Int) (hw : ∀ x ∈ how, (Lit.int .i64 x).wf = true) (i : Nat) : worldmintref01_Pick.f how (i : Int) 4 = some (pkN how i) ∧ 0 ≤ pkN how i ∧ pkN how i < 4 := by
  unfold worldmintref01_Pick.f pkN
  rw [if_neg (by omega)]
  by_cases h : i < how.length
  · rw [if_neg (by omega), if_pos (by omega), if_pos (by omega), dif_pos h, rd_at how i h, around_eq _ 4 (hw _ (List.getElem_mem h)) (by decide)]
    have hb := around_bd how[i] 4 (by decide)
    exact ⟨rfl, hb.1, hb.2⟩
  · rw [if_pos (by omega), dif_neg h]
    exact ⟨rfl, by omega, by omega⟩
def sepAt (how : List Int) (i : Nat) : ByteArray := rdOf ByteArray.empty sep4 (pkN how i)
theorem sepAt_mem (how : List Int) (hw : ∀ x ∈ how, (Lit.int .i64 x).wf = true) (i : Nat) : sepAt how i ∈ sep4 := by
  have h := (pick_eq how hw i).2
  unfold sepAt rdOf
  refine getD_mem ?_
  show _ < 4
  omega
def pf (how : List Int) : Nat → List Tok → List (ByteArray × Tok)
  | _, [] => []
  | i, t :: ts => (sepAt how i, t) :: pf how (i + 1) ts
theorem pf_snd (how : List Int) : ∀ (ts : List Tok) (i : Nat), (pf how i ts).map (·.2) = ts := by
  intro ts
  induction ts with
  | nil => intro i; rfl
  | cons t ts ih => intro i; simp only [pf, List.map_cons, ih]
theorem pf_sep (how : List Int) (hw : ∀ x ∈ how, (Lit.int .i64 x).wf = true) : ∀ (ts : List Tok) (i : Nat), ∀ x ∈ pf how i ts, x.1 ∈ sep4 := by
  intro ts
  induction ts with
  | nil => intro i x h; cases h
  | cons t ts ih =>
    intro i x h
    rcases List.mem_cons.1 h with rfl | h
    · exact sepAt_mem how hw i
    · exact ih (i + 1) x h
theorem pf_tok (how : List Int) : ∀ (ts : List Tok) (i : Nat), (∀ t ∈ ts, TokText t) → ∀ x ∈ pf how i ts, TokText x.2 := by
  intro ts
  induction ts with
  | nil => intro i _ x h; cases h
  | cons t ts ih =>
    intro i ht x h
    rcases List.mem_cons.1 h with rfl | h
    · exact ht t (by simp)
    · exact ih (i + 1) (fun u hu => ht u (by simp [hu])) x h
theorem pf_len (how : List Int) (hw : ∀ x ∈ how, (Lit.int .i64 x).wf = true) : ∀ (ts : List Tok) (i : Nat), (joined (pf how i ts)).length ≤ 3 * ts.length + (ts.flatMap (·.text)).length := by
  intro ts
  induction ts with
  | nil => intro i; simp [pf, joined]
  | cons t ts ih =>
    intro i
    have h1 := (sep4_ok _ (sepAt_mem how hw i)).2.2.2.1
    rw [← toList_size] at h1
    have h2 := ih (i + 1)
    simp only [pf, joined, List.length_append, List.flatMap_cons, List.length_cons]
    omega

theorem tokens_to61 (ts : List Tok) (h : ts.length ≤ 8192) : Ev (fun k => worldmintlaw07_tokens.f k (ts.map ofTok)) (ts.map tk61) := by
  have := tokens_ev (ts.map ofTok) (by rw [List.length_map]; omega)
  rwa [map_to61] at this

theorem apart_end (ta bs cs : List Tok) (ha : ta.length ≤ 456) (hb : bs.length ≤ 456) (hc : cs.length ≤ 8192) (hA : Alike (cs.map tk61) (ta.map tk61 ++ bs.map tk61)) (ds : List Tok) (hd : ds.length ≤ 8192) (hD : Alike (ds.map tk61) (ta.map tk61)) :
    Ev (fun k => worldmintlaw07_LexerApart.j1 k (ta.map ofTok) (bs.map ofTok) (cs.map ofTok) (ds.map ofTok) false) true := by
  refine Ev.up ?_
  simp only [worldmintlaw07_LexerApart.j1]
  refine Ev.neg (by decide) (Ev.bind (tokens_to61 cs hc) (Ev.bind (tokens_to61 ta (by omega)) (Ev.bind (tokens_to61 bs (by omega)) (Ev.pos (by simp only [List.length_map]; omega) ?_))))
  refine Ev.bind (alike_ev _ _ hA (by rw [List.length_map]; omega)) (Ev.pos (by trivial) (Ev.bind (tokens_to61 ds hd) (Ev.bind (tokens_to61 ta (by omega)) ?_)))
  exact Ev.bind (alike_ev _ _ hD (by rw [List.length_map]; omega)) (Ev.pos (by trivial) (Ev.bind0 lives_eq (Ev.ok _)))

theorem apart_l0 (how : List Int) (hw : ∀ x ∈ how, (Lit.int .i64 x).wf = true) (ta bs cs : List Tok) (ha : ta.length ≤ 456) (hb : bs.length ≤ 456) (hc : cs.length ≤ 8192) (hA : Alike (cs.map tk61) (ta.map tk61 ++ bs.map tk61)) (T : List UInt8)
    (ds : List Tok) (hT : tokens T = (ds, 0, 0)) (hD : Alike (ds.map tk61) (ta.map tk61)) : ∀ (rest done : List Tok) (x : ByteArray), ta = done ++ rest → x.size + (joined (pf how done.length rest)).length ≤ 8192 → x.data.toList ++ joined (pf how done.length rest) = T →
      Ev (fun k => worldmintlaw07_LexerApart.l0 k how (ta.map ofTok) 0 (bs.map ofTok) 0 (cs.map ofTok) 0 x (done.length : Int)) true := by
  have hdl : ds.length ≤ 8192 := by
    have := tokens_len T
    rw [hT] at this
    exact this
  intro rest
  induction rest with
  | nil =>
    intro done x h1 _ h3
    rw [List.append_nil] at h1
    subst h1
    refine Ev.up ?_
    simp only [worldmintlaw07_LexerApart.l0, List.length_map]
    refine Ev.neg (by omega) (Ev.bind0 (lex_eqA (s := x) (ts := ds) (p := 0) (e := 0) ?_) (Ev.pos (by trivial) (Ev.pos (by trivial) (Ev.pos (by trivial) ?_))))
    · have : joined (pf how ta.length []) = [] := rfl
      rw [this, List.append_nil] at h3
      rw [h3, hT]
    · exact apart_end ta bs cs ha hb hc hA ds hdl hD
  | cons t rest ih =>
    intro done x h1 h2 h3
    have hat : ta[done.length]? = some t := by rw [h1]; simp
    have hlt : done.length < ta.length := by rw [h1]; simp
    have hrd : rd_T41 (ta.map ofTok) (done.length : Int) = ofTok t := rd_T41_at _ _ _ (by rw [List.getElem?_map, hat]; rfl)
    obtain ⟨p1, p2, p3⟩ := pick_eq how hw done.length
    have hs := (sep4_ok _ (sepAt_mem how hw done.length)).2.2.2.1
    have hj : joined (pf how done.length (t :: rest)) = (sepAt how done.length).data.toList ++ (t.text ++ joined (pf how (done.length + 1) rest)) := rfl
    have hf1 : (ofTok t).f1 = ⟨t.text.toArray⟩ := rfl
    have hfs : (ofTok t).f1.size = t.text.length := by rw [hf1, ← toList_size]
    rw [hj] at h2 h3
    simp only [List.length_append, toList_size] at h2
    have hsl : (sep4.length : Int) = 4 := by decide
    refine Ev.up ?_
    simp only [worldmintlaw07_LexerApart.l0, List.length_map, hrd]
    refine Ev.pos (by omega) (Ev.bind0 (x := sep4) rfl (Ev.bind0 p1 (Ev.pos p2 (Ev.pos (by rw [hsl]; exact p3) ?_))))
    have er : rdOf ByteArray.empty sep4 (pkN how done.length) = sepAt how done.length := rfl
    rw [er, hfs, wrap_succ _ (by omega)]
    refine Ev.pos (by omega) (Ev.pos (by omega) (Ev.pos (by omega) ?_))
    have := ih (done ++ [t]) ((x ++ sepAt how done.length) ++ (ofTok t).f1) (by rw [h1]; simp) ?_ ?_
    · rw [List.length_append] at this
      exact this
    · rw [List.length_append]
      simp only [ByteArray.size_append, hfs]
      show ((x.size + (sepAt how done.length).size) + t.text.length) + (joined (pf how (done.length + 1) rest)).length ≤ 8192
      omega
    · rw [List.length_append, ByteArray.data_append, Array.toList_append, ByteArray.data_append, Array.toList_append, hf1, List.append_assoc, List.append_assoc]
      exact h3

theorem LexerApart : worldmintlaw07_LexerApart.Pure := by
  intro l0 l1 l2 hl0 _ hw0 hl1 _ hw1 _ _ hw2
  refine Ev.ex ?_
  simp only [worldmintlaw07_LexerApart.f]
  obtain ⟨c', ts, ta, hrest, hE, hits, htok⟩ := cleanL_its l0
  obtain ⟨c2, ts2, bs, hrest2, hE2, hits2, htok2⟩ := cleanL_its l1
  have hz0 : (⟨(cleanL l0).toArray⟩ : ByteArray).size ≤ 456 := by rw [← toList_size]; exact cleanL_len l0
  have hz1 : (⟨(cleanL l1).toArray⟩ : ByteArray).size ≤ 456 := by rw [← toList_size]; exact cleanL_len l1
  obtain ⟨g1, g2, g3⟩ := tok_texts _ (cleanL l0) 0 ta (Nat.le_refl _) (by rw [hits]; exact hE)
  obtain ⟨_, k2, _⟩ := tok_texts _ (cleanL l1) 0 bs (Nat.le_refl _) (by rw [hits2]; exact hE2)
  have hc0 := cleanL_len l0
  have hc1 := cleanL_len l1
  -- the two joined
  have hcE : Eats (its (cleanL l0 ++ (10 :: cleanL l1)) 0) (ta ++ bs.map fun t => ⟨t.kind, t.text, t.n, t.at_ + ((cleanL l0).length + 1)⟩) := by
    rw [hrest, shift_zero, itsC_nl]
    refine eats_append hE ?_
    have e : 0 + (cleanL l0).length + 1 = 0 + ((cleanL l0).length + 1) := by omega
    rw [e, its_shift, hits2]
    exact eats_shift _ hE2
  have hlc : (cleanL l0 ++ (10 :: cleanL l1)).length ≤ 8192 := by simp; omega
  have htc := tokens_of_eats hlc hcE
  have hba : ((⟨(cleanL l0).toArray⟩ : ByteArray) ++ (⟨#[10]⟩ : ByteArray)) ++ (⟨(cleanL l1).toArray⟩ : ByteArray) = ⟨(cleanL l0 ++ (10 :: cleanL l1)).toArray⟩ := by
    rw [ba_append, ba_append]
    simp
  refine Ev.bind (clean_ev l0 hw0 hl0) (Ev.bind0 (lex_eqA (s := ⟨(cleanL l0).toArray⟩) htok) (Ev.bind (clean_ev l1 hw1 hl1) (Ev.bind0 (lex_eqA (s := ⟨(cleanL l1).toArray⟩) htok2) (Ev.pos (by omega) (Ev.bind (clean_ev l1 hw1 hl1) (Ev.pos (by omega) ?_))))))
  rw [hba]
  refine Ev.bind0 (lex_eqA (s := ⟨(cleanL l0 ++ (10 :: cleanL l1)).toArray⟩) htc) ?_
  have hpl := pf_len l2 hw2 ta 0
  obtain ⟨ds, hdE, hdA⟩ := joined_its (pf l2 0 ta) 0 (pf_sep l2 hw2 ta 0) (pf_tok l2 ta 0 g1)
  rw [pf_snd] at hdA
  have htd := tokens_of_eats (l := joined (pf l2 0 ta)) (by omega) hdE
  refine apart_l0 l2 hw2 ta bs _ (by omega) (by omega) (by simp; omega) ?_ (joined (pf l2 0 ta)) ds htd hdA ta [] ⟨#[]⟩ rfl ?_ rfl
  · rw [List.map_append]
    refine alike_append ?_ (alike_shift (fun t => t.at_ + ((cleanL l0).length + 1)) bs)
    have := alike_shift (fun t => t.at_) ta
    have e : (ta.map fun t => (⟨t.kind, t.text, t.n, t.at_⟩ : Tok)) = ta := List.map_id _
    rwa [e] at this
  · have : (⟨#[]⟩ : ByteArray).size = 0 := rfl
    rw [this]
    show 0 + (joined (pf l2 0 ta)).length ≤ 8192
    omega
end Go.Proofs.YtoogbggeghlkkaaDoor.Pure
