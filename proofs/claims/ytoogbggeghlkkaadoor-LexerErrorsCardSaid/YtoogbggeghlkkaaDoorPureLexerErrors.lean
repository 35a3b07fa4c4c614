/- What the law LexerErrors computes is true for every input. -/
import Derived.Test.YtoogbggeghlkkaaDoorPcle
import Derived.Test.YtoogbggeghlkkaaDoorPpos
import Derived.Test.YtoogbggeghlkkaaDoorXx11
namespace Go.Proofs.YtoogbggeghlkkaaDoor.Pure
open Go.RowKit Go.Proofs.YtoogbggeghlkkaaDoor.X Go.Proofs.YtoogbggeghlkkaaDoorW.PrintWords
open Lex

theorem lex_eqE {s : ByteArray} {x : List Tok × Int × Int} (h : tokens s.data.toList = x) : lexer_Tokens.f s = some (x.1.map ofTok, x.2.1, x.2.2) := by
  unfold lexer_Tokens.f
  rw [h]

/-- An error's place in the pieces. -/
theorem run_err : ∀ (l : List Tk) (out : List Tok), (run l out).2.2 ≠ 0 → ∃ xs x ys ts e, l = xs ++ x :: ys ∧ Eats xs ts ∧ eat x = .inl e ∧ run l out = ([], (x.at_ : Int), e) := by
  intro l
  induction l with
  | nil => intro out h; exact absurd rfl h
  | cons x l ih =>
    intro out h
    cases he : eat x with
    | inl e => exact ⟨[], x, l, [], e, rfl, rfl, he, run_cons_inl he⟩
    | inr t =>
      rw [run_cons_inr he] at h ⊢
      obtain ⟨xs, y, ys, ts, e, h1, h2, h3, h4⟩ := ih _ h
      exact ⟨x :: xs, y, ys, t :: ts, e, by rw [h1]; rfl, ⟨t, ts, he, h2, rfl⟩, h3, h4⟩
theorem run_stop : ∀ (xs : List Tk) (ts out : List Tok) (x : Tk) (ys : List Tk) (e : Int), Eats xs ts → eat x = .inl e → run (xs ++ x :: ys) out = ([], (x.at_ : Int), e) := by
  intro xs
  induction xs with
  | nil => intro ts out x ys e _ h; exact run_cons_inl h
  | cons z xs ih =>
    rintro ts out x ys e ⟨t, ts', h1, h2, rfl⟩ h
    rw [List.cons_append, run_cons_inr h1]
    exact ih ts' _ x ys e h2 h

theorem its_cut : ∀ (xs : List Tk) (r : List UInt8) (p : Nat) (x : Tk) (ys : List Tk), its r p = xs ++ x :: ys →
    ∃ q d y, r.drop q = d :: y ∧ isB d = false ∧ d ≠ 35 ∧ x = ⟨kindOf (d :: y), (d :: y).take (tokLen (d :: y)), p + q⟩ ∧ its (r.take q) p = xs ∧
      ∀ j, 1 ≤ j → tokLen (d :: y) ≤ j → ∃ zs, its (r.take (q + j)) p = xs ++ x :: zs := by
  intro xs
  induction xs with
  | nil =>
    intro r p x ys h
    have hc := itsC_cases false r p
    rw [itsC_false] at hc
    rcases hc with ⟨_, h1⟩ | ⟨d, y, hdy, hB, h35, h1⟩
    · rw [h1] at h; cases h
    · rw [h1] at h
      obtain ⟨hx, _⟩ := List.cons.inj h
      refine ⟨skipN false r, d, y, hdy, hB, h35, hx.symm, ?_, fun j hj hm => ?_⟩
      · rw [← itsC_false]
        unfold itsC
        have hle := skipN_le r false
        have e : skipN false (r.take (skipN false r)) = (r.take (skipN false r)).length := by rw [skipN_take, List.length_take]; omega
        rw [e, List.drop_length]
        rfl
      · have e1 : skipN false (r.take (skipN false r + j)) = skipN false r := by rw [skipN_take]; omega
        obtain ⟨i, rfl⟩ : ∃ i, j = i + 1 := ⟨j - 1, by omega⟩
        have e2 : (r.take (skipN false r + (i + 1))).drop (skipN false r) = d :: y.take i := by
          rw [List.drop_take, hdy]
          have : skipN false r + (i + 1) - skipN false r = i + 1 := by omega
          rw [this, List.take_succ_cons]
        rw [← itsC_false]
        unfold itsC
        rw [e1, e2, its_head d _ _ hB h35]
        have e3 : d :: y.take i = (d :: y).take (i + 1) := rfl
        have e4 := tokLen_take (d :: y) (i + 1) (by omega) hm
        rw [← e3] at e4
        have e5 : (d :: y.take i).take (tokLen (d :: y)) = (d :: y).take (tokLen (d :: y)) := by
          rw [e3, List.take_take]
          congr 1
          omega
        rw [e4, e5, ← hx]
        exact ⟨_, rfl⟩
  | cons x1 xs ih =>
    intro r p x ys h
    have hc := itsC_cases false r p
    rw [itsC_false] at hc
    rcases hc with ⟨_, h1⟩ | ⟨d, y, hdy, hB, h35, h1⟩
    · rw [h1] at h; cases h
    · rw [h1] at h
      obtain ⟨hx1, hrest⟩ := List.cons.inj h
      have hm0 : tokLen (d :: y) ≠ 0 := fun h0 => by
        rw [if_pos h0] at hrest
        have := congrArg List.length hrest
        simp at this
      rw [if_neg hm0] at hrest
      obtain ⟨q, d', y', g1, g2, g3, g4, g5, g6⟩ := ih _ _ x ys hrest
      have step : ∀ i, its (r.take (skipN false r + tokLen (d :: y) + i)) p = x1 :: its (((d :: y).drop (tokLen (d :: y))).take i) (p + skipN false r + tokLen (d :: y)) := by
        intro i
        have e1 : skipN false (r.take (skipN false r + tokLen (d :: y) + i)) = skipN false r := by rw [skipN_take]; omega
        obtain ⟨m, hm⟩ : ∃ m, tokLen (d :: y) = m + 1 := ⟨tokLen (d :: y) - 1, by omega⟩
        have e2 : (r.take (skipN false r + tokLen (d :: y) + i)).drop (skipN false r) = d :: y.take (m + i) := by
          rw [List.drop_take, hdy, hm]
          have : skipN false r + (m + 1) + i - skipN false r = (m + i) + 1 := by omega
          rw [this, List.take_succ_cons]
        have e3 : d :: y.take (m + i) = (d :: y).take (tokLen (d :: y) + i) := by
          have : tokLen (d :: y) + i = (m + i) + 1 := by omega
          rw [this, List.take_succ_cons]
        have e4 := tokLen_take (d :: y) (tokLen (d :: y) + i) (by omega) (by omega)
        rw [← e3] at e4
        have e5 : (d :: y.take (m + i)).take (tokLen (d :: y)) = (d :: y).take (tokLen (d :: y)) := by
          rw [e3, List.take_take]
          congr 1
          omega
        have e6 : (d :: y.take (m + i)).drop (tokLen (d :: y)) = ((d :: y).drop (tokLen (d :: y))).take i := by
          rw [e3, List.drop_take]
          congr 1
          omega
        have e7 : kindOf (d :: y.take (m + i)) = kindOf (d :: y) := rfl
        rw [← itsC_false]
        unfold itsC
        rw [e1, e2, its_head d _ _ hB h35, e4, if_neg hm0, e5, e6, e7, hx1]
      refine ⟨skipN false r + tokLen (d :: y) + q, d', y', ?_, g2, g3, ?_, ?_, fun j hj hm => ?_⟩
      · rw [← g1, ← hdy, List.drop_drop, List.drop_drop]
        congr 1
        omega
      · rw [g4]
        congr 1
        omega
      · rw [step, g5]
      · obtain ⟨zs, hz⟩ := g6 j hj hm
        refine ⟨zs, ?_⟩
        have e : skipN false r + tokLen (d :: y) + q + j = skipN false r + tokLen (d :: y) + (q + j) := by omega
        rw [e, step, hz]
        rfl

theorem span_mono (f g : UInt8 → Bool) (h : ∀ c, f c = true → g c = true) : ∀ l, span f l ≤ span g l := by
  intro l
  induction l with
  | nil => simp [span]
  | cons b l ih =>
    rw [span_cons, span_cons]
    by_cases hb : f b = true
    · rw [if_pos hb, if_pos (h b hb)]; omega
    · rw [if_neg hb]; omega
theorem isW_nl (c : UInt8) (h : isW c = true) : (c != 10) = true := by
  have : c ≠ 10 := fun e => by subst e; exact absurd h (by decide)
  simpa using this
theorem isD_nl (c : UInt8) (h : isD c = true) : (c != 10) = true := by
  have : c ≠ 10 := fun e => by subst e; exact absurd h (by decide)
  simpa using this
theorem tokLen_line (d : UInt8) (y : List UInt8) (hB : isB d = false) : 1 ≤ span (· != 10) (d :: y) ∧ tokLen (d :: y) ≤ span (· != 10) (d :: y) := by
  have hd : (d != 10) = true := by
    have : d ≠ 10 := fun e => by subst e; exact absurd hB (by decide)
    simpa using this
  have h1 : 1 ≤ span (· != 10) (d :: y) := by rw [span_cons, if_pos hd]; omega
  refine ⟨h1, ?_⟩
  have e : tokLen (d :: y) = if isL d then span isW (d :: y) else if isD d then span isD (d :: y) else symLen (d :: y) := rfl
  rw [e]
  split
  · exact span_mono _ _ isW_nl _
  · split
    · exact span_mono _ _ isD_nl _
    · have es : symLen (d :: y) = if d = 45 ∧ y.head? = some 62 then 2 else if single d then 1 else 0 := rfl
      rw [es]
      split
      · rename_i h
        cases y with
        | nil => simp at h
        | cons c y =>
          have hc : c = 62 := by simpa using h.2
          subst hc
          rw [span_cons, if_pos hd, span_cons, if_pos (by decide)]
          omega
      · split <;> omega

theorem cnt_same (s : ByteArray) (k : Nat) : ∀ m, k ≤ m → (∀ j, k ≤ j → j < m → s.data[j]! ≠ 10) → cnt s m = cnt s k := by
  intro m
  induction m with
  | zero => intro h _; have : k = 0 := by omega
            subst this; rfl
  | succ m ih =>
    intro h1 h2
    by_cases h : k = m + 1
    · rw [h]
    · have e : cnt s (m + 1) = if s.data[m]! = 10 then cnt s m + 1 else cnt s m := rfl
      rw [e, if_neg (h2 m (by omega) (by omega))]
      exact ih (by omega) (fun j g1 g2 => h2 j g1 (by omega))

theorem hash_eq (x : Int) : ∃ v, hash_Sum.f (⟨#[108, 105, 110, 101]⟩ : ByteArray) [x] = some v := ⟨_, if_pos ⟨rfl, rfl⟩⟩

theorem line_l0 (s : ByteArray) (hs : s.size < 1000000) (a e ln co : Int) : ∀ (l : List UInt8) (p : Nat), s.data.toList.drop p = l →
    Ev (fun k => worldmintlaw07_LexerErrors.j2 k s a e ln co ((p + span (· != 10) l : Nat) : Int)) true → Ev (fun k => worldmintlaw07_LexerErrors.l0 k s a e ln co (p : Int)) true := by
  intro l
  induction l with
  | nil =>
    intro p h hj
    have := drop_nil h
    refine Ev.up ?_
    simp only [worldmintlaw07_LexerErrors.l0]
    exact Ev.neg (by omega) hj
  | cons b r ih =>
    intro p h hj
    obtain ⟨hp, hb, hd, hl⟩ := bt_drop h
    refine Ev.up ?_
    simp only [worldmintlaw07_LexerErrors.l0, hb]
    refine Ev.pos (by omega) (Ev.pos (by omega) ?_)
    rw [span_cons] at hj
    by_cases h10 : b = 10
    · rw [if_neg (by subst h10; decide)] at hj
      exact Ev.pos (by rw [h10]; rfl) hj
    · rw [if_pos (by simpa using h10)] at hj
      refine Ev.neg (fun e => h10 ((byte_eq b 10 (by decide)).1 e)) ?_
      rw [wrap_succ p (by omega)]
      refine ih (p + 1) hd ?_
      have : p + (1 + span (· != 10) r) = p + 1 + span (· != 10) r := by omega
      rw [this] at hj
      exact hj

theorem LexerErrors : worldmintlaw07_LexerErrors.Pure := by
  intro l0 hl _ hw
  refine Ev.ex ?_
  simp only [worldmintlaw07_LexerErrors.f]
  refine Ev.bind (text_ev l0 hw hl) ?_
  obtain ⟨s, hs⟩ : ∃ s : ByteArray, ⟨(textL l0).toArray⟩ = s := ⟨_, rfl⟩
  have hsz : s.size ≤ 408 := by rw [← hs, ← toList_size]; exact textL_len l0
  rw [hs]
  clear hs
  have hlen := toList_size s
  have etok : tokens s.data.toList = run (its s.data.toList 0) [] := by
    unfold tokens
    rw [if_neg (by omega)]
    rfl
  by_cases he0 : (run (its s.data.toList 0) []).2.2 = 0
  · obtain ⟨ts, hts⟩ := eats_of_run _ _ he0
    have h1 := run_of_eats _ _ [] hts
    refine Ev.bind0 (lex_eqE (etok.trans h1)) (Ev.pos (by trivial) (Ev.pos (by trivial) (Ev.bind0 lives_eq (Ev.ok _))))
  · obtain ⟨xs, x, ys, ts, e, h1, h2, h3, h4⟩ := run_err _ _ he0
    rw [h4] at he0
    obtain ⟨q, d, y, g1, g2, g3, g4, g5, g6⟩ := its_cut xs _ 0 x ys h1
    have hat : x.at_ = q := by rw [g4]; simp
    rw [hat] at h4
    obtain ⟨n1, n2⟩ := tokLen_line d y g2
    obtain ⟨j, hj⟩ : ∃ j, span (· != 10) (d :: y) = j := ⟨_, rfl⟩
    rw [hj] at n1 n2
    obtain ⟨zs, hz⟩ := g6 j n1 n2
    have hjl : j ≤ (d :: y).length := by rw [← hj]; exact span_le _ _
    have hyl : (d :: y).length = s.size - q := by rw [← g1, List.length_drop, hlen]
    have hdl : 1 ≤ (d :: y).length := by simp
    have t0 : lexer_Tokens.f (s.extract 0 (q : Int).toNat) = some (ts.map ofTok, 0, 0) := by
      have e1 : (s.extract 0 (q : Int).toNat).data.toList = s.data.toList.take q := by
        have := extract_eq s 0 q
        rw [Nat.zero_add, List.drop_zero] at this
        have e2 : s.extract 0 (q : Int).toNat = s.extract 0 q := rfl
        rw [e2, this]
      refine lex_eqE (x := (ts, 0, 0)) ?_
      rw [e1]
      exact tokens_of_eats (by rw [List.length_take]; omega) (by rw [g5]; exact h2)
    have t1 : lexer_Tokens.f (s.extract 0 ((q + j : Nat) : Int).toNat) = some (([] : List Tok).map ofTok, (q : Int), e) := by
      have e1 : (s.extract 0 ((q + j : Nat) : Int).toNat).data.toList = s.data.toList.take (q + j) := by
        have := extract_eq s 0 (q + j)
        rw [Nat.zero_add, List.drop_zero] at this
        have e2 : s.extract 0 ((q + j : Nat) : Int).toNat = s.extract 0 (q + j) := rfl
        rw [e2, this]
      refine lex_eqE (x := ([], (q : Int), e)) ?_
      rw [e1]
      have e3 : (its (s.data.toList.take (q + j)) 0) = xs ++ x :: zs := hz
      have e4 : tokens (s.data.toList.take (q + j)) = run (its (s.data.toList.take (q + j)) 0) [] := by
        unfold tokens
        rw [if_neg (by rw [List.length_take]; omega)]
        rfl
      rw [e4, e3, run_stop xs ts [] x zs e h2 h3, hat]
    have hu : upto s q = q := by unfold upto; omega
    have hlb := lastIdx_bd2 s 10 q
    have hcl := cnt_le s q
    have p1 := lex_pos_eq s (by omega) (q : Int)
    rw [hu] at p1
    -- the line's begin
    obtain ⟨b, hb⟩ : ∃ b : Nat, Lib.lastIdx s 10 q + 1 = b := ⟨(Lib.lastIdx s 10 q + 1).toNat, by omega⟩
    have hub : upto s b = b := by unfold upto; omega
    have p2 := lex_pos_eq s (by omega) (b : Int)
    rw [hub] at p2
    have hcb : cnt s q = cnt s b ∧ Lib.lastIdx s 10 b = (b : Int) - 1 := by
      rcases Lib.lastIdx_spec s 10 q with ⟨k1, k2⟩ | ⟨i, k1, k2, k3, k4⟩
      · have hb0 : b = 0 := by omega
        subst hb0
        exact ⟨cnt_same s 0 q (by omega) (fun j _ hj2 e => k2 j hj2 (by rw [e]; rfl)), rfl⟩
      · have hbi : b = i + 1 := by omega
        subst hbi
        refine ⟨cnt_same s (i + 1) q (by omega) (fun j hj1 hj2 e => k4 j (by omega) hj2 (by rw [e]; rfl)), ?_⟩
        rw [Lib.lastIdx_hit s 10 i k3]
        omega
    have wb : wrap64 (wrap64 ((q : Int) - ((q : Int) - Lib.lastIdx s 10 q)) + 1) = (b : Int) := by
      rw [wrap_id (n := (q : Int) - ((q : Int) - Lib.lastIdx s 10 q)) (by omega) (by omega), wrap_id (by omega) (by omega)]
      omega
    rw [← hcb.1, hcb.2] at p2
    obtain ⟨hv, hhv⟩ := hash_eq (1 + ((cnt s q : Nat) : Int))
    refine Ev.bind0 (lex_eqE (etok.trans h4)) (Ev.neg he0 (Ev.neg (by show ¬ (q : Int) < 0; omega) ?_))
    show Ev (fun k => worldmintlaw07_LexerErrors.j0 k s (q : Int) e (decide ((q : Int) ≥ (s.size : Int)))) true
    have e1 : decide ((q : Int) ≥ (s.size : Int)) = false := by simp; omega
    rw [e1]
    clear e1
    refine Ev.up ?_
    simp only [worldmintlaw07_LexerErrors.j0]
    refine Ev.neg (by decide) (Ev.bind0 p1 ?_)
    refine line_l0 s (by omega) _ _ _ _ (d :: y) q g1 ?_
    rw [hj]
    refine Ev.up ?_
    simp only [worldmintlaw07_LexerErrors.j2]
    refine Ev.pos (by omega) (Ev.pos (by omega) (Ev.bind0 t0 (Ev.pos (by omega) (Ev.pos (by omega) (Ev.bind0 t1 ?_)))))
    rw [wb]
    refine Ev.pos (by trivial) (Ev.pos (by trivial) (Ev.pos (by trivial) (Ev.neg (by omega) ?_)))
    have e2 : decide (1 + ((cnt s q : Nat) : Int) < 1) = false := by simp; omega
    rw [e2]
    refine Ev.up ?_
    simp only [worldmintlaw07_LexerErrors.j3]
    refine Ev.neg (by decide) (Ev.bind0 p2 (Ev.pos (by trivial) (Ev.pos (by show (b : Int) - ((b : Int) - 1) = 1; omega) ?_)))
    exact Ev.bind0 hhv (Ev.bind0 hhv (Ev.pos (by trivial) (Ev.bind0 lives_eq (Ev.ok _))))
end Go.Proofs.YtoogbggeghlkkaaDoor.Pure
