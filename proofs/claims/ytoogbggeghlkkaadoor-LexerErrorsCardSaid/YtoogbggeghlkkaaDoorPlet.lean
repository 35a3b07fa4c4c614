/- The reference's Tokens gives the lexer's tokens; the law's agreement holds for every text. -/
import Derived.Test.YtoogbggeghlkkaaDoorPlex
namespace Go.Proofs.YtoogbggeghlkkaaDoor.X
open Go.RowKit Go.Proofs.YtoogbggeghlkkaaDoorW.PrintWords Go.Proofs.YtoogbggeghlkkaaDoorW.PrintLast Go.Proofs.YtoogbggeghlkkaaDoorW.PrintMore
open Lex

def tk61 (t : Tok) : S61 := ⟨t.kind, ⟨t.text.toArray⟩, t.n, t.at_⟩
def conv (x : List Tok × Int × Int) : List S61 × Int × Int := (x.1.map tk61, x.2.1, x.2.2)

theorem extract_eq (s : ByteArray) (q m : Nat) : s.extract q (q + m) = ⟨((s.data.toList.drop q).take m).toArray⟩ := by
  apply ByteArray.ext
  apply Array.ext'
  rw [ByteArray.data_extract, Array.toList_extract, List.extract_eq_take_drop]
  congr 1
  omega
theorem take_span (f : UInt8 → Bool) (l : List UInt8) : l.take (span f l) = l.takeWhile f := by
  induction l with
  | nil => rfl
  | cons b r ih =>
    rw [span_cons]
    by_cases h : f b = true
    · rw [if_pos h, Nat.add_comm, List.take_succ_cons, ih, List.takeWhile_cons, if_pos h]
    · rw [if_neg h, List.takeWhile_cons, if_neg h]; rfl
theorem all_takeWhile (f : UInt8 → Bool) (l : List UInt8) : ∀ c ∈ l.takeWhile f, f c = true := by
  induction l with
  | nil => intro c h; cases h
  | cons b r ih =>
    intro c h
    rw [List.takeWhile_cons] at h
    by_cases hb : f b = true
    · rw [if_pos hb] at h
      rcases List.mem_cons.1 h with rfl | h
      · exact hb
      · exact ih c h
    · rw [if_neg hb] at h; cases h

/-- What the loop does with the digits. -/
theorem eat_digits (c : UInt8) (t : List UInt8) (q : Nat) (hD : ∀ x ∈ c :: t, isD x = true) :
    (valOf 0 (c :: t) > 1099511627776 → eat ⟨1, c :: t, q⟩ = .inl 4) ∧ (¬ valOf 0 (c :: t) > 1099511627776 → eat ⟨1, c :: t, q⟩ = .inr ⟨1, c :: t, valOf 0 (c :: t), q⟩) := by
  have hc : isD c = true := hD c (by simp)
  have hc2 : 48 ≤ c.toNat ∧ c.toNat ≤ 57 := by
    unfold isD at hc
    simp only [Bool.and_eq_true, decide_eq_true_eq, UInt8.le_iff_toNat_le] at hc
    exact hc
  have e0 : eat ⟨1, c :: t, q⟩ = match Lib.atoiAll (c :: t) with
      | .ok v => if v > 1099511627776 then .inl 4 else .inr ⟨1, c :: t, v, q⟩
      | _ => .inl 4 := by
    unfold eat
    simp only
    rw [if_neg (by simp), if_neg (by simp), if_pos trivial]
    cases Lib.atoiAll (c :: t) <;> rfl
  rw [e0, Lib.atoiAll_plain c t (by omega) (by omega)]
  have e1 : Lib.parseMag (c :: t) = Lib.parseUint10 0 (c :: t) := by unfold Lib.parseMag; simp
  rw [e1]
  rcases valOf_parse (c :: t) 0 0 hD (by unfold mn; simp) with ⟨u, h1, h2⟩ | ⟨h1, h2⟩
  · rw [h1, h2]
    unfold Lib.signless
    by_cases hu : 9223372036854775808 ≤ u
    · simp only [if_pos hu]
      refine ⟨fun _ => by trivial, fun h => absurd ?_ h⟩
      unfold mn; split <;> omega
    · simp only [if_neg hu]
      by_cases h3 : (u : Int) > 1099511627776
      · rw [if_pos h3]
        refine ⟨fun _ => by trivial, fun h => absurd ?_ h⟩
        unfold mn; split <;> omega
      · rw [if_neg h3]
        have h4 : mn (u : Int) 1099511627777 = u := by unfold mn; split <;> omega
        rw [h4]
        exact ⟨fun h => absurd h h3, fun _ => rfl⟩
  · rw [h1, h2]
    exact ⟨fun _ => rfl, fun h => absurd (by decide) h⟩

theorem run_cons_inl {x : Tk} {xs : List Tk} {out : List Tok} {e : Int} (h : eat x = .inl e) : run (x :: xs) out = ([], (x.at_ : Int), e) := by simp only [run, h]
theorem run_cons_inr {x : Tk} {xs : List Tk} {out : List Tok} {t : Tok} (h : eat x = .inr t) : run (x :: xs) out = run xs (out ++ [t]) := by simp only [run, h]

theorem toks_ev (s : ByteArray) (hs : s.size ≤ 8192) : ∀ (n q : Nat) (toks : List Tok), s.size - q ≤ n → q ≤ s.size → toks.length ≤ q →
    Ev (fun k => (worldmintref07_skip.f k s q).bind fun t => worldmintref07_Tokens.l0 k s (toks.map tk61) t) (conv (run (its (s.data.toList.drop q) q) toks)) := by
  intro n
  induction n with
  | zero =>
    intro q toks h1 h2 h3
    have hn : s.data.toList.drop q = [] := List.drop_eq_nil_of_le (by rw [toList_size]; omega)
    refine Ev.bind (skip_ev s (by omega) [] q false hn) ?_
    rw [hn]
    refine Ev.up ?_
    simp only [worldmintref07_Tokens.l0]
    exact Ev.neg (by simp only [skipN]; omega) (Ev.ok _)
  | succ n ih =>
    intro q toks h1 h2 h3
    refine Ev.bind (skip_ev s (by omega) _ q false rfl) ?_
    have hsk := skipN_le (s.data.toList.drop q) false
    rw [List.length_drop, toList_size] at hsk
    rw [its_skipN _ (s.data.toList.drop q) q (Nat.le_refl _), List.drop_drop]
    have hhead := fun b r' => skipN_head (s.data.toList.drop q) false b r'
    rw [List.drop_drop] at hhead
    obtain ⟨p, hp⟩ : ∃ p, q + skipN false (s.data.toList.drop q) = p := ⟨_, rfl⟩
    rw [hp] at hhead ⊢
    have hqp : q ≤ p := by omega
    have hps : p ≤ s.size := by omega
    clear hsk hp
    refine Ev.up ?_
    simp only [worldmintref07_Tokens.l0]
    cases hd : s.data.toList.drop p with
    | nil =>
      have := drop_nil hd
      exact Ev.neg (by omega) (Ev.ok _)
    | cons c r =>
      obtain ⟨hB, h35⟩ := hhead c r hd
      obtain ⟨hpl, hb, hd1, hl⟩ := bt_drop hd
      refine Ev.pos (by omega) (Ev.bind (end_ev s (by omega) p c r hd hB h35) ?_)
      obtain ⟨kd, hstep, hkd⟩ : ∃ kd, Lex.step (c :: r) = .tok kd (tokLen (c :: r)) ∧ kd = (if isL c then 0 else if isD c then 1 else 2 : Int) := by
        rw [step_cons, if_neg (by rw [hB]; decide), if_neg h35]
        show ∃ kd, (if isL c then Step.tok 0 (span isW (c :: r)) else if isD c then .tok 1 (span isD (c :: r)) else .tok 2 (symLen (c :: r))) = .tok kd (if isL c then span isW (c :: r) else if isD c then span isD (c :: r) else symLen (c :: r)) ∧ _
        by_cases h1 : isL c = true
        · exact ⟨0, by rw [if_pos h1, if_pos h1], by rw [if_pos h1]⟩
        · by_cases h2 : isD c = true
          · exact ⟨1, by rw [if_neg h1, if_pos h2, if_neg h1, if_pos h2], by rw [if_neg h1, if_pos h2]⟩
          · exact ⟨2, by rw [if_neg h1, if_neg h2, if_neg h1, if_neg h2], by rw [if_neg h1, if_neg h2]⟩
      have hle := (step_le (c :: r)).2 _ _ hstep
      have hlr : (c :: r).length = s.size - p := by rw [← hd, List.length_drop, toList_size]
      rw [its_tok1 p hstep]
      by_cases hm0 : tokLen (c :: r) = 0
      · rw [hm0]
        refine Ev.pos (by omega) ((Ev.ok _).cast ?_)
        rw [run_cons_inl (e := 2) (by simp [eat])]
        rfl
      · have hm1 : 1 ≤ tokLen (c :: r) := by omega
        refine Ev.neg (by omega) (Ev.pos (by omega) (Ev.pos (by omega) (Ev.pos (by omega) ?_)))
        rw [if_neg hm0]
        have hdr : (c :: r).drop (tokLen (c :: r)) = s.data.toList.drop (p + tokLen (c :: r)) := by rw [← hd, List.drop_drop]
        rw [hdr]
        have hex : s.extract (p : Int).toNat ((p + tokLen (c :: r) : Nat) : Int).toNat = ⟨((c :: r).take (tokLen (c :: r))).toArray⟩ := by
          rw [← hd, ← extract_eq]
          rfl
        rw [hb, hex]
        have hlen : ((c :: r).take (tokLen (c :: r))).length = tokLen (c :: r) := by rw [List.length_take]; omega
        obtain ⟨m, hm⟩ : ∃ m, tokLen (c :: r) = m := ⟨_, rfl⟩
        have htw : tokLen (c :: r) = if isL c then span isW (c :: r) else if isD c then span isD (c :: r) else symLen (c :: r) := rfl
        rw [hm] at hm1 hm0 hle hlen hex htw ⊢
        have hne : (c :: r).take m ≠ [] := fun h => by rw [h] at hlen; simp at hlen; omega
        have next : ∀ t : Tok, Ev (fun k => (worldmintref07_skip.f k s ((p + m : Nat) : Int)).bind fun t' => worldmintref07_Tokens.l0 k s (toks.map tk61 ++ [tk61 t]) t') (conv (run (its (s.data.toList.drop (p + m)) (p + m)) (toks ++ [t]))) := by
          intro t
          have := ih (p + m) (toks ++ [t]) (by omega) (by omega) (by simp; omega)
          rw [List.map_append] at this
          exact this
        have hcap : ((toks.map tk61).length : Nat) < 3518437208883 := by rw [List.length_map]; omega
        obtain ⟨f0, f1, f2, f3, f4, f5, f6, f7⟩ := cls_facts c
        refine Ev.bind (class_ev c) ?_
        by_cases hL : isL c = true
        · have hk : kd = 0 := by rw [hkd, if_pos hL]
          subst hk
          refine Ev.pos (f1.2 hL) (Ev.up ?_)
          simp only [worldmintref07_Tokens.j1, hb]
          refine Ev.pos (by omega) (Ev.pos (by omega) (Ev.bind (class_ev c) ?_))
          refine Ev.neg (fun e => by rw [f5 hL] at f2; exact absurd (f2.1 e) (by decide)) (Ev.pos (by trivial) ?_)
          have hsz : ((⟨((c :: r).take m).toArray⟩ : ByteArray).size : Int) = m := by rw [← toList_size]; simp [hlen]
          rw [hsz]
          by_cases h16 : (m : Int) > 16
          · refine Ev.pos h16 ((Ev.ok _).cast ?_)
            rw [run_cons_inl (e := 4) (by unfold eat; simp only; rw [if_neg hne, if_pos ⟨by trivial, by omega⟩])]
            rfl
          · refine Ev.neg h16 (Ev.neg (by decide) (Ev.pos hcap ?_))
            have e1 : eat ⟨0, (c :: r).take m, p⟩ = .inr ⟨0, (c :: r).take m, 0, p⟩ := by
              unfold eat; simp only; rw [if_neg hne, if_neg (by omega), if_neg (by decide)]
            rw [run_cons_inr e1]
            exact next ⟨0, (c :: r).take m, 0, p⟩
        · refine Ev.neg (fun e => hL (f1.1 e)) (Ev.up ?_)
          simp only [worldmintref07_Tokens.j1, hb]
          refine Ev.pos (by omega) (Ev.pos (by omega) (Ev.bind (class_ev c) ?_))
          by_cases hD : isD c = true
          · have hk : kd = 1 := by rw [hkd, if_neg hL, if_pos hD]
            subst hk
            refine Ev.pos (f2.2 hD) ?_
            rw [if_neg hL, if_pos hD] at htw
            have hall : ∀ x ∈ (c :: r).take m, isD x = true := by
              rw [htw, take_span]
              exact all_takeWhile _ _
            obtain ⟨t, ht⟩ : ∃ t, (c :: r).take m = c :: t := by
              cases m with
              | zero => omega
              | succ m => exact ⟨r.take m, by rw [List.take_succ_cons]⟩
            rw [ht] at hall hne ⊢
            have hv := value_ev ⟨(c :: t).toArray⟩ (by rw [← toList_size]; simp only; rw [← ht, hlen]; omega) (c :: t) 0 0 (by simp) hall (by omega) (by omega)
            obtain ⟨g1, g2⟩ := eat_digits c t p hall
            refine Ev.bind (f := fun k => worldmintref07_value.f k ⟨(c :: t).toArray⟩) hv ?_
            by_cases hbig : valOf 0 (c :: t) > 1099511627776
            · refine Ev.pos hbig ((Ev.ok _).cast ?_)
              rw [run_cons_inl (g1 hbig)]
              rfl
            · refine Ev.neg hbig (Ev.pos hcap ?_)
              rw [run_cons_inr (g2 hbig)]
              exact next ⟨1, c :: t, valOf 0 (c :: t), p⟩
          · have hk : kd = 2 := by rw [hkd, if_neg hL, if_neg hD]
            subst hk
            refine Ev.neg (fun e => hD (f2.1 e)) (Ev.neg (by decide) (Ev.neg (by decide) (Ev.pos hcap ?_)))
            have e1 : eat ⟨2, (c :: r).take m, p⟩ = .inr ⟨2, (c :: r).take m, 0, p⟩ := by
              unfold eat; simp only; rw [if_neg hne, if_neg (by simp), if_neg (by decide)]
            rw [run_cons_inr e1]
            exact next ⟨2, (c :: r).take m, 0, p⟩

theorem ref_ev (s : ByteArray) : Ev (fun k => worldmintref07_Tokens.f k s) (conv (tokens s.data.toList)) := by
  unfold tokens
  simp only [worldmintref07_Tokens.f]
  rw [toList_size]
  by_cases h : 8192 < s.size
  · rw [if_pos h]
    exact Ev.pos (by omega) (Ev.ok _)
  · rw [if_neg h]
    refine Ev.neg (by omega) ?_
    have := toks_ev s (by omega) s.size 0 [] (by omega) (by omega) (by simp)
    unfold its at this
    rw [List.drop_zero, toList_size] at this
    exact this

/-! tokens and same. -/
theorem rd_T41_at (xs : List S41) (i : Nat) (x : S41) (h : xs[i]? = some x) : rd_T41 xs (i : Int) = x := by
  unfold rd_T41
  simp [List.getD, h]
theorem rd_T61_at (xs : List S61) (i : Nat) (x : S61) (h : xs[i]? = some x) : rd_T61 xs (i : Int) = x := by
  unfold rd_T61
  simp [List.getD, h]
def to61 (x : S41) : S61 := ⟨x.f0, x.f1, x.f2, x.f3⟩
theorem tokens_l0_ev (xs : List S41) (hx : xs.length < 3518437208883) : ∀ (n i : Nat), xs.length - i ≤ n → i ≤ xs.length → Ev (fun k => worldmintlaw07_tokens.l0 k xs ((xs.take i).map to61) i) (xs.map to61) := by
  intro n
  induction n with
  | zero =>
    intro i h1 h2
    have : i = xs.length := by omega
    subst this
    refine Ev.up ?_
    simp only [worldmintlaw07_tokens.l0]
    exact Ev.neg (by omega) ((Ev.ok _).cast (by rw [List.take_length]))
  | succ n ih =>
    intro i h1 h2
    by_cases h : i = xs.length
    · subst h
      refine Ev.up ?_
      simp only [worldmintlaw07_tokens.l0]
      exact Ev.neg (by omega) ((Ev.ok _).cast (by rw [List.take_length]))
    · have hi : i < xs.length := by omega
      have hg : xs[i]? = some xs[i] := List.getElem?_eq_getElem hi
      refine Ev.up ?_
      simp only [worldmintlaw07_tokens.l0]
      refine Ev.pos (by omega) (Ev.pos (by omega) (Ev.pos (by rw [List.length_map, List.length_take]; omega) ?_))
      rw [wrap_succ i (by omega), rd_T41_at xs i _ hg]
      have := ih (i + 1) (by omega) (by omega)
      rw [List.take_add_one, hg, List.map_append] at this
      exact this
theorem tokens_ev (xs : List S41) (hx : xs.length < 3518437208883) : Ev (fun k => worldmintlaw07_tokens.f k xs) (xs.map to61) :=
  tokens_l0_ev xs hx xs.length 0 (by omega) (by omega)

theorem same_l0_ev (xs : List S61) (hx : xs.length < 4611686018427387904) (b : Bool) : ∀ (n i : Nat), xs.length - i ≤ n → i ≤ xs.length → Ev (fun k => worldmintlaw07_same.l0 k xs xs b i) true := by
  intro n
  induction n with
  | zero =>
    intro i h1 h2
    refine Ev.up ?_
    simp only [worldmintlaw07_same.l0]
    exact Ev.neg (by omega) (Ev.ok _)
  | succ n ih =>
    intro i h1 h2
    refine Ev.up ?_
    simp only [worldmintlaw07_same.l0]
    by_cases h : i = xs.length
    · exact Ev.neg (by omega) (Ev.ok _)
    · refine Ev.pos (by omega) (Ev.pos (by omega) (Ev.pos (by omega) (Ev.pos (by trivial) (Ev.pos (by trivial) (Ev.pos (by trivial) ?_)))))
      rw [wrap_succ i (by omega)]
      have := ih (i + 1) (by omega) (by omega)
      cases b with
      | true => exact Ev.pos (by trivial) (Ev.pos (by trivial) this)
      | false => exact Ev.neg (by decide) this
theorem same_ev (xs : List S61) (hx : xs.length < 4611686018427387904) (b : Bool) : Ev (fun k => worldmintlaw07_same.f k xs xs b) true := by
  simp only [worldmintlaw07_same.f]
  exact Ev.pos (by trivial) (same_l0_ev xs hx b xs.length 0 (by omega) (by omega))

theorem run_len (xs : List Tk) (out : List Tok) : (run xs out).1.length ≤ out.length + xs.length := by
  induction xs generalizing out with
  | nil => simp [run]
  | cons x xs ih =>
    simp only [run]
    split
    · simp
    · have := ih (out ++ [‹Tok›])
      simp at this ⊢
      omega
theorem items_len : ∀ (k : Nat) (r : List UInt8) (p : Nat), (items k r p).length ≤ k := by
  intro k
  induction k with
  | zero => intro r p; simp [items]
  | succ k ih =>
    intro r p
    simp only [items]
    split
    · simp
    · split
      · have := ih (r.drop ‹_›) (p + ‹_›); omega
      · split
        · simp
        · simp only [List.length_cons]
          have := ih (r.drop ‹_›) (p + ‹_›); omega
theorem tokens_len (l : List UInt8) : (tokens l).1.length ≤ 8192 := by
  unfold tokens
  split
  · simp
  · have := run_len (items l.length l 0) []
    have h2 := items_len l.length l 0
    simp at this
    omega
theorem map_to61 (l : List Tok) : (l.map ofTok).map to61 = l.map tk61 := by
  rw [List.map_map]; rfl

theorem agrees_ev (s : ByteArray) : Ev (fun k => worldmintlaw07_agrees.f k s) true := by
  simp only [worldmintlaw07_agrees.f]
  refine Ev.bind0 rfl (Ev.bind (ref_ev s) (Ev.pos (by trivial) (Ev.pos (by trivial) ?_)))
  have hl := tokens_len s.data.toList
  have h1 := tokens_ev ((tokens s.data.toList).1.map ofTok) (by rw [List.length_map]; omega)
  refine Ev.bind h1 ?_
  rw [map_to61]
  exact Ev.bind (same_ev ((tokens s.data.toList).1.map tk61) (by rw [List.length_map]; omega) true) (Ev.ok _)
end Go.Proofs.YtoogbggeghlkkaaDoor.X
