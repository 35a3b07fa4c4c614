/- What the law LexerPlaces computes is true for every input. -/
import Derived.Test.YtoogbggeghlkkaaDoorPcle
import Derived.Test.YtoogbggeghlkkaaDoorXx9
namespace Go.Proofs.YtoogbggeghlkkaaDoor.Pure
open Go.RowKit Go.Proofs.YtoogbggeghlkkaaDoor.X
open Lex

theorem lex_eq {s : ByteArray} {ts : List Tok} {p e : Int} (h : tokens s.data.toList = (ts, p, e)) : lexer_Tokens.f s = some (ts.map ofTok, p, e) := by
  unfold lexer_Tokens.f
  rw [h]
theorem toks_at (toks : List Tok) (i : Nat) (t : Tok) (h : toks[i]? = some t) : rd_T41 (toks.map ofTok) (i : Int) = ofTok t :=
  rd_T41_at _ _ _ (by rw [List.getElem?_map, h]; rfl)

theorem places_ev (s : ByteArray) (hs : s.size ≤ 8192) (toks : List Tok) (ht : toks.length ≤ 8192) : ∀ (n a i : Nat), toks.length - i ≤ n → a ≤ s.size → i ≤ toks.length → Eats (its (s.data.toList.drop a) a) (toks.drop i) →
    Ev (fun k => worldmintlaw07_LexerPlaces.l0 k s (toks.map ofTok) (a : Int) (i : Int)) true := by
  have hlen : ((toks.map ofTok).length : Int) = toks.length := by rw [List.length_map]
  intro n
  have fin : ∀ a i : Nat, a ≤ s.size → i = toks.length → Eats (its (s.data.toList.drop a) a) (toks.drop i) → Ev (fun k => worldmintlaw07_LexerPlaces.l0 k s (toks.map ofTok) (a : Int) (i : Int)) true := by
    intro a i ha hi he
    subst hi
    rw [List.drop_length] at he
    have hnil : its (s.data.toList.drop a) a = [] := by
      cases hx : its (s.data.toList.drop a) a with
      | nil => rfl
      | cons x xs => rw [hx] at he; obtain ⟨t, ts', _, _, e⟩ := he; cases e
    have hsk : skipN false (s.data.toList.drop a) = (s.data.toList.drop a).length := by
      rcases itsC_cases false (s.data.toList.drop a) a with h | ⟨d, y, _, _, _, h⟩
      · exact h.1
      · rw [itsC_false, hnil] at h; cases h
    have hex : (s.extract (a : Int).toNat (s.size : Int).toNat).data.toList = s.data.toList.drop a := by
      have := extract_eq s a (s.size - a)
      have e : a + (s.size - a) = s.size := by omega
      rw [e] at this
      have e2 : s.extract (a : Int).toNat (s.size : Int).toNat = s.extract a s.size := rfl
      rw [e2, this]
      exact List.take_of_length_le (by rw [List.length_drop, toList_size]; omega)
    have htok : lexer_Tokens.f (s.extract (a : Int).toNat (s.size : Int).toNat) = some (([] : List Tok).map ofTok, 0, 0) := by
      refine lex_eq ?_
      rw [hex]
      exact tokens_skip (by rw [List.length_drop, toList_size]; omega) hsk
    refine Ev.up ?_
    simp only [worldmintlaw07_LexerPlaces.l0, hlen]
    refine Ev.pos (by omega) (Ev.neg (by omega) (Ev.up ?_))
    simp only [worldmintlaw07_LexerPlaces.j1]
    have e1 : decide ((s.size : Int) > (s.size : Int)) = false := by simp
    rw [e1]
    refine Ev.neg (by omega) (Ev.up ?_)
    simp only [worldmintlaw07_LexerPlaces.j2]
    refine Ev.neg (by decide) (Ev.pos (by omega) (Ev.pos (by omega) (Ev.pos (by omega) (Ev.bind0 htok (Ev.pos (by trivial) ?_)))))
    have e2 : decide ((((([] : List Tok).map ofTok, (0 : Int), (0 : Int)).1.length : Nat) : Int) > 0) = false := rfl
    rw [e2]
    refine Ev.up ?_
    simp only [worldmintlaw07_LexerPlaces.j3, hlen]
    refine Ev.neg (by decide) (Ev.neg (by omega) ?_)
    rw [wrap_succ _ (by omega)]
    refine Ev.up ?_
    simp only [worldmintlaw07_LexerPlaces.l0, hlen]
    exact Ev.neg (by omega) (Ev.bind0 lives_eq (Ev.ok _))
  induction n with
  | zero =>
    intro a i h1 h2 h3 h4
    exact fin a i h2 (by omega) h4
  | succ n ih =>
    intro a i h1 h2 h3 h4
    by_cases hi : i = toks.length
    · exact fin a i h2 hi h4
    · have hi2 : i < toks.length := by omega
      obtain ⟨t, htk⟩ : ∃ t, toks[i]? = some t := ⟨_, List.getElem?_eq_getElem hi2⟩
      have hdrop : toks.drop i = t :: toks.drop (i + 1) := by
        rw [List.drop_eq_getElem_cons hi2]
        congr 1
        rw [List.getElem?_eq_getElem hi2] at htk
        exact Option.some.inj htk
      rw [hdrop] at h4
      have hc := itsC_cases false (s.data.toList.drop a) a
      rw [itsC_false] at hc
      rcases hc with ⟨_, h⟩ | ⟨d, y, hdy, _, _, h⟩
      · rw [h] at h4; cases h4
      · rw [h] at h4
        obtain ⟨t', ts', he, hes, hcons⟩ := h4
        obtain ⟨rfl, rfl⟩ := List.cons.inj hcons
        obtain ⟨_, htext, hat, hne⟩ := eat_at he
        simp only at htext hat hne
        have hm0 : tokLen (d :: y) ≠ 0 := fun h0 => hne (by rw [h0]; rfl)
        rw [if_neg hm0] at hes
        obtain ⟨k, hk⟩ : ∃ k, skipN false (s.data.toList.drop a) = k := ⟨_, rfl⟩
        rw [hk] at hdy hat hes
        have htl := tokLen_le (d :: y)
        obtain ⟨m, hm⟩ : ∃ m, tokLen (d :: y) = m := ⟨_, rfl⟩
        rw [hm] at hm0 htl htext hes
        have hyl : (d :: y).length = s.size - (a + k) := by rw [← hdy, List.drop_drop, List.length_drop, toList_size]
        have hdy2 : s.data.toList.drop (a + k) = d :: y := by rw [← hdy, List.drop_drop]
        have hlt : t.text.length = m := by rw [htext, List.length_take]; omega
        have hfs : ((ofTok t).f1.size : Int) = m := by
          show (((⟨t.text.toArray⟩ : ByteArray).size : Nat) : Int) = m
          rw [← toList_size]
          simp [hlt]
        have hf3 : (ofTok t).f3 = ((a + k : Nat) : Int) := by
          show (t.at_ : Int) = _
          rw [hat]
        have hsub : (s.extract (a : Int).toNat ((a + k : Nat) : Int).toNat).data.toList = (s.data.toList.drop a).take k := by
          have e : s.extract (a : Int).toNat ((a + k : Nat) : Int).toNat = s.extract a (a + k) := rfl
          rw [e, extract_eq]
        have htok : lexer_Tokens.f (s.extract (a : Int).toNat ((a + k : Nat) : Int).toNat) = some (([] : List Tok).map ofTok, 0, 0) := by
          refine lex_eq ?_
          rw [hsub]
          have hkl := skipN_le (s.data.toList.drop a) false
          rw [hk] at hkl
          refine tokens_skip ?_ ?_
          · rw [List.length_take, List.length_drop, toList_size]; omega
          · rw [skipN_take, hk, List.length_take]; omega
        refine Ev.up ?_
        simp only [worldmintlaw07_LexerPlaces.l0, hlen, toks_at toks i t htk, hf3]
        refine Ev.pos (by omega) (Ev.pos (by omega) (Ev.pos (by omega) (Ev.up ?_)))
        simp only [worldmintlaw07_LexerPlaces.j1]
        have e1 : decide (((a + k : Nat) : Int) > (s.size : Int)) = false := by simp; omega
        rw [e1]
        refine Ev.neg (by omega) (Ev.up ?_)
        simp only [worldmintlaw07_LexerPlaces.j2]
        refine Ev.neg (by decide) (Ev.pos (by omega) (Ev.pos (by omega) (Ev.pos (by omega) (Ev.bind0 htok (Ev.pos (by trivial) ?_)))))
        have e2 : decide ((((([] : List Tok).map ofTok, (0 : Int), (0 : Int)).1.length : Nat) : Int) > 0) = false := rfl
        rw [e2]
        refine Ev.up ?_
        simp only [worldmintlaw07_LexerPlaces.j3, hlen, toks_at toks i t htk, hfs]
        have e3 : wrap64 (((a + k : Nat) : Int) + (m : Int)) = ((a + k + m : Nat) : Int) := by rw [wrap_id (by omega) (by omega)]; omega
        rw [e3, wrap_succ i (by omega)]
        clear e1 e2 e3 htok hsub hf3 hfs
        refine Ev.neg (by decide) (Ev.pos (by omega) (Ev.pos (by omega) (Ev.neg (by omega) (Ev.pos (by omega) (Ev.pos (by omega) (Ev.pos (by omega) (Ev.pos ?_ ?_)))))))
        · congr 1
          have e : s.extract ((a + k : Nat) : Int).toNat ((a + k + m : Nat) : Int).toNat = s.extract (a + k) (a + k + m) := rfl
          rw [e, extract_eq, hdy2]
          show _ = (⟨t.text.toArray⟩ : ByteArray)
          rw [htext]
        · refine ih (a + k + m) (i + 1) (by omega) (by omega) (by omega) ?_
          have e : (d :: y).drop m = s.data.toList.drop (a + k + m) := by rw [← hdy2, List.drop_drop]
          rw [e] at hes
          exact hes

theorem LexerPlaces : worldmintlaw07_LexerPlaces.Pure := by
  intro l0 hl _ hw
  refine Ev.ex ?_
  simp only [worldmintlaw07_LexerPlaces.f]
  obtain ⟨c', ts, us, _, hE, hits, htok⟩ := cleanL_its l0
  have hc : (⟨(cleanL l0).toArray⟩ : ByteArray).size ≤ 456 := by rw [← toList_size]; exact cleanL_len l0
  refine Ev.bind (clean_ev l0 hw hl) (Ev.bind0 (lex_eq (s := ⟨(cleanL l0).toArray⟩) htok) (Ev.pos (by trivial) ?_))
  have hul : us.length ≤ 8192 := by
    have := tokens_len (cleanL l0)
    rw [htok] at this
    exact this
  refine places_ev ⟨(cleanL l0).toArray⟩ (by omega) us hul us.length 0 0 (by omega) (by omega) (by omega) ?_
  rw [List.drop_zero, List.drop_zero]
  show Eats (its (cleanL l0) 0) us
  rw [hits]
  exact hE
end Go.Proofs.YtoogbggeghlkkaaDoor.Pure
