/- What the law LexerPosition computes is true for every input. -/
import Derived.Test.YtoogbggeghlkkaaDoorPpos
namespace Go.Proofs.YtoogbggeghlkkaaDoor.Pure
open Go.RowKit Go.Proofs.YtoogbggeghlkkaaDoor.X Go.Proofs.YtoogbggeghlkkaaDoorW.PrintWords

theorem pos_l1 (a : Int) (ts : List ByteArray) (i : Nat) (hi : i < ts.length) (hi2 : i < 2) (s : ByteArray) (hsi : rdOf ByteArray.empty ts (i : Int) = s) (hs : s.size < 1000000)
    (next : Ev (fun k => worldmintlaw07_LexerPosition.l0 k a ts ((i + 1 : Nat) : Int)) true) : ∀ (n : Nat) (x : Int), (s.size : Int) + 2 - x ≤ n → -2 ≤ x → x ≤ (s.size : Int) + 2 → Ev (fun k => worldmintlaw07_LexerPosition.l1 k a ts (i : Int) x) true := by
  intro n
  have fin : ∀ x : Int, x = (s.size : Int) + 2 → Ev (fun k => worldmintlaw07_LexerPosition.l1 k a ts (i : Int) x) true := by
    intro x hx
    refine Ev.up ?_
    simp only [worldmintlaw07_LexerPosition.l1, hsi]
    rw [wrap_id (n := (s.size : Int) + 1) (by omega) (by omega)]
    refine Ev.pos (by omega) (Ev.pos (by omega) (Ev.neg (by omega) ?_))
    rw [wrap_succ i (by omega)]
    exact next
  induction n with
  | zero =>
    intro x h1 h2 h3
    exact fin x (by omega)
  | succ n ih =>
    intro x h1 h2 h3
    by_cases hx : x = (s.size : Int) + 2
    · exact fin x hx
    · have body : ∀ y : Int, Ev (fun k => worldmintlaw07_LexerPosition.j2 k a ts (i : Int) x y) true := by
        intro y
        refine Ev.up ?_
        simp only [worldmintlaw07_LexerPosition.j2, hsi]
        refine Ev.pos (by omega) (Ev.pos (by omega) (Ev.bind0 (lex_pos_eq s hs y) (Ev.bind (ref_pos_ev s hs y) (Ev.pos (by trivial) (Ev.pos (by trivial) ?_)))))
        rw [wrap_id (by omega) (by omega)]
        exact ih (x + 1) (by omega) (by omega) (by omega)
      refine Ev.up ?_
      simp only [worldmintlaw07_LexerPosition.l1, hsi]
      rw [wrap_id (n := (s.size : Int) + 1) (by omega) (by omega)]
      refine Ev.pos (by omega) (Ev.pos (by omega) (Ev.pos (by omega) ?_))
      by_cases h : x = -2
      · exact Ev.pos h (body a)
      · exact Ev.neg h (body x)

theorem LexerPosition : worldmintlaw07_LexerPosition.Pure := by
  intro l0 a1 a2 hl _ hw _ _
  obtain ⟨t, ht, hts⟩ := short_eq a1 40
  refine Ev.ex ?_
  simp only [worldmintlaw07_LexerPosition.f]
  refine Ev.bind (clean_ev l0 hw hl) (Ev.bind0 ht ?_)
  have hc : (⟨(cleanL l0).toArray⟩ : ByteArray).size ≤ 456 := by rw [← toList_size]; exact cleanL_len l0
  obtain ⟨c, hcc⟩ : ∃ c : ByteArray, ⟨(cleanL l0).toArray⟩ = c := ⟨_, rfl⟩
  rw [hcc] at hc ⊢
  have h2 : Ev (fun k => worldmintlaw07_LexerPosition.l0 k a2 [c, t] ((2 : Nat) : Int)) true := by
    refine Ev.up ?_
    simp only [worldmintlaw07_LexerPosition.l0]
    exact Ev.neg (by omega) (Ev.bind0 lives_eq (Ev.ok _))
  have h1 : Ev (fun k => worldmintlaw07_LexerPosition.l0 k a2 [c, t] ((1 : Nat) : Int)) true := by
    refine Ev.up ?_
    simp only [worldmintlaw07_LexerPosition.l0]
    refine Ev.pos (by omega) ?_
    exact pos_l1 a2 [c, t] 1 (by simp) (by omega) t rfl (by omega) h2 (t.size + 4) (-2) (by omega) (by omega) (by omega)
  refine Ev.up ?_
  simp only [worldmintlaw07_LexerPosition.l0]
  refine Ev.pos (by omega) ?_
  exact pos_l1 a2 [c, t] 0 (by simp) (by omega) c rfl (by omega) h1 (c.size + 4) (-2) (by omega) (by omega) (by omega)
end Go.Proofs.YtoogbggeghlkkaaDoor.Pure
