/- The walk of catalog.fits: whether a name is a word. -/
import Derived.Test.YtmahdomlmidfdaaDoorLext
namespace Go.Proofs.YtmahdomlmidfdaaDoor
open Go.RowKit Go.Shelf Go.Proofs.YtmahdomlmidfdaaDoorW.PrintWords
set_option linter.unusedVariables false

def fitsT (l : List UInt8) : List Lex.Tok → Int → Bool
  | [t], e => decide (e = 0) && (decide (t.kind = 0) && decide (t.text = l))
  | _, _ => false
/-- Whether a name is a word. -/
def fitsL (l : List UInt8) : Bool := fitsT l (Lex.tokens l).1 (Lex.tokens l).2.2

theorem fitsT_err (l : List UInt8) (ts : List Lex.Tok) {e : Int} (h : e ≠ 0) : fitsT l ts e = false := by
  unfold fitsT
  split
  · rw [decide_eq_false h]; rfl
  · rfl
theorem fitsT_len (l : List UInt8) (ts : List Lex.Tok) (e : Int) (h : ts.length ≠ 1) : fitsT l ts e = false := by
  unfold fitsT
  split
  · exact absurd rfl h
  · rfl

set_option maxHeartbeats 1000000 in
theorem cat_fits (s : ByteArray) (w : World) (hG : GOK w) : Calls Tryd.prog 36 #[.string s] w fun e w' => e = .returned (.bool (fitsL s.data.toList)) ∧ Below w.heap.size w w' := by
  have hsz := Lib.size_eq s
  by_cases hl : 8192 < s.size
  · have hf : fitsL s.data.toList = false := by
      unfold fitsL Lex.tokens
      rw [if_pos (by omega)]
      rfl
    rw [hf]
    clear hsz
    go_enter Tryd.func36, Tryd.ntmps36
    go_wp2_with (go_at_call 42; refine (lex_tokens_long s _ hl).mono ?_; rintro e w1 ⟨rfl, hb⟩)
    go_ret
    exact ⟨rfl, hb⟩
  · have hf : fitsL s.data.toList = fitsT s.data.toList (Lex.run (Lex.items s.data.toList.length s.data.toList 0) []).1 (Lex.run (Lex.items s.data.toList.length s.data.toList 0) []).2.2 := by
      unfold fitsL Lex.tokens
      rw [if_neg (by omega)]
    rw [hf]
    clear hf hsz
    obtain ⟨b, hbv⟩ : ∃ b, fitsT s.data.toList (Lex.run (Lex.items s.data.toList.length s.data.toList 0) []).1 (Lex.run (Lex.items s.data.toList.length s.data.toList 0) []).2.2 = b := ⟨_, rfl⟩
    rw [hbv]
    have HV := Lib.hid hbv
    clear hbv
    go_enter Tryd.func36, Tryd.ntmps36
    go_wp2_with fail
    refine (lex_tokens s _ (by omega) hG).mono ?_
    rintro e w1 ⟨v, toks, k, er, hr, rfl, ho, hb⟩
    have hbv : fitsT s.data.toList toks er = b := by have := HV.out; rw [hr] at this; exact this
    clear hr HV
    have HB := Lib.hid hb
    clear hb
    obtain ⟨hn, ho⟩ := ho
    obtain ⟨A, cap, hv⟩ : ∃ A cap, v = .slice A toks.length cap := by
      rcases ho with ⟨h, h0⟩ | ⟨g, cap, cur, h, _⟩
      · exact ⟨none, 0, by rw [h, h0]⟩
      · exact ⟨_, _, h⟩
    by_cases he : er = 0
    · have he1 : ((er : Int) == 0) = true := by simpa using he
      by_cases h1 : toks.length = 1
      · obtain ⟨t, rfl⟩ := List.length_eq_one_iff.1 h1
        rcases ho with ⟨_, h0⟩ | ⟨g, cap, cur, rfl, hg, hh, hc1, hc2, hc3, hc4⟩
        · exact absurd h0 (by simp)
        clear hv
        have hcell : ∀ (i : Nat) (u : Value), (tokc t)[i]? = some u → w1.cell? ⟨g, i, none⟩ = some u := by
          intro i u hu
          have hi : i < 4 := by
            rcases Nat.lt_or_ge i 4 with h | h
            · exact h
            · rw [List.getElem?_eq_none (by simpa [tokc] using h)] at hu; cases hu
          have h2 : cur.toList[i]? = some u := by
            have h3 : (cur.toList.take (1 * 4))[i]? = some u := by
              rw [show cur.toList.take (1 * 4) = [t].flatMap tokc from hc4]
              simpa using hu
            rw [List.getElem?_take] at h3
            simpa [hi] using h3
          simp only [World.cell?, hh]
          simpa using h2
        have hk := hcell 0 _ rfl
        have ht := hcell 1 _ rfl
        have hbe : b = (decide (t.kind = 0) && decide (t.text = s.data.toList)) := by rw [← hbv, he]; rfl
        have HBE := Lib.hid hbe
        clear hcell hc4 hh hn h1 hbv he hbe
        by_cases hk0 : t.kind = 0
        · have hk1 : ((t.kind : Int) == 0) = true := by simpa using hk0
          have hbb : b = decide (t.text = s.data.toList) := by rw [HBE.out, decide_eq_true hk0, Bool.true_and]
          have HBB := Lib.hid hbb
          clear hbb HBE hk0
          go_wp2_with fail
          go_ret
          refine ⟨?_, HB.out⟩
          rw [HBB.out]
          show Ending.returned (.bool (t.text == s.toList)) = _
          rw [Lib.toList_data, show (t.text == s.data.toList) = decide (t.text = s.data.toList) from by rw [Bool.eq_iff_iff]; simp]
        · have hk1 : ((t.kind : Int) == 0) = false := by simpa using hk0
          have hbb : b = false := by rw [HBE.out, decide_eq_false hk0]; rfl
          clear HBE hk0
          go_wp2_with fail
          go_ret
          exact ⟨by rw [hbb]; rfl, HB.out⟩
      · have hbb : b = false := by rw [← hbv]; exact fitsT_len _ _ _ h1
        have h2 : ((toks.length : Int) == 1) = false := by simp; omega
        clear hbv ho hn he h1
        subst hv
        go_wp2_with fail
        go_ret
        exact ⟨by rw [hbb]; rfl, HB.out⟩
    · have hbb : b = false := by rw [← hbv]; exact fitsT_err _ _ he
      have he1 : ((er : Int) == 0) = false := by simpa using he
      clear hbv ho hn he
      subst hv
      go_wp2_with fail
      go_ret
      exact ⟨by rw [hbb]; rfl, HB.out⟩
end Go.Proofs.YtmahdomlmidfdaaDoor
