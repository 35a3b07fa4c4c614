/- What the law LexerLong computes is true for every input. -/
import Derived.Test.YtoogbggeghlkkaaDoorXx8
import Derived.Test.YtoogbggeghlkkaaDoorPgen
namespace Go.Proofs.YtoogbggeghlkkaaDoor.Pure
open Go.RowKit Go.Proofs.YtoogbggeghlkkaaDoor.X

theorem long_l1 : ∀ (n : Nat) (s : ByteArray), s.size + n ≤ 100000 → Ev (fun k => worldmintlaw07_LexerLong.l1 k s (n : Int)) true := by
  intro n
  induction n with
  | zero =>
    intro s h
    refine Ev.up ?_
    simp only [worldmintlaw07_LexerLong.l1]
    exact Ev.neg (by omega) (Ev.bind (agrees_ev _) (Ev.pos (by trivial) (Ev.bind0 lives_eq (Ev.ok _))))
  | succ n ih =>
    intro s h
    refine Ev.up ?_
    simp only [worldmintlaw07_LexerLong.l1]
    refine Ev.pos (by omega) (Ev.pos (by omega) ?_)
    have e : wrap64 (((n + 1 : Nat) : Int) - 1) = (n : Int) := by rw [wrap_id (by omega) (by omega)]; omega
    rw [e]
    have hx : (⟨#[120]⟩ : ByteArray).size = 1 := rfl
    exact ih _ (by rw [ByteArray.size_append, hx]; omega)

theorem long_l0 (a : Int) (ha : (Lit.int .i64 a).wf = true) (p : ByteArray) (hp : p.size ≤ 10) : ∀ (n i : Nat) (s : ByteArray), 818 - i ≤ n → i ≤ 818 → s.size ≤ 10 * i → Ev (fun k => worldmintlaw07_LexerLong.l0 k a p s (i : Int)) true := by
  intro n
  have fin : ∀ (s : ByteArray), s.size ≤ 8180 → Ev (fun k => worldmintlaw07_LexerLong.l0 k a p s ((818 : Nat) : Int)) true := by
    intro s hs
    refine Ev.up ?_
    simp only [worldmintlaw07_LexerLong.l0]
    have hb := around_bd a 16 (by decide)
    refine Ev.neg (by omega) (Ev.bind0 (around_eq a 16 ha (by decide)) ?_)
    rw [wrap_id (by omega) (by omega)]
    obtain ⟨m, hm⟩ : ∃ m : Nat, aroundOf a 16 + 5 = m := ⟨(aroundOf a 16 + 5).toNat, by omega⟩
    rw [hm]
    exact long_l1 m s (by omega)
  induction n with
  | zero =>
    intro i s h1 h2 h3
    have : i = 818 := by omega
    subst this
    exact fin s (by omega)
  | succ n ih =>
    intro i s h1 h2 h3
    by_cases h : i = 818
    · subst h
      exact fin s (by omega)
    · refine Ev.up ?_
      simp only [worldmintlaw07_LexerLong.l0]
      refine Ev.pos (by omega) (Ev.pos (by omega) ?_)
      rw [wrap_succ i (by omega)]
      exact ih (i + 1) _ (by omega) (by omega) (by rw [ByteArray.size_append]; omega)

def longList : List ByteArray := [(⟨#[32, 32, 32, 32, 32, 32, 32, 32, 32, 32]⟩ : ByteArray), (⟨#[97, 98, 99, 100, 101, 102, 103, 104, 105, 32]⟩ : ByteArray), (⟨#[35, 35, 35, 35, 35, 35, 35, 35, 35, 10]⟩ : ByteArray), (⟨#[49, 50, 51, 52, 53, 54, 55, 56, 58, 32]⟩ : ByteArray)]
theorem longList_size : ∀ x ∈ longList, x.size ≤ 10 := by decide
theorem LexerLong : worldmintlaw07_LexerLong.Pure := by
  intro a0 a1 hw0 hw1
  refine Ev.ex ?_
  simp only [worldmintlaw07_LexerLong.f]
  have hb := around_bd a1 4 (by decide)
  have hl : (longList.length : Int) = 4 := by decide
  refine Ev.bind0 (x := longList) rfl (Ev.bind0 (around_eq a1 4 hw1 (by decide)) (Ev.pos hb.1 (Ev.pos (by rw [hl]; exact hb.2) ?_)))
  refine long_l0 a0 hw0 _ ?_ 818 0 ⟨#[]⟩ (by omega) (by omega) (by decide)
  refine longList_size _ (getD_mem ?_)
  show _ < 4
  omega
end Go.Proofs.YtoogbggeghlkkaaDoor.Pure
