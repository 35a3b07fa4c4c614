/- What the law LexerBytes computes is true for every input. -/
import Derived.Test.YtoogbggeghlkkaaDoorXx7
import Derived.Test.YtoogbggeghlkkaaDoorPgen
namespace Go.Proofs.YtoogbggeghlkkaaDoor.Pure
open Go.RowKit Go.Proofs.YtoogbggeghlkkaaDoor.X

theorem LexerBytes : worldmintlaw07_LexerBytes.Pure := by
  intro l0 a1 a2 a3 hl _ hw hw1 _
  refine Ev.ex ?_
  simp only [worldmintlaw07_LexerBytes.f]
  refine Ev.bind (clean_ev l0 hw hl) ?_
  have hc : (⟨(cleanL l0).toArray⟩ : ByteArray).size ≤ 456 := by rw [← toList_size]; exact cleanL_len l0
  obtain ⟨c, hcc⟩ : ∃ c : ByteArray, ⟨(cleanL l0).toArray⟩ = c := ⟨_, rfl⟩
  rw [hcc] at hc ⊢
  have hb := around_bd a1 ((c.size : Int) + 1) (by omega)
  obtain ⟨t, ht⟩ : ∃ t, aroundOf a1 ((c.size : Int) + 1) = t := ⟨_, rfl⟩
  have hx : (⟨#[120]⟩ : ByteArray).size = 1 := rfl
  have hn : (strOfNums [a2]).size = 1 := strOfNums_size _
  refine Ev.pos (by omega) (Ev.bind0 (x := t) (by rw [around_eq a1 _ hw1 (by omega), ht]) ?_)
  rw [ht] at hb
  have hwr : wrap64 (t + 1) = t + 1 := wrap_id (by omega) (by omega)
  cases a3 with
  | true =>
    refine Ev.pos (by trivial) (Ev.pos hb.1 (Ev.pos (by omega) (Ev.bind0 rfl (Ev.pos ?_ (Ev.pos ?_ (Ev.bind (agrees_ev _) (Ev.pos (by trivial) (Ev.bind0 lives_eq (Ev.ok _)))))))))
    · simp only [ByteArray.size_extract, ByteArray.size_append, hx, hn]; omega
    · simp only [ByteArray.size_extract, ByteArray.size_append, hx, hn]; omega
  | false =>
    rw [hwr]
    refine Ev.neg (by decide) (Ev.pos hb.1 (Ev.pos (by omega) (Ev.bind0 rfl (Ev.pos ?_ (Ev.pos (by omega) (Ev.pos (by omega) (Ev.pos ?_ (Ev.bind (agrees_ev _) (Ev.pos (by trivial) (Ev.bind0 lives_eq (Ev.ok _)))))))))))
    · simp only [ByteArray.size_extract, ByteArray.size_append, hx, hn]; omega
    · simp only [ByteArray.size_extract, ByteArray.size_append, hx, hn]; omega
end Go.Proofs.YtoogbggeghlkkaaDoor.Pure
