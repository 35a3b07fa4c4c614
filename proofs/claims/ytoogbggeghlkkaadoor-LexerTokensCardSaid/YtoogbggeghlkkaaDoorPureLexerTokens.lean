/- What the law LexerTokens computes is true for every input. -/
import Derived.Test.YtoogbggeghlkkaaDoorXx6
import Derived.Test.YtoogbggeghlkkaaDoorPgen
namespace Go.Proofs.YtoogbggeghlkkaaDoor.Pure
open Go.RowKit Go.Proofs.YtoogbggeghlkkaaDoor.X

theorem LexerTokens : worldmintlaw07_LexerTokens.Pure := by
  intro l0 a1 hl _ hw _
  obtain ⟨t, ht, _⟩ := short_eq a1 60
  refine Ev.ex ?_
  simp only [worldmintlaw07_LexerTokens.f]
  refine Ev.bind (text_ev l0 hw hl) (Ev.bind (agrees_ev _) (Ev.pos (by trivial) (Ev.bind (clean_ev l0 hw hl) (Ev.bind (agrees_ev _) (Ev.pos (by trivial) ?_)))))
  exact Ev.bind0 ht (Ev.bind (agrees_ev _) (Ev.pos (by trivial) (Ev.bind0 lives_eq (Ev.ok _))))
end Go.Proofs.YtoogbggeghlkkaaDoor.Pure
