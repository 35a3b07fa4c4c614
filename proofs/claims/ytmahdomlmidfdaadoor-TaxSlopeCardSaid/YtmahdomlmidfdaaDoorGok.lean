/- What the package-level variables that are read hold; nothing that lay below is changed by a call. -/
import Derived.Test.YtmahdomlmidfdaaDoorProg
import Derived.Below
import Derived.WalkKit
import Derived.Test.YtmahdomlmidfdaaDoorWWords
namespace Go.Proofs.YtmahdomlmidfdaaDoor
open Go.RowKit Go.Proofs.YtmahdomlmidfdaaDoorW.PrintWords

structure GBase (w : World) : Prop where
  maxLen : ∃ m, w.cell? ⟨4, 0, none⟩ = some (.int .i64 m)
  errSyntax : ∃ t p, w.cell? ⟨2, 0, none⟩ = some (.iface t p)
  errRange : ∃ t p, w.cell? ⟨3, 0, none⟩ = some (.iface t p)

def GOK (w : World) : Prop := ∃ W0 : World, GBase W0 ∧ Below W0.heap.size W0 w

theorem cell_lt {w : World} {b o : Nat} {v : Value} (h : w.cell? ⟨b, o, none⟩ = some v) : b < w.heap.size := by
  unfold World.cell? at h
  split at h
  · rename_i h1
    exact (Array.getElem?_eq_some_iff.1 h1).1
  · cases h

theorem GOK.of_base {w : World} (h : GBase w) : GOK w := ⟨w, h, Below.refl _ _⟩
theorem GOK.of_below {w w' : World} (h : GOK w) (hb : Below w.heap.size w w') : GOK w' := by
  obtain ⟨W0, h0, hb0⟩ := h
  exact ⟨W0, h0, hb0.trans (hb.mono hb0.size)⟩
theorem GOK.drewN {w : World} {n : Nat} (h : GOK w) : GOK (w.drewN n) := h.of_below (pw_below_drewN (Below.refl _ _) _)
theorem GOK.drew {w : World} (h : GOK w) : GOK w.drew := h.of_below (below_drew1 (Below.refl _ _))
theorem GOK.base {w : World} (h : GOK w) : GBase w := by
  obtain ⟨W0, h0, hb⟩ := h
  refine ⟨?_, ?_, ?_⟩
  · obtain ⟨m, hm⟩ := h0.maxLen; exact ⟨m, (hb.cell (p := ⟨4, 0, none⟩) (cell_lt hm)).trans hm⟩
  · obtain ⟨m, p, hm⟩ := h0.errSyntax; exact ⟨m, p, (hb.cell (p := ⟨2, 0, none⟩) (cell_lt hm)).trans hm⟩
  · obtain ⟨m, p, hm⟩ := h0.errRange; exact ⟨m, p, (hb.cell (p := ⟨3, 0, none⟩) (cell_lt hm)).trans hm⟩
end Go.Proofs.YtmahdomlmidfdaaDoor
