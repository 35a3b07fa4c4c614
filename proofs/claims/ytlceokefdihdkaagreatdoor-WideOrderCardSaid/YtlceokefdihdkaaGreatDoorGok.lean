/- What the package-level variables that are read hold; nothing that lay below is changed by a call. -/
import Derived.Test.YtlceokefdihdkaaGreatDoorProg
import Derived.Below
import Derived.WalkKit
import Derived.Lib.LaidTab
import Derived.Lib.ItoaMem
import Derived.Test.YtlceokefdihdkaaGreatDoorWWords
namespace Go.Proofs.YtlceokefdihdkaaGreatDoor
open Go.RowKit Go.Proofs.YtlceokefdihdkaaGreatDoorW.PrintWords

structure GBase (w : World) : Prop where
  pow10 : Lib.TabIs Tryz.prog w "internal/strconv.uint64pow10" .u64 Lib.pow10Tab

def GOK (w : World) : Prop := ∃ W0 : World, (4 < W0.heap.size ∧ GBase W0) ∧ Below W0.heap.size W0 w

theorem GOK.of_base {w : World} (h4 : 4 < w.heap.size) (h : GBase w) : GOK w := ⟨w, ⟨h4, h⟩, Below.refl _ _⟩
theorem GOK.of_below {w w' : World} (h : GOK w) (hb : Below w.heap.size w w') : GOK w' := by
  obtain ⟨W0, h0, hb0⟩ := h
  exact ⟨W0, h0, hb0.trans (hb.mono hb0.size)⟩
theorem GOK.drewN {w : World} {n : Nat} (h : GOK w) : GOK (w.drewN n) := h.of_below (pw_below_drewN (Below.refl _ _) _)
theorem GOK.drew {w : World} (h : GOK w) : GOK w.drew := h.of_below (below_drew1 (Below.refl _ _))
theorem GOK.base {w : World} (h : GOK w) : GBase w := by
  obtain ⟨W0, ⟨h4, h0⟩, hb⟩ := h
  have hg : Tryz.prog.globalNamed "internal/strconv.uint64pow10" = some 4 := by kernel_rfl
  have e := h0.pow10
  refine ⟨?_⟩
  unfold Lib.TabIs World.var? at e ⊢
  rw [hg] at e ⊢
  simp only [Option.bind_some] at e ⊢
  rw [hb.block 4 h4]
  exact e
end Go.Proofs.YtlceokefdihdkaaGreatDoor
