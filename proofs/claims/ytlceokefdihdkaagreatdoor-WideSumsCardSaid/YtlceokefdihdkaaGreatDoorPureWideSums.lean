/- What the law WideSums computes is true for every input. -/
import Derived.Test.YtlceokefdihdkaaGreatDoorXx0
import Derived.Test.YtlceokefdihdkaaGreatDoorXx1
import Derived.Test.YtlceokefdihdkaaGreatDoorXx10
import Derived.Test.YtlceokefdihdkaaGreatDoorXx11
import Derived.Test.YtlceokefdihdkaaGreatDoorXx2
import Derived.Test.YtlceokefdihdkaaGreatDoorXx3
import Derived.Test.YtlceokefdihdkaaGreatDoorXx4
import Derived.Test.YtlceokefdihdkaaGreatDoorXx5
import Derived.Test.YtlceokefdihdkaaGreatDoorXx6
import Derived.Test.YtlceokefdihdkaaGreatDoorXx7
import Derived.Test.YtlceokefdihdkaaGreatDoorXx8
import Derived.Test.YtlceokefdihdkaaGreatDoorXx9
import Derived.Test.YtlceokefdihdkaaGreatDoorPw
namespace Go.Proofs.YtlceokefdihdkaaGreatDoor.Pure
open Go.RowKit Go.Proofs.YtlceokefdihdkaaGreatDoorW.PrintWords Go.Proofs.YtlceokefdihdkaaGreatDoor Go.Proofs.YtlceokefdihdkaaGreatDoor.X
set_option linter.unusedSimpArgs false
set_option linter.unusedVariables false

theorem WideSums : worldmintlaw05_WideSums.Pure := by
  intro l0 hm h8 hw
  obtain ⟨x, n1, a, ga, ra⟩ := number_gives hw 0 (by omega)
  obtain ⟨y, n2, b, gb, rb⟩ := number_gives hw 6 (by omega)
  obtain ⟨m1, A, gA, rA⟩ := wider_gives ra (by decide) (by decide) (ra.inL (by decide))
  obtain ⟨m2, B, gB, rB⟩ := wider_gives rb (by decide) (by decide) (rb.inL (by decide))
  obtain ⟨n3, c, gc, rc⟩ := radd_gives ra rb (by decide)
  obtain ⟨n4, d, gd, rd⟩ := rsub_gives ra rb (by decide)
  obtain ⟨m3, C, gC, rC⟩ := xadd_gives rA rB (rc.inL (by decide))
  obtain ⟨m4, D, gD, rD⟩ := xsub_gives rA rB (rd.inL (by decide))
  refine Ev.ex (f := fun k => worldmintlaw05_WideSums.f k l0) ?_
  unfold worldmintlaw05_WideSums.f
  refine Ev.bind ga (Ev.bind gb (Ev.bind gA (Ev.bind gB (Ev.bind gC (Ev.bind gD ?_)))))
  refine Ev.pos rfl (Ev.pos rfl (Ev.pos rfl (Ev.pos rfl (Ev.bind gc (Ev.bind (equal_ev rC rc (by decide)) (Ev.pos rfl ?_))))))
  refine Ev.bind gd (Ev.bind (equal_ev rD rd (by decide)) (Ev.pos rfl ?_))
  refine Ev.bind (equal_ev rA ra (by decide)) (Ev.pos rfl (Ev.bind (equal_ev rB rb (by decide)) (Ev.pos rfl ?_)))
  exact Ev.bind lives_ev (Ev.ok _)
end Go.Proofs.YtlceokefdihdkaaGreatDoor.Pure
