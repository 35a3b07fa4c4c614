/- What the law WideOrder computes is true for every input. -/
import Derived.Test.YtlceokefdihdkaaGreatDoorXx0
import Derived.Test.YtlceokefdihdkaaGreatDoorXx1
import Derived.Test.YtlceokefdihdkaaGreatDoorXx10
import Derived.Test.YtlceokefdihdkaaGreatDoorXx2
import Derived.Test.YtlceokefdihdkaaGreatDoorXx3
import Derived.Test.YtlceokefdihdkaaGreatDoorXx4
import Derived.Test.YtlceokefdihdkaaGreatDoorXx5
import Derived.Test.YtlceokefdihdkaaGreatDoorXx6
import Derived.Test.YtlceokefdihdkaaGreatDoorXx7
import Derived.Test.YtlceokefdihdkaaGreatDoorXx8
import Derived.Test.YtlceokefdihdkaaGreatDoorXx9
import Derived.Test.YtlceokefdihdkaaGreatDoorPw
namespace Go.Proofs.YtlceokefdihdkaaGreatDoor.Pure
open Go.RowKit Go.Proofs.YtlceokefdihdkaaGreatDoorW.PrintWords Go.Proofs.YtlceokefdihdkaaGreatDoor Go.Proofs.YtlceokefdihdkaaGreatDoor.X
set_option linter.unusedSimpArgs false
set_option linter.unusedVariables false

theorem around_pos {n m : Int} (h0 : 0 ≤ n) (h1 : n ≤ 9223372036854775807) (hm : 0 < m) : worldmintref01_Around.f n m = some (n % m) := by
  rw [around_eq n m (wf_i64 (by omega) h1) hm]
  unfold aroundOf
  rw [if_neg (by omega), tmod_pos h0]
/-- One number of the list is ordered as the reference orders it. -/
theorem order_step {n an bn : Bool} {D a b : List Int} {x v : Int} (ha : RI 10000 300 an a x) (hb : RI 4294967296 512 bn b x) (h : RI 10000 300 n D v) (x6 : List S25) (i : Int) (h0 : 0 ≤ i) (h2 : i < 3) (hl : i < (x6.length : Int)) (hx : rd_T25 x6 i = ⟨n, D⟩) {r : Bool}
    (hr : Ev (fun k => worldmintlaw05_WideOrder.l0 k x6 true (wrap64 (i + 1)) an a bn b) r) : Ev (fun k => worldmintlaw05_WideOrder.l0 k x6 true i an a bn b) r := by
  obtain ⟨m, E, g1, r1⟩ := wider_gives h (by decide) (by decide) (h.inL (by decide))
  refine Ev.up ?_
  simp only [worldmintlaw05_WideOrder.l0]
  rw [hx]
  refine Ev.pos h2 (Ev.pos h0 (Ev.pos hl (Ev.bind g1 (Ev.pos (by trivial) (Ev.pos (by trivial) ?_)))))
  refine Ev.bind (xCompare_ev hb r1) (Ev.bind (rcompare_ev ha h (by decide) (by decide)) (Ev.pos rfl ?_))
  exact Ev.bind (xCompare_ev r1 hb) (Ev.bind (rcompare_ev h ha (by decide) (by decide)) (Ev.pos rfl hr))
theorem WideOrder : worldmintlaw05_WideOrder.Pure := by
  intro l0 a1 hm h8 hw h1
  obtain ⟨x, n1, a, g1, r1⟩ := number_gives hw 0 (by omega)
  obtain ⟨y, n2, b, g2, r2⟩ := number_gives hw 6 (by omega)
  have hA := around_eq a1 3 h1 (by omega)
  have hA1 := around_bd a1 3 (by omega)
  have hB : worldmintref01_Bound.f a1 1 = some (aroundOf a1 3 - 1) := by
    unfold worldmintref01_Bound.f
    rw [show wrap64 (wrap64 (2 * 1) + 1) = 3 by decide +kernel, hA, Option.bind_some, wrap_id (by omega) (by omega)]
  generalize aroundOf a1 3 = p at *
  obtain ⟨n3, c, g3, r3⟩ := of_small (n := p - 1) (by omega) (by omega)
  obtain ⟨n4, d, g4, r4⟩ := radd_gives r1 (r3.mono (show 1 ≤ 263 by decide)) (by decide)
  obtain ⟨n5, e, g5, r5⟩ := rneg_gives r1 (by decide)
  obtain ⟨m, E, gW, rW⟩ := wider_gives r1 (by decide) (by decide) (r1.inL (by decide))
  obtain ⟨m2, hneg, rN⟩ := xneg_run rW
  refine Ev.ex (f := fun k => worldmintlaw05_WideOrder.f k l0 a1) ?_
  unfold worldmintlaw05_WideOrder.f
  refine Ev.bind g1 (Ev.bind g2 (Ev.bind0 hB (Ev.bind g3 (Ev.bind g4 (Ev.bind g5 (Ev.bind gW ?_))))))
  have s1 := r1.mono (show 263 ≤ 300 by decide)
  refine order_step s1 rW (r2.mono (by decide)) _ 0 (by omega) (by omega) (by simp) rfl ?_
  rw [show wrap64 (0 + 1) = 1 by decide +kernel]
  refine order_step s1 rW (r4.mono (by decide)) _ 1 (by omega) (by omega) (by simp) rfl ?_
  rw [show wrap64 (1 + 1) = 2 by decide +kernel]
  refine order_step s1 rW (r5.mono (by decide)) _ 2 (by omega) (by omega) (by simp) rfl ?_
  rw [show wrap64 (2 + 1) = 3 by decide +kernel]
  refine Ev.up ?_
  simp only [worldmintlaw05_WideOrder.l0]
  refine Ev.neg (by omega) (Ev.bind (xsign_ev rW) (Ev.bind (rcompare_ev r1 (RI.zero _ 1) (by decide) (by decide)) (Ev.pos rfl ?_)))
  refine Ev.bind0 hneg (Ev.bind g5 (Ev.bind (equal_ev rN r5 (by decide)) (Ev.pos rfl ?_)))
  exact Ev.bind lives_ev (Ev.ok _)
end Go.Proofs.YtlceokefdihdkaaGreatDoor.Pure
