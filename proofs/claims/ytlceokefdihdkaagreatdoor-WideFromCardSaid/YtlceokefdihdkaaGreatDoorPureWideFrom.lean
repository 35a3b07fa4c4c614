/- What the law WideFrom computes is true for every input. -/
import Derived.Test.YtlceokefdihdkaaGreatDoorXx
import Derived.Test.YtlceokefdihdkaaGreatDoorXx0
import Derived.Test.YtlceokefdihdkaaGreatDoorXx1
import Derived.Test.YtlceokefdihdkaaGreatDoorXx10
import Derived.Test.YtlceokefdihdkaaGreatDoorXx2
import Derived.Test.YtlceokefdihdkaaGreatDoorXx3
import Derived.Test.YtlceokefdihdkaaGreatDoorXx4
import Derived.Test.YtlceokefdihdkaaGreatDoorXx5
import Derived.Test.YtlceokefdihdkaaGreatDoorXx6
import Derived.Test.YtlceokefdihdkaaGreatDoorXx7
import Derived.Test.YtlceokefdihdkaaGreatDoorXx8
import Derived.Test.YtlceokefdihdkaaGreatDoorXx9
import Derived.Test.YtlceokefdihdkaaGreatDoorPw
import Derived.Test.YtlceokefdihdkaaGreatDoorPw12
namespace Go.Proofs.YtlceokefdihdkaaGreatDoor.Pure
open Go.RowKit Go.Proofs.YtlceokefdihdkaaGreatDoorW.PrintWords Go.Proofs.YtlceokefdihdkaaGreatDoor Go.Proofs.YtlceokefdihdkaaGreatDoor.X
set_option linter.unusedSimpArgs false
set_option linter.unusedVariables false

theorem around_pos {n m : Int} (h0 : 0 ≤ n) (h1 : n ≤ 9223372036854775807) (hm : 0 < m) : worldmintref01_Around.f n m = some (n % m) := by
  rw [around_eq n m (wf_i64 (by omega) h1) hm]
  unfold aroundOf
  rw [if_neg (by omega), tmod_pos h0]
/-- A number near 2^63. -/
theorem near63 {a0 : Int} (h0 : 0 ≤ a0) (h1 : a0 < 56) (h3 : a0 % 4 = 3) : ∃ z, GivesR (fun k => worldmintref05_Near.f k a0) 257 z := by
  obtain ⟨n1, b1, g1, r1⟩ := power_small 63 (by omega)
  obtain ⟨n2, b2, g2, r2⟩ := of_small (n := a0 % 28 / 4 - 3) (by omega) (by omega)
  obtain ⟨n3, b3, g3, r3⟩ := radd_gives r1 (r2.mono (show 1 ≤ 256 by omega)) (by omega)
  obtain ⟨n4, b4, g4, r4⟩ := rneg_gives r3 (by omega)
  have e2 : wrap64 (wrap64 (Int.tdiv (a0 % 28) 4) - 3) = a0 % 28 / 4 - 3 := by
    rw [tdiv_pos (by omega), wrap_id (n := a0 % 28 / 4) (by omega) (by omega), wrap_id (by omega) (by omega)]
  have e3 : wrap64 (Int.tdiv a0 28) = a0 / 28 := by rw [tdiv_pos (by omega), wrap_id (by omega) (by omega)]
  have e4 : Int.tmod (a0 % 28) 4 = 3 := by rw [tmod_pos (by omega)]; omega
  have hrd : rd ([16384, 16383, 8192, 63] : List Int) 3 = ((63 : Nat) : Int) := by decide
  have hA := around_pos (m := 28) h0 (by omega) (by omega)
  have hB := around_pos (n := a0 / 28) (m := 2) (by omega) (by omega) (by omega)
  by_cases hs : a0 / 28 % 2 = 1
  · refine ⟨_, n4, b4, ?_, r4⟩
    unfold worldmintref05_Near.f
    refine Ev.bind0 hA (Ev.bind0 rfl ?_)
    rw [e4, e2, e3, hrd]
    exact Ev.pos (by omega) (Ev.pos (by decide) (Ev.bind g1 (Ev.bind g2 (Ev.bind g3 (Ev.bind0 hB (Ev.pos hs (Ev.bind g4 ((Ev.ok _).cast rfl))))))))
  · refine ⟨_, n3, b3, ?_, r3⟩
    unfold worldmintref05_Near.f
    refine Ev.bind0 hA (Ev.bind0 rfl ?_)
    rw [e4, e2, e3, hrd]
    exact Ev.pos (by omega) (Ev.pos (by decide) (Ev.bind g1 (Ev.bind g2 (Ev.bind g3 (Ev.bind0 hB (Ev.neg hs ((Ev.ok _).cast rfl)))))))
/-- One number of the list agrees. -/
theorem from_step {n : Bool} {D : List Int} {z : Int} (h : RI 10000 300 n D z) (x10 : List S25) (i : Int) (h0 : 0 ≤ i) (h2 : i < 2) (hl : i < (x10.length : Int)) (hx : rd_T25 x10 i = ⟨n, D⟩) {r : Bool} (hr : Ev (fun k => worldmintlaw05_WideFrom.l0 k x10 (wrap64 (i + 1))) r) : Ev (fun k => worldmintlaw05_WideFrom.l0 k x10 i) r := by
  obtain ⟨m, E, g1, r1⟩ := wider_gives h (by decide) (by decide) (h.inL (by decide))
  refine Ev.up ?_
  simp only [worldmintlaw05_WideFrom.l0]
  rw [hx]
  refine Ev.pos h2 (Ev.pos h0 (Ev.pos hl (Ev.bind g1 (Ev.bind (xsmall_ev r1) (Ev.bind (rsmall_ev h (by decide)) (Ev.pos rfl (Ev.pos rfl (Ev.neg (by simp) hr))))))))
theorem WideFrom : worldmintlaw05_WideFrom.Pure := by
  intro a0 l1 a2 h0 hm h8 hw h2
  have hb := i64_bounds h0
  obtain ⟨m, D, gF, rF⟩ := xfrom_gives hb.1 (by omega)
  obtain ⟨n1, b1, g1, r1⟩ := of_any hb.1 (show a0 < 9223372036854775808 by omega)
  obtain ⟨x, n2, b2, g2, r2⟩ := number_gives hw 0 (by omega)
  have hA := around_eq a2 7 h2 (by omega)
  have hA1 := around_bd a2 7 (by omega)
  have hb2 := i64_bounds h2
  have h27 : (Lit.int .i64 (wrap64 (Int.tdiv a2 7))).wf = true := wf_i64 (by unfold wrap64; omega) (by unfold wrap64; omega)
  have hB := around_eq _ 2 h27 (by omega)
  have hB1 := around_bd (wrap64 (Int.tdiv a2 7)) 2 (by omega)
  generalize aroundOf a2 7 = p at *
  generalize aroundOf (wrap64 (Int.tdiv a2 7)) 2 = q at *
  have e1 : wrap64 (wrap64 (wrap64 (4 * p) + 3) + wrap64 (28 * q)) = 4 * p + 3 + 28 * q := by
    rw [wrap_id (n := 4 * p) (by omega) (by omega), wrap_id (n := 4 * p + 3) (by omega) (by omega), wrap_id (n := 28 * q) (by omega) (by omega), wrap_id (by omega) (by omega)]
  obtain ⟨z, n3, b3, g3, r3⟩ := near63 (a0 := 4 * p + 3 + 28 * q) (by omega) (by omega) (by omega)
  have hs := xsmall_ev rF
  have hsz : smallZ a0 = (a0, true) := by unfold smallZ; rw [if_pos (by omega)]
  rw [hsz] at hs
  refine Ev.ex (f := fun k => worldmintlaw05_WideFrom.f k a0 l1 a2) ?_
  unfold worldmintlaw05_WideFrom.f
  refine Ev.bind gF (Ev.bind hs (Ev.pos rfl (Ev.pos rfl (Ev.bind g1 (Ev.bind (equal_ev rF r1 (by decide)) ?_)))))
  refine Ev.up ?_
  simp only [worldmintlaw05_WideFrom.j0]
  refine Ev.neg (by simp) (Ev.bind g2 (Ev.bind0 hA (Ev.bind0 hB ?_)))
  rw [e1]
  refine Ev.bind g3 ?_
  refine from_step (r2.mono (by decide)) _ 0 (by omega) (by omega) (by simp) rfl ?_
  rw [show wrap64 (0 + 1) = 1 by decide +kernel]
  refine from_step (r3.mono (by decide)) _ 1 (by omega) (by omega) (by simp) rfl ?_
  rw [show wrap64 (1 + 1) = 2 by decide +kernel]
  refine Ev.up ?_
  simp only [worldmintlaw05_WideFrom.l0]
  exact Ev.neg (by omega) (Ev.bind lives_ev (Ev.ok _))
end Go.Proofs.YtlceokefdihdkaaGreatDoor.Pure
