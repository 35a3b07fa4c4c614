-- Written by a program of this session (xprint) out of the translation: Lean checks it.
import Derived.Test.YtlceokefdihdkaaGreatDoorXx0
import Derived.Test.YtlceokefdihdkaaGreatDoorXx1
import Derived.Test.YtlceokefdihdkaaGreatDoorXx5
namespace Go.Proofs.YtlceokefdihdkaaGreatDoor.X
open Go.RowKit Go.Proofs.YtlceokefdihdkaaGreatDoorW.PrintWords Go.Proofs.YtlceokefdihdkaaGreatDoorW.PrintLast Go.Proofs.YtlceokefdihdkaaGreatDoorW.PrintMore
attribute [local go_sem] max2_int min2_int max_two min_two max_three min_three max_four min_four   -- for this text's walks alone
set_option linter.unusedVariables false
set_option linter.unusedSimpArgs false

/-! ### worldmintref05_Parse: function 17 -/
mutual
def worldmintref05_Parse.j0 : Nat → ByteArray → Bool → Option (Bool × List Int × Int)
 | 0, _, _ => none
 | k + 1, x0, x4 => if x4 = true then (if 1 ≤ (x0.size : Int) then (worldmintref05_Parse.j1 k x4 (x0.extract 1 x0.size)) else (none)) else (worldmintref05_Parse.j1 k x4 x0)
def worldmintref05_Parse.j1 : Nat → Bool → ByteArray → Option (Bool × List Int × Int)
 | 0, _, _ => none
 | k + 1, x4, x5 => if (x5.size : Int) = 0 then (worldmintref05_Parse.j2 k x4 x5 true) else (if 0 < (x5.size : Int) then (if (bt x5 0) = 48 then (if x4 = true then (worldmintref05_Parse.j2 k x4 x5 true) else (worldmintref05_Parse.j2 k x4 x5 (decide ((x5.size : Int) > 1)))) else (worldmintref05_Parse.j2 k x4 x5 false)) else (none))
def worldmintref05_Parse.j2 : Nat → Bool → ByteArray → Bool → Option (Bool × List Int × Int)
 | 0, _, _, _ => none
 | k + 1, x4, x5, x44 => if x44 = true then (some (false, ([] : List Int), 2)) else (worldmintref05_Parse.l0 k x4 x5 0)
def worldmintref05_Parse.l0 : Nat → Bool → ByteArray → Int → Option (Bool × List Int × Int)
 | 0, _, _, _ => none
 | k + 1, x4, x5, x6 => if x6 < (x5.size : Int) then (if 0 ≤ x6 then (if (bt x5 x6) < 48 then (some (false, ([] : List Int), 2)) else (if (bt x5 x6) > 57 then (some (false, ([] : List Int), 2)) else (worldmintref05_Parse.l0 k x4 x5 (wrap64 (x6 + 1))))) else (none)) else (worldmintref05_Parse.l1 k x4 x5 ([] : List Int) (x5.size : Int))
def worldmintref05_Parse.l1 : Nat → Bool → ByteArray → List Int → Int → Option (Bool × List Int × Int)
 | 0, _, _, _, _ => none
 | k + 1, x4, x5, x7, x8 => if x8 > 0 then (worldmintref05_Parse.l2 k x4 x5 x7 x8 0 (mx 0 (wrap64 (x8 - 4)))) else ((worldmintref05_normal.f k x4 x7).bind fun bt291 => ((worldmintref05_Fits.f k bt291.1 bt291.2).bind fun t296 => (if t296 = true then (some (bt291.1, bt291.2, 0)) else (some (false, ([] : List Int), 4)))))
def worldmintref05_Parse.l2 : Nat → Bool → ByteArray → List Int → Int → Int → Int → Option (Bool × List Int × Int)
 | 0, _, _, _, _, _, _ => none
 | k + 1, x4, x5, x7, x8, x9, x10 => if x10 < x8 then (if 0 ≤ x10 then (if x10 < (x5.size : Int) then (worldmintref05_Parse.l2 k x4 x5 x7 x8 (wrap64 ((wrap64 (10 * x9)) + (((bt x5 x10) - 48) % 256))) (wrap64 (x10 + 1))) else (none)) else (none)) else (if x7.length < 17592186044416 then (worldmintref05_Parse.l1 k x4 x5 (x7 ++ [x9]) (wrap64 (x8 - 4))) else (none))
end
def worldmintref05_Parse.f (k : Nat) (a0 : ByteArray) : Option (Bool × List Int × Int) := if (a0.size : Int) > 5000 then (some (false, ([] : List Int), 4)) else (if (a0.size : Int) > 0 then (if 0 < (a0.size : Int) then (worldmintref05_Parse.j0 k a0 ((bt a0 0) == 45)) else (none)) else (worldmintref05_Parse.j0 k a0 false))
theorem worldmintref05_Parse.mono_l : ∀ k, (∀ y0 y1, LeO (worldmintref05_Parse.j0 k y0 y1) (worldmintref05_Parse.j0 (k + 1) y0 y1)) ∧ (∀ y0 y1, LeO (worldmintref05_Parse.j1 k y0 y1) (worldmintref05_Parse.j1 (k + 1) y0 y1)) ∧ (∀ y0 y1 y2, LeO (worldmintref05_Parse.j2 k y0 y1 y2) (worldmintref05_Parse.j2 (k + 1) y0 y1 y2)) ∧ (∀ y0 y1 y2, LeO (worldmintref05_Parse.l0 k y0 y1 y2) (worldmintref05_Parse.l0 (k + 1) y0 y1 y2)) ∧ (∀ y0 y1 y2 y3, LeO (worldmintref05_Parse.l1 k y0 y1 y2 y3) (worldmintref05_Parse.l1 (k + 1) y0 y1 y2 y3)) ∧ (∀ y0 y1 y2 y3 y4 y5, LeO (worldmintref05_Parse.l2 k y0 y1 y2 y3 y4 y5) (worldmintref05_Parse.l2 (k + 1) y0 y1 y2 y3 y4 y5))
 | 0 => ⟨fun _ _ r h => by simp [worldmintref05_Parse.j0] at h, fun _ _ r h => by simp [worldmintref05_Parse.j1] at h, fun _ _ _ r h => by simp [worldmintref05_Parse.j2] at h, fun _ _ _ r h => by simp [worldmintref05_Parse.l0] at h, fun _ _ _ _ r h => by simp [worldmintref05_Parse.l1] at h, fun _ _ _ _ _ _ r h => by simp [worldmintref05_Parse.l2] at h⟩
 | k + 1 => by
  obtain ⟨ih0, ih1, ih2, ih3, ih4, ih5⟩ := worldmintref05_Parse.mono_l k
  refine ⟨?_, ?_, ?_, ?_, ?_, ?_⟩
  ·intro y0 y1
   unfold worldmintref05_Parse.j0
   repeat' first
   | (with_reducible exact ih0 _ _)
   | (with_reducible exact ih1 _ _)
   | (with_reducible exact ih2 _ _ _)
   | (with_reducible exact ih3 _ _ _)
   | (with_reducible exact ih4 _ _ _ _)
   | (with_reducible exact ih5 _ _ _ _ _ _)
   | (with_reducible exact worldmintref05_Fits.mono _ _ _)
   | (with_reducible exact worldmintref05_normal.mono _ _ _)
   | (with_reducible exact LeO.refl _)
   | (with_reducible exact LeO.none _)
   | (with_reducible refine LeO.ite ?_ ?_)
   | (with_reducible refine LeO.bind ?_ (fun _ => ?_))
   | exact ih0 _ _
   | exact ih1 _ _
   | exact ih2 _ _ _
   | exact ih3 _ _ _
   | exact ih4 _ _ _ _
   | exact ih5 _ _ _ _ _ _
   | exact worldmintref05_Fits.mono _ _ _
   | exact worldmintref05_normal.mono _ _ _
   | exact LeO.none _
   | refine LeO.ite ?_ ?_
   | refine LeO.bind ?_ (fun _ => ?_)
  ·intro y0 y1
   unfold worldmintref05_Parse.j1
   repeat' first
   | (with_reducible exact ih0 _ _)
   | (with_reducible exact ih1 _ _)
   | (with_reducible exact ih2 _ _ _)
   | (with_reducible exact ih3 _ _ _)
   | (with_reducible exact ih4 _ _ _ _)
   | (with_reducible exact ih5 _ _ _ _ _ _)
   | (with_reducible exact worldmintref05_Fits.mono _ _ _)
   | (with_reducible exact worldmintref05_normal.mono _ _ _)
   | (with_reducible exact LeO.refl _)
   | (with_reducible exact LeO.none _)
   | (with_reducible refine LeO.ite ?_ ?_)
   | (with_reducible refine LeO.bind ?_ (fun _ => ?_))
   | exact ih0 _ _
   | exact ih1 _ _
   | exact ih2 _ _ _
   | exact ih3 _ _ _
   | exact ih4 _ _ _ _
   | exact ih5 _ _ _ _ _ _
   | exact worldmintref05_Fits.mono _ _ _
   | exact worldmintref05_normal.mono _ _ _
   | exact LeO.none _
   | refine LeO.ite ?_ ?_
   | refine LeO.bind ?_ (fun _ => ?_)
  ·intro y0 y1 y2
   unfold worldmintref05_Parse.j2
   repeat' first
   | (with_reducible exact ih0 _ _)
   | (with_reducible exact ih1 _ _)
   | (with_reducible exact ih2 _ _ _)
   | (with_reducible exact ih3 _ _ _)
   | (with_reducible exact ih4 _ _ _ _)
   | (with_reducible exact ih5 _ _ _ _ _ _)
   | (with_reducible exact worldmintref05_Fits.mono _ _ _)
   | (with_reducible exact worldmintref05_normal.mono _ _ _)
   | (with_reducible exact LeO.refl _)
   | (with_reducible exact LeO.none _)
   | (with_reducible refine LeO.ite ?_ ?_)
   | (with_reducible refine LeO.bind ?_ (fun _ => ?_))
   | exact ih0 _ _
   | exact ih1 _ _
   | exact ih2 _ _ _
   | exact ih3 _ _ _
   | exact ih4 _ _ _ _
   | exact ih5 _ _ _ _ _ _
   | exact worldmintref05_Fits.mono _ _ _
   | exact worldmintref05_normal.mono _ _ _
   | exact LeO.none _
   | refine LeO.ite ?_ ?_
   | refine LeO.bind ?_ (fun _ => ?_)
  ·intro y0 y1 y2
   unfold worldmintref05_Parse.l0
   repeat' first
   | (with_reducible exact ih0 _ _)
   | (with_reducible exact ih1 _ _)
   | (with_reducible exact ih2 _ _ _)
   | (with_reducible exact ih3 _ _ _)
   | (with_reducible exact ih4 _ _ _ _)
   | (with_reducible exact ih5 _ _ _ _ _ _)
   | (with_reducible exact worldmintref05_Fits.mono _ _ _)
   | (with_reducible exact worldmintref05_normal.mono _ _ _)
   | (with_reducible exact LeO.refl _)
   | (with_reducible exact LeO.none _)
   | (with_reducible refine LeO.ite ?_ ?_)
   | (with_reducible refine LeO.bind ?_ (fun _ => ?_))
   | exact ih0 _ _
   | exact ih1 _ _
   | exact ih2 _ _ _
   | exact ih3 _ _ _
   | exact ih4 _ _ _ _
   | exact ih5 _ _ _ _ _ _
   | exact worldmintref05_Fits.mono _ _ _
   | exact worldmintref05_normal.mono _ _ _
   | exact LeO.none _
   | refine LeO.ite ?_ ?_
   | refine LeO.bind ?_ (fun _ => ?_)
  ·intro y0 y1 y2 y3
   unfold worldmintref05_Parse.l1
   repeat' first
   | (with_reducible exact ih0 _ _)
   | (with_reducible exact ih1 _ _)
   | (with_reducible exact ih2 _ _ _)
   | (with_reducible exact ih3 _ _ _)
   | (with_reducible exact ih4 _ _ _ _)
   | (with_reducible exact ih5 _ _ _ _ _ _)
   | (with_reducible exact worldmintref05_Fits.mono _ _ _)
   | (with_reducible exact worldmintref05_normal.mono _ _ _)
   | (with_reducible exact LeO.refl _)
   | (with_reducible exact LeO.none _)
   | (with_reducible refine LeO.ite ?_ ?_)
   | (with_reducible refine LeO.bind ?_ (fun _ => ?_))
   | exact ih0 _ _
   | exact ih1 _ _
   | exact ih2 _ _ _
   | exact ih3 _ _ _
   | exact ih4 _ _ _ _
   | exact ih5 _ _ _ _ _ _
   | exact worldmintref05_Fits.mono _ _ _
   | exact worldmintref05_normal.mono _ _ _
   | exact LeO.none _
   | refine LeO.ite ?_ ?_
   | refine LeO.bind ?_ (fun _ => ?_)
  ·intro y0 y1 y2 y3 y4 y5
   unfold worldmintref05_Parse.l2
   repeat' first
   | (with_reducible exact ih0 _ _)
   | (with_reducible exact ih1 _ _)
   | (with_reducible exact ih2 _ _ _)
   | (with_reducible exact ih3 _ _ _)
   | (with_reducible exact ih4 _ _ _ _)
   | (with_reducible exact ih5 _ _ _ _ _ _)
   | (with_reducible exact worldmintref05_Fits.mono _ _ _)
   | (with_reducible exact worldmintref05_normal.mono _ _ _)
   | (with_reducible exact LeO.refl _)
   | (with_reducible exact LeO.none _)
   | (with_reducible refine LeO.ite ?_ ?_)
   | (with_reducible refine LeO.bind ?_ (fun _ => ?_))
   | exact ih0 _ _
   | exact ih1 _ _
   | exact ih2 _ _ _
   | exact ih3 _ _ _
   | exact ih4 _ _ _ _
   | exact ih5 _ _ _ _ _ _
   | exact worldmintref05_Fits.mono _ _ _
   | exact worldmintref05_normal.mono _ _ _
   | exact LeO.none _
   | refine LeO.ite ?_ ?_
   | refine LeO.bind ?_ (fun _ => ?_)
theorem worldmintref05_Parse.mono : ∀ a0 k, LeO (worldmintref05_Parse.f k a0) (worldmintref05_Parse.f (k + 1) a0) := by
 intro a0 k
 obtain ⟨ih0, ih1, ih2, ih3, ih4, ih5⟩ := worldmintref05_Parse.mono_l k
 unfold worldmintref05_Parse.f
 repeat' first
   | (with_reducible exact ih0 _ _)
   | (with_reducible exact ih1 _ _)
   | (with_reducible exact ih2 _ _ _)
   | (with_reducible exact ih3 _ _ _)
   | (with_reducible exact ih4 _ _ _ _)
   | (with_reducible exact ih5 _ _ _ _ _ _)
   | (with_reducible exact worldmintref05_Fits.mono _ _ _)
   | (with_reducible exact worldmintref05_normal.mono _ _ _)
   | (with_reducible exact LeO.refl _)
   | (with_reducible exact LeO.none _)
   | (with_reducible refine LeO.ite ?_ ?_)
   | (with_reducible refine LeO.bind ?_ (fun _ => ?_))
   | exact ih0 _ _
   | exact ih1 _ _
   | exact ih2 _ _ _
   | exact ih3 _ _ _
   | exact ih4 _ _ _ _
   | exact ih5 _ _ _ _ _ _
   | exact worldmintref05_Fits.mono _ _ _
   | exact worldmintref05_normal.mono _ _ _
   | exact LeO.none _
   | refine LeO.ite ?_ ?_
   | refine LeO.bind ?_ (fun _ => ?_)
set_option maxHeartbeats 8000000 in
set_option maxRecDepth 100000 in
theorem worldmintref05_Parse.calls (k : Nat) (a0 : ByteArray) (r1 : Bool) (r2 : List Int) (r3 : Int) (w : World) (h : worldmintref05_Parse.f k a0 = some (r1, r2, r3)) :
  Calls Tryz.prog 17 #[.string a0] w fun e w' => ∃ v1_ : Value, e = .returned (.tuple #[.agg #[.bool r1, v1_], .int .i64 r3]) ∧ Kd.V (Kd.int .i64) 3 w' w.heap.size (fun k_ => (w.heap.size ≤ k_)) v1_ r2 ∧ Below w.heap.size w w' := by
 have hu25 := Tryz.underlying25
 have HB := am_ (Below.refl w.heap.size w)
 have H : (if (a0.size : Int) > 5000 then (some (false, ([] : List Int), 4)) else (if (a0.size : Int) > 0 then (if 0 < (a0.size : Int) then (worldmintref05_Parse.j0 k a0 ((bt a0 0) == 45)) else (none)) else (worldmintref05_Parse.j0 k a0 false))) = some (r1, r2, r3) := h
 clear h
 by_cases c2 : (a0.size : Int) > 5000
 ·rw [if_pos c2] at H
  have c2b0 : decide (5000 < (a0.size : Int)) = true := decide_eq_true c2
  have c2b1 : decide (5000 < a0.size) = true := decide_eq_true (by omega)
  clear c2
  simp only [Option.some.injEq, Prod.mk.injEq] at H
  obtain ⟨rfl, rfl, rfl⟩ := H
  go_enter Tryz.func17, Tryz.ntmps17
  go_wp2_with (first | ((with_reducible refine gate_dst (N := 2) rfl ?_); (try (refine gate_guard (by rfl) ?_; dsimp only)); refine box_event ?hg (N := 2) ?hd (cs := #[.bool false, .slice none 0 0]) (t := 25) ?hr ?_; (case hd => rfl); (case hg => rfl); (case hr => exact zq1); intro gb287 hg w3 hbox hb; have n0_ := am_ (below_step zq2 hb); have n1_ := am_ (hbox); have n2_ := am_ ((by rw [hg]; exact (below_size zq2) : w.heap.size ≤ gb287)); clear HB; have HB := n0_; have BK287 := n1_; have GE287 := n2_; clear n0_ n1_ n2_; clear hb hbox hg; have hcz4_0 : w3.cell? ⟨gb287, 0, none⟩ = some (.bool false) := (blk_cell BK287.out 0).trans rfl; have hcz4_1 : w3.cell? ⟨gb287, 1, none⟩ = some (.slice none 0 0) := (blk_cell BK287.out 1).trans rfl; have hfz4_0 := blk_frozen BK287.out 0; have hfz4_1 := blk_frozen BK287.out 1))
  refine bodyPost_ret (results_ct rfl _ _ gb287 25 #[.bool false, .slice none 0 0] (0, 0) _ rfl (zq6 BK287.out) Tryz.underlying25 rfl (by kernel_rfl)) rfl ?_
  exact ⟨_, by first | rfl | (simp [errW_none, errW_some] <;> rfl) | (simp [*, errW_none, errW_some] <;> rfl), Kd.R_V (base := 0) zq38, by repeat (first | (with_reducible first | exact HB.out | apply below_alloc | apply pw_below_drewN | apply below_drew1 | refine below_set ?_ GE287.out) | exact HB.out)⟩
 ·rw [if_neg c2] at H
  have c2b0 : decide (5000 < (a0.size : Int)) = false := decide_eq_false c2
  have c2b1 : decide (5000 < a0.size) = false := decide_eq_false (by omega)
  clear c2
  have HC5 := am_ H
  clear H
  go_enter Tryz.func17, Tryz.ntmps17
  go_upto_region 3 with (first | ((with_reducible refine gate_dst (N := 2) rfl ?_); (try (refine gate_guard (by rfl) ?_; dsimp only)); refine box_event ?hg (N := 2) ?hd (cs := #[.bool false, .slice none 0 0]) (t := 25) ?hr ?_; (case hd => rfl); (case hg => rfl); (case hr => exact zq1); intro gb287 hg w6 hbox hb; have n0_ := am_ (below_step zq2 hb); have n1_ := am_ (hbox); have n2_ := am_ ((by rw [hg]; exact (below_size zq2) : w.heap.size ≤ gb287)); clear HB; have HB := n0_; have BK287 := n1_; have GE287 := n2_; clear n0_ n1_ n2_; clear hb hbox hg))
  (try simp only [Act.put, List.setIfInBounds_toArray, List.set_cons_zero, List.set_cons_succ])
  go_cut [4] (fun v4 wc => ∃ (kq : Nat) (x4_4 : Bool), v4 = .bool x4_4 ∧ Aside0 (worldmintref05_Parse.j0 kq a0 x4_4 = some (r1, r2, r3)) ∧ Aside0 (kq ≤ k) ∧ Aside0 (wc.heap[gb287]? = some (.cells #[.bool false, (.slice none 0 0)] 25 (0, 0))) ∧ Aside0 (Below w.heap.size w wc))
  case first =>
   have H := HC5.out
   clear HC5
   by_cases c7 : (a0.size : Int) > 0
   ·rw [if_pos c7] at H
    have c7b0 : decide (0 < (a0.size : Int)) = true := decide_eq_true c7
    have c7b1 : decide (0 < a0.size) = true := decide_eq_true (by omega)
    clear c7
    (first | rw [c7b0] | (simp only [i64_w, i32_w]; rw [c7b0]) | skip)
    by_cases c8 : 0 < (a0.size : Int)
    ·rw [if_pos c8] at H
     have c8b0 : decide (0 < (a0.size : Int)) = true := decide_eq_true c8
     have c8b1 : decide (0 < a0.size) = true := decide_eq_true (by omega)
     clear c8
     have H' := am_ H
     clear H
     have p9 : 0 ≤ (0 : Int) := (by omega)
     have q9 : 0 < a0.size := (by have : (0 : Int) < (a0.size : Int) := of_decide_eq_true zq3; omega)
     have hx9 : ∀ h : 0 < a0.size, ((a0[0]'h).toNat : Int) = bt a0 0 := bt_at a0 0
     clear p9
     have qi9 : (0 < (a0.size : Int)) = True := eq_true (of_decide_eq_true zq3)
     replace q9 := eq_true q9
     go_wp2
     go_meet
     case rel => exact ⟨_, (((bt a0 0) == 45)), zq0, H', ⟨by first | omega | exact Nat.le_refl _⟩, ⟨by (with_reducible repeat (first | refine blk_drewN ?_ _ | refine blk_drew ?_ | refine blk_alloc ?_ _)); exact BK287.out⟩, ⟨by repeat (first | (with_reducible first | exact HB.out | apply below_alloc | apply pw_below_drewN | apply below_drew1 | refine below_set ?_ GE287.out) | exact HB.out)⟩⟩
    ·rw [if_neg c8] at H
     exact absurd H (by simp)
   ·rw [if_neg c7] at H
    have c7b0 : decide (0 < (a0.size : Int)) = false := decide_eq_false c7
    have c7b1 : decide (0 < a0.size) = false := decide_eq_false (by omega)
    clear c7
    (first | rw [c7b0] | (simp only [i64_w, i32_w]; rw [c7b0]) | skip)
    have H' := am_ H
    clear H
    go_wp2
    go_meet
    case rel => exact ⟨_, (false), zq0, H', ⟨by first | omega | exact Nat.le_refl _⟩, ⟨by (with_reducible repeat (first | refine blk_drewN ?_ _ | refine blk_drew ?_ | refine blk_alloc ?_ _)); exact BK287.out⟩, ⟨by repeat (first | (with_reducible first | exact HB.out | apply below_alloc | apply pw_below_drewN | apply below_drew1 | refine below_set ?_ GE287.out) | exact HB.out)⟩⟩
  case rest =>
   clear HC5
   try clear c1
   try clear c2
   try clear c2b0
   try clear c2b1
   try clear p2
   try clear c7
   try clear c7b0
   try clear c7b1
   try clear c8
   try clear c8b0
   try clear c8b1
   try clear p9
   try clear q9
   try clear hx9
   try clear qi9
   try clear hcz4_0
   try clear hcz4_1
   try clear hfz4_0
   try clear hfz4_1
   try clear p9
   try clear q9
   obtain ⟨kq, x4_4, rfl, HA, HJ4, BK287, HB⟩ := hcut
   cases kq with
   | zero => exact absurd HA.out (by simp [worldmintref05_Parse.j0])
   | succ kj4 =>
    have H := HA.out
    clear HA
    simp only [worldmintref05_Parse.j0] at H
    have HC10 := am_ H
    clear H
    go_upto_if 26 with (fail)
    go_cut [5] (fun v5 wc => ∃ (kq : Nat) (x5_9 : ByteArray), v5 = .string x5_9 ∧ Aside0 (worldmintref05_Parse.j1 kq x4_4 x5_9 = some (r1, r2, r3)) ∧ Aside0 (kq ≤ kj4) ∧ Aside0 (wc.heap[gb287]? = some (.cells #[.bool false, (.slice none 0 0)] 25 (0, 0))) ∧ Aside0 (Below w.heap.size w wc))
    case first =>
     have H := HC10.out
     clear HC10
     by_cases c11 : x4_4 = true
     ·subst c11
      have H1 : (if 1 ≤ (a0.size : Int) then (worldmintref05_Parse.j1 kj4 true (a0.extract 1 a0.size)) else (none)) = some (r1, r2, r3) := by rw [if_pos rfl] at H; exact H
      clear H
      have H := H1
      clear H1
      by_cases c12 : 1 ≤ (a0.size : Int)
      ·rw [if_pos c12] at H
       have c12b0 := eq_true c12
       have c12b1 : decide (1 ≤ (a0.size : Int)) = true := decide_eq_true c12
       clear c12
       have H' := am_ H
       clear H
       go_wp2
       go_meet
       case rel => exact ⟨_, (a0.extract 1 a0.size), zq0, H', ⟨by have := HJ4.out; first | omega | exact Nat.le_refl _⟩, ⟨by (with_reducible repeat (first | refine blk_drewN ?_ _ | refine blk_drew ?_ | refine blk_alloc ?_ _)); exact BK287.out⟩, ⟨by repeat (first | (with_reducible first | exact HB.out | apply below_alloc | apply pw_below_drewN | apply below_drew1 | refine below_set ?_ GE287.out) | exact HB.out)⟩⟩
      ·rw [if_neg c12] at H
       exact absurd H (by simp)
     ·replace c11 := Bool.eq_false_iff.mpr c11
      subst c11
      have H1 : (worldmintref05_Parse.j1 kj4 false a0) = some (r1, r2, r3) := by rw [if_neg (show ¬ (false = true) by decide)] at H; exact H
      clear H
      have H := H1
      clear H1
      have H' := am_ H
      clear H
      go_wp2
      go_meet
      case rel => exact ⟨_, (a0), zq0, H', ⟨by have := HJ4.out; first | omega | exact Nat.le_refl _⟩, ⟨by (with_reducible repeat (first | refine blk_drewN ?_ _ | refine blk_drew ?_ | refine blk_alloc ?_ _)); exact BK287.out⟩, ⟨by repeat (first | (with_reducible first | exact HB.out | apply below_alloc | apply pw_below_drewN | apply below_drew1 | refine below_set ?_ GE287.out) | exact HB.out)⟩⟩
    case rest =>
     clear HC10
     try clear c1
     try clear c2
     try clear c2b0
     try clear c2b1
     try clear p2
     try clear c7
     try clear c7b0
     try clear c7b1
     try clear c8
     try clear c8b0
     try clear c8b1
     try clear p9
     try clear q9
     try clear hx9
     try clear qi9
     try clear c11
     try clear c12
     try clear c12b0
     try clear c12b1
     try clear hcz4_0
     try clear hcz4_1
     try clear hfz4_0
     try clear hfz4_1
     try clear p2
     try clear p9
     try clear q9
     obtain ⟨kq, x5_9, rfl, HA, HJ9, BK287, HB⟩ := hcut
     cases kq with
     | zero => exact absurd HA.out (by simp [worldmintref05_Parse.j1])
     | succ kj9 =>
      have H := HA.out
      clear HA
      simp only [worldmintref05_Parse.j1] at H
      have HC13 := am_ H
      clear H
      go_upto_region 7 with (fail)
      go_cut [44] (fun v44 wc => ∃ (kq : Nat) (x44_12 : Bool), v44 = .bool x44_12 ∧ Aside0 (worldmintref05_Parse.j2 kq x4_4 x5_9 x44_12 = some (r1, r2, r3)) ∧ Aside0 (kq ≤ kj9) ∧ Aside0 (wc.heap[gb287]? = some (.cells #[.bool false, (.slice none 0 0)] 25 (0, 0))) ∧ Aside0 (Below w.heap.size w wc))
      case first =>
       have H := HC13.out
       clear HC13
       by_cases c14 : (x5_9.size : Int) = 0
       ·rw [if_pos c14] at H
        have c14b0 : ((x5_9.size : Int) == 0) = true := beq_iff_eq.mpr c14
        have c14b1 : ((x5_9.size : Int) != 0) = false := bne_eq_false_iff_eq.mpr c14
        clear c14
        (first | rw [c14b0] | (simp only [i64_w, i32_w]; rw [c14b0]) | skip)
        have H' := am_ H
        clear H
        go_wp2
        go_meet
        case rel => exact ⟨_, (true), zq0, H', ⟨by have := HJ4.out; have := HJ9.out; first | omega | exact Nat.le_refl _⟩, ⟨by (with_reducible repeat (first | refine blk_drewN ?_ _ | refine blk_drew ?_ | refine blk_alloc ?_ _)); exact BK287.out⟩, ⟨by repeat (first | (with_reducible first | exact HB.out | apply below_alloc | apply pw_below_drewN | apply below_drew1 | refine below_set ?_ GE287.out) | exact HB.out)⟩⟩
       ·rw [if_neg c14] at H
        have c14b0 : ((x5_9.size : Int) == 0) = false := beq_eq_false_iff_ne.mpr c14
        have c14b1 : ((x5_9.size : Int) != 0) = true := bne_iff_ne.mpr c14
        (first | rw [c14b0] | (simp only [i64_w, i32_w]; rw [c14b0]) | skip)
        by_cases c15 : 0 < (x5_9.size : Int)
        ·rw [if_pos c15] at H
         have c15b0 : decide (0 < (x5_9.size : Int)) = true := decide_eq_true c15
         have c15b1 : decide (0 < x5_9.size) = true := decide_eq_true (by omega)
         clear c15
         by_cases c17 : (bt x5_9 0) = 48
         ·rw [if_pos c17] at H
          have c17b0 : ((bt x5_9 0) == 48) = true := beq_iff_eq.mpr c17
          have c17b1 : ((bt x5_9 0) != 48) = false := bne_eq_false_iff_eq.mpr c17
          clear c17
          by_cases c18 : x4_4 = true
          ·subst c18
           have H1 : (worldmintref05_Parse.j2 kj9 true x5_9 true) = some (r1, r2, r3) := by rw [if_pos rfl] at H; exact H
           clear H
           have H := H1
           clear H1
           have H' := am_ H
           clear H
           have p16 : 0 ≤ (0 : Int) := (by omega)
           have q16 : 0 < x5_9.size := (by have : (0 : Int) < (x5_9.size : Int) := of_decide_eq_true zq3; omega)
           have hx16 : ∀ h : 0 < x5_9.size, ((x5_9[0]'h).toNat : Int) = bt x5_9 0 := bt_at x5_9 0
           clear p16
           have qi16 : (0 < (x5_9.size : Int)) = True := eq_true (of_decide_eq_true zq3)
           replace q16 := eq_true q16
           go_wp2
           go_meet
           case rel => exact ⟨_, (true), zq0, H', ⟨by have := HJ4.out; have := HJ9.out; first | omega | exact Nat.le_refl _⟩, ⟨by (with_reducible repeat (first | refine blk_drewN ?_ _ | refine blk_drew ?_ | refine blk_alloc ?_ _)); exact BK287.out⟩, ⟨by repeat (first | (with_reducible first | exact HB.out | apply below_alloc | apply pw_below_drewN | apply below_drew1 | refine below_set ?_ GE287.out) | exact HB.out)⟩⟩
          ·replace c18 := Bool.eq_false_iff.mpr c18
           subst c18
           have H1 : (worldmintref05_Parse.j2 kj9 false x5_9 (decide ((x5_9.size : Int) > 1))) = some (r1, r2, r3) := by rw [if_neg (show ¬ (false = true) by decide)] at H; exact H
           clear H
           have H := H1
           clear H1
           have H' := am_ H
           clear H
           have p16 : 0 ≤ (0 : Int) := (by omega)
           have q16 : 0 < x5_9.size := (by have : (0 : Int) < (x5_9.size : Int) := of_decide_eq_true zq3; omega)
           have hx16 : ∀ h : 0 < x5_9.size, ((x5_9[0]'h).toNat : Int) = bt x5_9 0 := bt_at x5_9 0
           clear p16
           have qi16 : (0 < (x5_9.size : Int)) = True := eq_true (of_decide_eq_true zq3)
           replace q16 := eq_true q16
           go_wp2
           go_meet
           case rel => exact ⟨_, (decide ((x5_9.size : Int) > 1)), zq0, H', ⟨by have := HJ4.out; have := HJ9.out; first | omega | exact Nat.le_refl _⟩, ⟨by (with_reducible repeat (first | refine blk_drewN ?_ _ | refine blk_drew ?_ | refine blk_alloc ?_ _)); exact BK287.out⟩, ⟨by repeat (first | (with_reducible first | exact HB.out | apply below_alloc | apply pw_below_drewN | apply below_drew1 | refine below_set ?_ GE287.out) | exact HB.out)⟩⟩
         ·rw [if_neg c17] at H
          have c17b0 : ((bt x5_9 0) == 48) = false := beq_eq_false_iff_ne.mpr c17
          have c17b1 : ((bt x5_9 0) != 48) = true := bne_iff_ne.mpr c17
          have H' := am_ H
          clear H
          have p16 : 0 ≤ (0 : Int) := (by omega)
          have q16 : 0 < x5_9.size := (by have : (0 : Int) < (x5_9.size : Int) := of_decide_eq_true zq3; omega)
          have hx16 : ∀ h : 0 < x5_9.size, ((x5_9[0]'h).toNat : Int) = bt x5_9 0 := bt_at x5_9 0
          clear p16
          have qi16 : (0 < (x5_9.size : Int)) = True := eq_true (of_decide_eq_true zq3)
          replace q16 := eq_true q16
          go_wp2
          go_meet
          case rel => exact ⟨_, (false), zq0, H', ⟨by have := HJ4.out; have := HJ9.out; first | omega | exact Nat.le_refl _⟩, ⟨by (with_reducible repeat (first | refine blk_drewN ?_ _ | refine blk_drew ?_ | refine blk_alloc ?_ _)); exact BK287.out⟩, ⟨by repeat (first | (with_reducible first | exact HB.out | apply below_alloc | apply pw_below_drewN | apply below_drew1 | refine below_set ?_ GE287.out) | exact HB.out)⟩⟩
        ·rw [if_neg c15] at H
         exact absurd H (by simp)
      case rest =>
       clear HC13
       try clear c1
       try clear p1
       try clear q1
       try clear hx1
       try clear qi1
       try clear c2
       try clear c2b0
       try clear c2b1
       try clear p2
       try clear c7
       try clear c7b0
       try clear c7b1
       try clear c8
       try clear c8b0
       try clear c8b1
       try clear p9
       try clear q9
       try clear hx9
       try clear qi9
       try clear c11
       try clear c12
       try clear c12b0
       try clear c12b1
       try clear c14
       try clear c14b0
       try clear c14b1
       try clear c15
       try clear c15b0
       try clear c15b1
       try clear p16
       try clear q16
       try clear hx16
       try clear qi16
       try clear c17
       try clear c17b0
       try clear c17b1
       try clear c18
       try clear hcz4_0
       try clear hcz4_1
       try clear hfz4_0
       try clear hfz4_1
       try clear p16
       try clear p2
       try clear p9
       try clear q16
       try clear q9
       obtain ⟨kq, x44_12, rfl, HA, HJ12, BK287, HB⟩ := hcut
       cases kq with
       | zero => exact absurd HA.out (by simp [worldmintref05_Parse.j2])
       | succ kj12 =>
        have H := HA.out
        clear HA
        simp only [worldmintref05_Parse.j2] at H
        by_cases c19 : x44_12 = true
        ·subst c19
         have H1 : (some (false, ([] : List Int), 2)) = some (r1, r2, r3) := by rw [if_pos rfl] at H; exact H
         clear H
         have H := H1
         clear H1
         simp only [Option.some.injEq, Prod.mk.injEq] at H
         obtain ⟨rfl, rfl, rfl⟩ := H
         have hcz20_0 : wc.cell? ⟨gb287, 0, none⟩ = some (.bool false) := (blk_cell BK287.out 0).trans rfl
         have hcz20_1 : wc.cell? ⟨gb287, 1, none⟩ = some (.slice none 0 0) := (blk_cell BK287.out 1).trans rfl
         have hfz20_0 := blk_frozen BK287.out 0
         have hfz20_1 := blk_frozen BK287.out 1
         go_wp2
         refine bodyPost_ret (results_ct rfl _ _ gb287 25 #[.bool false, .slice none 0 0] (0, 0) _ rfl (zq6 BK287.out) Tryz.underlying25 rfl (by kernel_rfl)) rfl ?_
         exact ⟨_, by first | rfl | (simp [errW_none, errW_some] <;> rfl) | (simp [*, errW_none, errW_some] <;> rfl), Kd.R_V (base := 0) zq38, by repeat (first | (with_reducible first | exact HB.out | apply below_alloc | apply pw_below_drewN | apply below_drew1 | refine below_set ?_ GE287.out) | exact HB.out)⟩
        ·replace c19 := Bool.eq_false_iff.mpr c19
         subst c19
         have H1 : (worldmintref05_Parse.l0 kj12 x4_4 x5_9 0) = some (r1, r2, r3) := by rw [if_neg (show ¬ (false = true) by decide)] at H; exact H
         clear H
         have H := H1
         clear H1
         have H' := am_ H
         clear H
         go_wp2
         try simp only [Act.put, List.setIfInBounds_toArray, List.set_cons_zero, List.set_cons_succ]
         go_loopg [6] kj12 (fun kq v6 w' => ∃ (x6_4 : Int) (x288000_4 : Bool), v6 = .int .i64 x6_4 ∧ Aside0 (worldmintref05_Parse.l0 kq x4_4 x5_9 x6_4 = some (r1, r2, r3)) ∧ Aside0 (kq ≤ kj12) ∧ Aside0 (w'.heap[gb287]? = some (.cells #[.bool x288000_4, (.slice none 0 0)] 25 (0, 0))) ∧ Aside0 (Below w.heap.size w w'))
         case atStart => exact ⟨(0), (false), zq0, H', ⟨Nat.le_refl _⟩, ⟨by (with_reducible repeat (first | refine blk_drewN ?_ _ | refine blk_drew ?_ | refine blk_alloc ?_ _)); exact BK287.out⟩, ⟨by repeat (first | (with_reducible first | exact HB.out | apply below_alloc | apply pw_below_drewN | apply below_drew1 | refine below_set ?_ GE287.out) | exact HB.out)⟩⟩
         case round =>
          clear H'
          try clear c1
          try clear p1
          try clear q1
          try clear hx1
          try clear qi1
          try clear c2
          try clear c2b0
          try clear c2b1
          try clear p2
          try clear c7
          try clear c7b0
          try clear c7b1
          try clear c8
          try clear c8b0
          try clear c8b1
          try clear p9
          try clear q9
          try clear hx9
          try clear qi9
          try clear c11
          try clear c12
          try clear c12b0
          try clear c12b1
          try clear c14
          try clear c14b0
          try clear c14b1
          try clear c15
          try clear c15b0
          try clear c15b1
          try clear p16
          try clear q16
          try clear hx16
          try clear qi16
          try clear c17
          try clear c17b0
          try clear c17b1
          try clear c18
          try clear c19
          try clear hcz20_0
          try clear hcz20_1
          try clear hcz4_0
          try clear hcz4_1
          try clear hfz20_0
          try clear hfz20_1
          try clear hfz4_0
          try clear hfz4_1
          try clear p1
          try clear p16
          try clear p2
          try clear p9
          try clear q1
          try clear q16
          try clear q9
          obtain ⟨x6_4, x288000_4, rfl, HA, HK4, BK287, HB⟩ := hrel
          cases gk with
          | zero => exact absurd HA.out (by simp [worldmintref05_Parse.l0])
          | succ k4 =>
           have H := HA.out
           clear HA
           simp only [worldmintref05_Parse.l0] at H
           by_cases c21 : x6_4 < (x5_9.size : Int)
           ·rw [if_pos c21] at H
            have c21b0 : decide (x6_4 < (x5_9.size : Int)) = true := decide_eq_true c21
            clear c21
            by_cases c22 : 0 ≤ x6_4
            ·rw [if_pos c22] at H
             have c22b0 : decide (0 ≤ x6_4) = true := decide_eq_true c22
             clear c22
             by_cases c24 : (bt x5_9 x6_4) < 48
             ·rw [if_pos c24] at H
              have c24b0 : decide ((bt x5_9 x6_4) < 48) = true := decide_eq_true c24
              clear c24
              simp only [Option.some.injEq, Prod.mk.injEq] at H
              obtain ⟨rfl, rfl, rfl⟩ := H
              have p23 : 0 ≤ (x6_4 : Int) := of_decide_eq_true zq3
              have q23 : x6_4 < (x5_9.size : Int) := of_decide_eq_true zq3
              have hx23 := bt_at x5_9 x6_4
              replace p23 := eq_true p23
              replace q23 := eq_true q23
              have hcz25_0 : wr.cell? ⟨gb287, 0, none⟩ = some (.bool x288000_4) := (blk_cell BK287.out 0).trans rfl
              have hcz25_1 : wr.cell? ⟨gb287, 1, none⟩ = some (.slice none 0 0) := (blk_cell BK287.out 1).trans rfl
              have hfz25_0 := blk_frozen BK287.out 0
              have hfz25_1 := blk_frozen BK287.out 1
              go_wp2
              refine bodyPost_ret (results_ct rfl _ _ gb287 25 #[.bool false, .slice none 0 0] (0, 0) _ rfl (zq45 BK287.out) Tryz.underlying25 rfl (by kernel_rfl)) rfl ?_
              exact ⟨_, by first | rfl | (simp [errW_none, errW_some] <;> rfl) | (simp [*, errW_none, errW_some] <;> rfl), Kd.R_V (base := 0) zq38, by repeat (first | (with_reducible first | exact HB.out | apply below_alloc | apply pw_below_drewN | apply below_drew1 | refine below_set ?_ GE287.out) | exact HB.out)⟩
             ·rw [if_neg c24] at H
              have c24b0 : decide ((bt x5_9 x6_4) < 48) = false := decide_eq_false c24
              clear c24
              by_cases c27 : (bt x5_9 x6_4) > 57
              ·rw [if_pos c27] at H
               have c27b0 : decide (57 < (bt x5_9 x6_4)) = true := decide_eq_true c27
               clear c27
               simp only [Option.some.injEq, Prod.mk.injEq] at H
               obtain ⟨rfl, rfl, rfl⟩ := H
               have p23 : 0 ≤ (x6_4 : Int) := of_decide_eq_true zq3
               have q23 : x6_4 < (x5_9.size : Int) := of_decide_eq_true zq3
               have hx23 := bt_at x5_9 x6_4
               replace p23 := eq_true p23
               replace q23 := eq_true q23
               have p26 : 0 ≤ (x6_4 : Int) := of_decide_eq_true zq3
               have q26 : x6_4 < (x5_9.size : Int) := of_decide_eq_true zq3
               have hx26 := bt_at x5_9 x6_4
               replace p26 := eq_true p26
               replace q26 := eq_true q26
               have hcz28_0 : wr.cell? ⟨gb287, 0, none⟩ = some (.bool x288000_4) := (blk_cell BK287.out 0).trans rfl
               have hcz28_1 : wr.cell? ⟨gb287, 1, none⟩ = some (.slice none 0 0) := (blk_cell BK287.out 1).trans rfl
               have hfz28_0 := blk_frozen BK287.out 0
               have hfz28_1 := blk_frozen BK287.out 1
               go_wp2
               refine bodyPost_ret (results_ct rfl _ _ gb287 25 #[.bool false, .slice none 0 0] (0, 0) _ rfl (zq45 BK287.out) Tryz.underlying25 rfl (by kernel_rfl)) rfl ?_
               exact ⟨_, by first | rfl | (simp [errW_none, errW_some] <;> rfl) | (simp [*, errW_none, errW_some] <;> rfl), Kd.R_V (base := 0) zq38, by repeat (first | (with_reducible first | exact HB.out | apply below_alloc | apply pw_below_drewN | apply below_drew1 | refine below_set ?_ GE287.out) | exact HB.out)⟩
              ·rw [if_neg c27] at H
               have c27b0 : decide (57 < (bt x5_9 x6_4)) = false := decide_eq_false c27
               clear c27
               have H' := am_ H
               clear H
               have p23 : 0 ≤ (x6_4 : Int) := of_decide_eq_true zq3
               have q23 : x6_4 < (x5_9.size : Int) := of_decide_eq_true zq3
               have hx23 := bt_at x5_9 x6_4
               replace p23 := eq_true p23
               replace q23 := eq_true q23
               have p26 : 0 ≤ (x6_4 : Int) := of_decide_eq_true zq3
               have q26 : x6_4 < (x5_9.size : Int) := of_decide_eq_true zq3
               have hx26 := bt_at x5_9 x6_4
               replace p26 := eq_true p26
               replace q26 := eq_true q26
               go_wp2
               go_roundg k4
               case measure => have := HJ4.out; have := HJ9.out; have := HJ12.out; have := HK4.out; omega
               case rel => exact ⟨(wrap64 (x6_4 + 1)), (x288000_4), zq0, H', ⟨by have := HJ4.out; have := HJ9.out; have := HJ12.out; have := HK4.out; omega⟩, ⟨by (with_reducible repeat (first | refine blk_drewN ?_ _ | refine blk_drew ?_ | refine blk_alloc ?_ _)); exact BK287.out⟩, ⟨by repeat (first | (with_reducible first | exact HB.out | apply below_alloc | apply pw_below_drewN | apply below_drew1 | refine below_set ?_ GE287.out) | exact HB.out)⟩⟩
            ·rw [if_neg c22] at H
             exact absurd H (by simp)
           ·rw [if_neg c21] at H
            have c21b0 : decide (x6_4 < (x5_9.size : Int)) = false := decide_eq_false c21
            clear c21
            have H' := am_ H
            clear H
            go_wp2
            try simp only [Act.put, List.setIfInBounds_toArray, List.set_cons_zero, List.set_cons_succ]
            go_loopg [7, 8] k4 (fun kq v7 v8 w' => ∃ (x7_5 : List Int) (x8_5 : Int), v8 = .int .i64 x8_5 ∧ Aside0 (worldmintref05_Parse.l1 kq x4_4 x5_9 x7_5 x8_5 = some (r1, r2, r3)) ∧ Aside0 (kq ≤ k4) ∧ Aside0 (Kd.R (Kd.int .i64) 3 w' w.heap.size (fun k_ => (w.heap.size ≤ k_)) v7 x7_5) ∧ Aside0 (w'.heap[gb287]? = some (.cells #[.bool x288000_4, (.slice none 0 0)] 25 (0, 0))) ∧ Aside0 (Below w.heap.size w w'))
            case atStart => exact ⟨(([] : List Int)), ((x5_9.size : Int)), zq0, H', ⟨Nat.le_refl _⟩, ⟨by first | exact Kd.R_nil _ _ _ _ _ | exact Kd.N_nil _ _ _ _ _ | exact Kd.V_nil _ _ _ _ _ | exact Kd.Q_nil _ _ _ _ _ | exact Kd.S_nil _ _ _ _ _⟩, ⟨by (with_reducible repeat (first | refine blk_drewN ?_ _ | refine blk_drew ?_ | refine blk_alloc ?_ _)); exact BK287.out⟩, ⟨by repeat (first | (with_reducible first | exact HB.out | apply below_alloc | apply pw_below_drewN | apply below_drew1 | refine below_set ?_ GE287.out) | exact HB.out)⟩⟩
            case round =>
             clear H'
             try clear c1
             try clear p1
             try clear q1
             try clear hx1
             try clear qi1
             try clear c2
             try clear c2b0
             try clear c2b1
             try clear p2
             try clear q2
             try clear hx2
             try clear p6
             try clear c7
             try clear c7b0
             try clear c7b1
             try clear c8
             try clear c8b0
             try clear c8b1
             try clear p9
             try clear q9
             try clear hx9
             try clear qi9
             try clear c11
             try clear c12
             try clear c12b0
             try clear c12b1
             try clear c14
             try clear c14b0
             try clear c14b1
             try clear c15
             try clear c15b0
             try clear c15b1
             try clear p16
             try clear q16
             try clear hx16
             try clear qi16
             try clear c17
             try clear c17b0
             try clear c17b1
             try clear c18
             try clear c19
             try clear c21
             try clear c21b0
             try clear c22
             try clear c22b0
             try clear p23
             try clear q23
             try clear hx23
             try clear c24
             try clear c24b0
             try clear p26
             try clear q26
             try clear hx26
             try clear c27
             try clear c27b0
             try clear hcz20_0
             try clear hcz20_1
             try clear hcz25_0
             try clear hcz25_1
             try clear hcz28_0
             try clear hcz28_1
             try clear hcz4_0
             try clear hcz4_1
             try clear hfz20_0
             try clear hfz20_1
             try clear hfz25_0
             try clear hfz25_1
             try clear hfz28_0
             try clear hfz28_1
             try clear hfz4_0
             try clear hfz4_1
             try clear p1
             try clear p16
             try clear p2
             try clear p23
             try clear p26
             try clear p9
             try clear q1
             try clear q16
             try clear q23
             try clear q26
             try clear q9
             obtain ⟨x7_5, x8_5, rfl, HA, HK5, HO_7, BK287, HB⟩ := hrel
             cases gk with
             | zero => exact absurd HA.out (by simp [worldmintref05_Parse.l1])
             | succ k5 =>
              have H := HA.out
              clear HA
              simp only [worldmintref05_Parse.l1] at H
              by_cases c29 : x8_5 > 0
              ·rw [if_pos c29] at H
               have c29b0 : decide (0 < x8_5) = true := decide_eq_true c29
               clear c29
               obtain ⟨ji30, hji30⟩ : ∃ j_ : Int, (mx 0 (wrap64 (x8_5 - 4))) = j_ := ⟨_, rfl⟩
               replace H : (worldmintref05_Parse.l2 k5 x4_4 x5_9 x7_5 x8_5 0 ji30) = some (r1, r2, r3) := by first | (rw [hji30] at H; exact H) | (simp only [hji30] at H ⊢; exact H)
               have hji30_ : (if 0 < (wrap64 (x8_5 - 4)) then (wrap64 (x8_5 - 4)) else 0) = ji30 := hji30
               have H' := am_ H
               clear H
               go_wp2
               try simp only [Act.put, List.setIfInBounds_toArray, List.set_cons_zero, List.set_cons_succ]
               go_loopg [9, 10] k5 (fun kq v9 v10 w' => ∃ (x9_6 : Int) (x10_6 : Int), v9 = .int .i64 x9_6 ∧ v10 = .int .i64 x10_6 ∧ Aside0 (worldmintref05_Parse.l2 kq x4_4 x5_9 x7_5 x8_5 x9_6 x10_6 = some (r1, r2, r3)) ∧ Aside0 (kq ≤ k5) ∧ Aside0 (Kd.R (Kd.int .i64) 3 w' w.heap.size (fun k_ => (w.heap.size ≤ k_)) u7 x7_5) ∧ Aside0 (w'.heap[gb287]? = some (.cells #[.bool x288000_4, (.slice none 0 0)] 25 (0, 0))) ∧ Aside0 (Below w.heap.size w w'))
               case atStart => exact ⟨(0), (ji30), zq0, (by first | rfl | (simp; done) | (simp only [← hji30] <;> (first | rfl | simp)) | (simp [*]; done)), H', ⟨Nat.le_refl _⟩, ⟨by (with_reducible repeat (first | apply Kd.R_alloc | apply Kd.R_drewN | apply Kd.R_drew)); exact HO_7.out⟩, ⟨by (with_reducible repeat (first | refine blk_drewN ?_ _ | refine blk_drew ?_ | refine blk_alloc ?_ _)); exact BK287.out⟩, ⟨by repeat (first | (with_reducible first | exact HB.out | apply below_alloc | apply pw_below_drewN | apply below_drew1 | refine below_set ?_ GE287.out) | exact HB.out)⟩⟩
               case round =>
                clear H'
                try clear c1
                try clear p1
                try clear q1
                try clear hx1
                try clear qi1
                try clear c2
                try clear c2b0
                try clear c2b1
                try clear p2
                try clear q2
                try clear hx2
                try clear p6
                try clear c7
                try clear c7b0
                try clear c7b1
                try clear c8
                try clear c8b0
                try clear c8b1
                try clear p9
                try clear q9
                try clear hx9
                try clear qi9
                try clear c11
                try clear c12
                try clear c12b0
                try clear c12b1
                try clear c14
                try clear c14b0
                try clear c14b1
                try clear c15
                try clear c15b0
                try clear c15b1
                try clear p16
                try clear q16
                try clear hx16
                try clear qi16
                try clear c17
                try clear c17b0
                try clear c17b1
                try clear c18
                try clear c19
                try clear c21
                try clear c21b0
                try clear c22
                try clear c22b0
                try clear p23
                try clear q23
                try clear hx23
                try clear c24
                try clear c24b0
                try clear p26
                try clear q26
                try clear hx26
                try clear c27
                try clear c27b0
                try clear c29
                try clear c29b0
                try clear hcz20_0
                try clear hcz20_1
                try clear hcz25_0
                try clear hcz25_1
                try clear hcz28_0
                try clear hcz28_1
                try clear hcz4_0
                try clear hcz4_1
                try clear hfz20_0
                try clear hfz20_1
                try clear hfz25_0
                try clear hfz25_1
                try clear hfz28_0
                try clear hfz28_1
                try clear hfz4_0
                try clear hfz4_1
                try clear p1
                try clear p16
                try clear p2
                try clear p23
                try clear p26
                try clear p6
                try clear p9
                try clear q1
                try clear q16
                try clear q2
                try clear q23
                try clear q26
                try clear q9
                obtain ⟨x9_6, x10_6, rfl, rfl, HA, HK6, HO_7, BK287, HB⟩ := hrel
                cases gk with
                | zero => exact absurd HA.out (by simp [worldmintref05_Parse.l2])
                | succ k6 =>
                 have H := HA.out
                 clear HA
                 simp only [worldmintref05_Parse.l2] at H
                 by_cases c31 : x10_6 < x8_5
                 ·rw [if_pos c31] at H
                  have c31b0 : decide (x10_6 < x8_5) = true := decide_eq_true c31
                  clear c31
                  by_cases c32 : 0 ≤ x10_6
                  ·rw [if_pos c32] at H
                   have c32b0 : decide (0 ≤ x10_6) = true := decide_eq_true c32
                   clear c32
                   by_cases c33 : x10_6 < (x5_9.size : Int)
                   ·rw [if_pos c33] at H
                    have c33b0 : decide (x10_6 < (x5_9.size : Int)) = true := decide_eq_true c33
                    clear c33
                    have H' := am_ H
                    clear H
                    have p34 : 0 ≤ (x10_6 : Int) := of_decide_eq_true zq3
                    have q34 : x10_6 < (x5_9.size : Int) := of_decide_eq_true zq3
                    have hx34 := bt_at x5_9 x10_6
                    replace p34 := eq_true p34
                    replace q34 := eq_true q34
                    go_wp2
                    go_roundg k6
                    case measure => have := HJ4.out; have := HJ9.out; have := HJ12.out; have := HK4.out; have := HK5.out; have := HK6.out; omega
                    case rel => exact ⟨(wrap64 ((wrap64 (10 * x9_6)) + (((bt x5_9 x10_6) - 48) % 256))), (wrap64 (x10_6 + 1)), zq0, zq0, H', ⟨by have := HJ4.out; have := HJ9.out; have := HJ12.out; have := HK4.out; have := HK5.out; have := HK6.out; omega⟩, ⟨by (with_reducible repeat (first | apply Kd.R_alloc | apply Kd.R_drewN | apply Kd.R_drew)); exact HO_7.out⟩, ⟨by (with_reducible repeat (first | refine blk_drewN ?_ _ | refine blk_drew ?_ | refine blk_alloc ?_ _)); exact BK287.out⟩, ⟨by repeat (first | (with_reducible first | exact HB.out | apply below_alloc | apply pw_below_drewN | apply below_drew1 | refine below_set ?_ GE287.out) | exact HB.out)⟩⟩
                   ·rw [if_neg c33] at H
                    exact absurd H (by simp)
                  ·rw [if_neg c32] at H
                   exact absurd H (by simp)
                 ·rw [if_neg c31] at H
                  have c31b0 : decide (x10_6 < x8_5) = false := decide_eq_false c31
                  clear c31
                  by_cases c35 : x7_5.length < 17592186044416
                  ·rw [if_pos c35] at H
                   have LMc35 := am_ c35
                   clear c35
                   obtain ⟨y288, hy288⟩ : ∃ y_ : List Int, y_ = (x7_5 ++ [x9_6]) := ⟨_, rfl⟩
                   replace H : (worldmintref05_Parse.l1 k6 x4_4 x5_9 y288 (wrap64 (x8_5 - 4))) = some (r1, r2, r3) := by first | (rw [hy288]; with_reducible exact H) | (have H2_ := (Option.bind_some _ _).symm.trans H; rw [hy288]; with_reducible exact H2_) | (have H2_ := (Option.bind_some _ _).symm.trans H; with_reducible exact H2_) | with_reducible exact H | (rw [hy288]; exact H) | exact H
                   have Ny288 := am_ hy288
                   clear hy288
                   have H' := am_ H
                   clear H
                   go_wp2_with (first | ((with_reducible refine gate_builtin (b := .append) (xs := #[.tmp 85, .tmp 87]) rfl ?_); (try (refine gate_guard (by rfl) ?_; dsimp only)); at_builtin; refine Kd.R_append (Kd.int .i64) (w0 := w) w.heap.size rfl (.tmp 85) (.tmp 87) 22 3 (.int .i64 0) 8 rfl Tryz.underlying22 info3 rfl (by decide) (by omega) u7 x7_5 x9_6 [.int .i64 x9_6] (fun k_ => (w.heap.size ≤ k_)) (fun _ => False) rfl rfl ?aP (fun _ hk => hk.elim) ?aF ?aO ?aB ?aS ?aL ?_; (case aP => exact rfl); (case aB => exact zq46); (case aF => exact (fun k_ hk => (Nat.le_trans (below_size zq46) hk))); (case aO => exact (zq12 HO_7.out)); (case aS => exact (below_size zq46)); (case aL => have := LMc35.out; omega); intro v289 w36 ho hb hg hat; rw [← Ny288.out] at ho; replace BK287 := am_ (blk_grown (g := gb287) (o := .cells #[.bool x288000_4, .slice none 0 0] 25 (0, 0)) (zq9 BK287.out) hg (Kd.R_ne HO_7.out BK287.out (by decide))); replace HB := am_ (hb); have HO290 := am_ (ho); clear HO_7; clear ho hb hg hat))
                   go_roundg k6
                   case measure => have := HJ4.out; have := HJ9.out; have := HJ12.out; have := HK4.out; have := HK5.out; have := HK6.out; omega
                   case rel => exact ⟨(y288), (wrap64 (x8_5 - 4)), zq0, H', ⟨by have := HJ4.out; have := HJ9.out; have := HJ12.out; have := HK4.out; have := HK5.out; have := HK6.out; omega⟩, ⟨by (with_reducible repeat (first | apply Kd.R_alloc | apply Kd.R_drewN | apply Kd.R_drew)); exact HO290.out⟩, ⟨by (with_reducible repeat (first | refine blk_drewN ?_ _ | refine blk_drew ?_ | refine blk_alloc ?_ _)); exact BK287.out⟩, ⟨by repeat (first | (with_reducible first | exact HB.out | apply below_alloc | apply pw_below_drewN | apply below_drew1 | refine below_set ?_ GE287.out) | exact HB.out)⟩⟩
                  ·rw [if_neg c35] at H
                   exact absurd H (by simp)
              ·rw [if_neg c29] at H
               have c29b0 : decide (0 < x8_5) = false := decide_eq_false c29
               clear c29
               replace H := Option.bind_eq_some_iff.mp H
               obtain ⟨⟨t291, t292⟩, A370, H⟩ := H
               replace H : ((worldmintref05_Fits.f k5 t291 t292).bind fun t296 => (if t296 = true then (some (t291, t292, 0)) else (some (false, ([] : List Int), 4)))) = some (r1, r2, r3) := H
               have A37 := am_ A370
               clear A370
               replace H := Option.bind_eq_some_iff.mp H
               obtain ⟨t296, A380, H⟩ := H
               replace H : (if t296 = true then (some (t291, t292, 0)) else (some (false, ([] : List Int), 4))) = some (r1, r2, r3) := H
               have A38 := am_ A380
               clear A380
               by_cases c39 : t296 = true
               ·subst c39
                have H1 : (some (t291, t292, 0)) = some (r1, r2, r3) := by rw [if_pos rfl] at H; exact H
                clear H
                have H := H1
                clear H1
                simp only [Option.some.injEq, Prod.mk.injEq] at H
                obtain ⟨rfl, rfl, rfl⟩ := H
                obtain ⟨Ao40, co40, eo40⟩ := Kd.R_slice HO_7.out
                subst eo40
                go_wp2_with (first | ((with_reducible refine gate_callee (f := 54) rfl ?_); refine goesL_ (some 91) rfl rfl Tryz.func54 (by kernel_rfl) rfl #[.bool x4_4, .slice Ao40 x7_5.length co40] rfl zq4 ?_; (with_reducible refine (worldmintref05_normal.calls k5 x4_4 (fun k_ => some k_ = (.slice Ao40 x7_5.length co40 : Value).ownBlock) _ _ x7_5 t291 t292 _ ?side1 A37.out).mono ?_); (case side1 => exact zq47); rintro e w41 ⟨v293, rfl, ho0, hb⟩; refine ⟨_, rfl, ?_⟩; have n0_ := am_ (Kd.R_below (zq7 HO_7.out) hb); have n1_ := am_ (Kd.V_lower (Kd.V_mono (ok' := fun k_ => (w.heap.size ≤ k_) ∧ k_ ≠ gb287) ho0 (fun k_ hk_ => ⟨Or.elim hk_ (fun hs_ => ((Kd.R_types (HO_7.out) BK287.out (by decide)).1 k_ hs_.symm).1) (fun hn_ => (Nat.le_trans (below_size zq46) hn_)), Or.elim hk_ (fun hs_ => ((Kd.R_types (HO_7.out) BK287.out (by decide)).1 k_ hs_.symm).2) (fun hn_ => (Kd.freshB (g := gb287) (o := .cells #[.bool x288000_4, .slice none 0 0] 25 (0, 0)) (zq9 BK287.out) k_ hn_))⟩)) (below_size zq46)); have n2_ := am_ (blk_below (g := gb287) (o := .cells #[.bool x288000_4, .slice none 0 0] 25 (0, 0)) (zq9 BK287.out) hb); have n3_ := am_ (below_step zq46 hb); clear HO_7 BK287 HB; have HO_7 := n0_; have HO294 := n1_; have BK287 := n2_; have HB := n3_; clear n0_ n1_ n2_ n3_; (try clear hb); (try clear ho0)) | ((with_reducible refine gate_dst (N := 11) rfl ?_); (try (refine gate_guard (by rfl) ?_; dsimp only)); refine box_event ?hg (N := 11) ?hd (cs := #[.bool false, .slice none 0 0]) (t := 25) ?hr ?_; (case hd => rfl); (case hg => rfl); (case hr => exact zq1); intro gb295 hg w42 hbox hb; have n0_ := am_ (Kd.R_below (zq7 HO_7.out) hb); have n1_ := am_ (Kd.V_below (Kd.V_elderB (zq5 HO294.out) gb295 (Nat.le_of_eq hg.symm)) hb); have n2_ := am_ (blk_below (g := gb287) (o := .cells #[.bool x288000_4, .slice none 0 0] 25 (0, 0)) (zq9 BK287.out) hb); have n3_ := am_ (below_step zq46 hb); have n4_ := am_ (hbox); have n5_ := am_ ((by rw [hg]; exact (below_size zq46) : w.heap.size ≤ gb295)); have n6_ := am_ ((by rw [hg]; exact Nat.ne_of_lt (blk_lt (g := gb287) (zq9 BK287.out)) : gb287 ≠ gb295)); have n7_ := am_ ((by rw [hg]; exact Nat.ne_of_gt (blk_lt (g := gb287) (zq9 BK287.out)) : gb295 ≠ gb287)); clear HO_7 HO294 BK287 HB; have HO_7 := n0_; have HO294 := n1_; have BK287 := n2_; have HB := n3_; have BK295 := n4_; have GE295 := n5_; have NB287_295 := n6_; have NB295_287 := n7_; clear n0_ n1_ n2_ n3_ n4_ n5_ n6_ n7_; clear hb hbox hg; have hnb43 := NB295_287.out; have hnc43 := NB287_295.out; have hcz44_0 : w42.cell? ⟨gb295, 0, none⟩ = some (.bool false) := (blk_cell BK295.out 0).trans rfl; have hcz44_1 : w42.cell? ⟨gb295, 1, none⟩ = some (.slice none 0 0) := (blk_cell BK295.out 1).trans rfl; have hfz44_0 := blk_frozen BK295.out 0; have hfz44_1 := blk_frozen BK295.out 1; obtain ⟨Ao45, co45, eo45⟩ := Kd.V_slice HO294.out; subst eo45) | ((with_reducible refine gate_callee (f := 43) rfl ?_); refine goesL_ (some 93) rfl rfl Tryz.func43 (by kernel_rfl) rfl #[.agg #[.bool t291, .slice Ao45 t292.length co45]] rfl zq4 ?_; (with_reducible refine (worldmintref05_Fits.calls k5 t291 _ _ t292 true _ ?side1 ?side2 A38.out).mono ?_); (case side1 => refine (Kd.V_reads' (e := 3) (base := w.heap.size) (ok := fun k_ => (((w.heap.size ≤ k_) ∧ k_ ≠ gb287) ∧ k_ ≠ gb295)) (n := t292.length) (c := co45) ?_).2.2; exact (zq48 HO294.out)); (case side2 => exact (Kd.V_reads' HO294.out).2.1); rintro e w46 ⟨rfl, hb⟩; refine ⟨_, rfl, ?_⟩; replace HO_7 := am_ (Kd.R_below (by (with_reducible repeat (first | apply Kd.R_alloc | apply Kd.R_drewN | apply Kd.R_drew)); exact (Kd.R_mono (Kd.R_far (p := ⟨gb295, 1, none⟩) (Kd.R_far (p := ⟨gb295, 0, none⟩) (Kd.R_types HO_7.out BK295.out (by decide)) (fun _ hk => hk.2) (.bool t291)) (fun _ hk => hk.2) (.slice Ao45 t292.length co45)) (fun _ h_ => h_.1))) hb); replace HO294 := am_ (Kd.V_below (zq48 HO294.out) hb); replace BK287 := am_ (blk_below (g := gb287) (o := .cells #[.bool x288000_4, .slice none 0 0] 25 (0, 0)) (zq49 BK287.out) hb); replace BK295 := am_ (blk_below (g := gb295) (o := .cells #[.bool t291, .slice Ao45 t292.length co45] 25 (0, 0)) (by (with_reducible repeat (first | refine blk_drewN ?_ _ | refine blk_drew ?_ | refine blk_alloc ?_ _)); refine blk_put (cs := #[.bool t291, .slice none 0 0]) ?_ 1 _ rfl; (with_reducible repeat (first | refine blk_drewN ?_ _ | refine blk_drew ?_ | refine blk_alloc ?_ _)); refine blk_put (cs := #[.bool false, .slice none 0 0]) ?_ 0 _ rfl; (with_reducible repeat (first | refine blk_drewN ?_ _ | refine blk_drew ?_ | refine blk_alloc ?_ _)); exact BK295.out) hb); replace HB := am_ (below_step zq50 hb); (try clear hb); have hcz47_0 : w46.cell? ⟨gb295, 0, none⟩ = some (.bool t291) := (blk_cell BK295.out 0).trans rfl; have hcz47_1 : w46.cell? ⟨gb295, 1, none⟩ = some (.slice Ao45 t292.length co45) := (blk_cell BK295.out 1).trans rfl; have hfz47_0 := blk_frozen BK295.out 0; have hfz47_1 := blk_frozen BK295.out 1; have hcz48_0 : w46.cell? ⟨gb287, 0, none⟩ = some (.bool x288000_4) := (blk_cell BK287.out 0).trans rfl; have hcz48_1 : w46.cell? ⟨gb287, 1, none⟩ = some (.slice none 0 0) := (blk_cell BK287.out 1).trans rfl; have hfz48_0 := blk_frozen BK287.out 0; have hfz48_1 := blk_frozen BK287.out 1))
                refine bodyPost_ret (results_ct rfl _ _ gb287 25 #[.bool t291, .slice Ao45 t292.length co45] (0, 0) _ rfl (by (with_reducible repeat (first | refine blk_drewN ?_ _ | refine blk_drew ?_ | refine blk_alloc ?_ _)); refine blk_put (cs := #[.bool t291, .slice none 0 0]) ?_ 1 _ rfl; (with_reducible repeat (first | refine blk_drewN ?_ _ | refine blk_drew ?_ | refine blk_alloc ?_ _)); refine blk_put (cs := #[.bool x288000_4, .slice none 0 0]) ?_ 0 _ rfl; (with_reducible repeat (first | refine blk_drewN ?_ _ | refine blk_drew ?_ | refine blk_alloc ?_ _)); exact BK287.out) Tryz.underlying25 rfl (by kernel_rfl)) rfl ?_
                exact ⟨_, by first | rfl | (simp [errW_none, errW_some] <;> rfl) | (simp [*, errW_none, errW_some] <;> rfl), by (with_reducible repeat (first | apply Kd.V_alloc | apply Kd.V_drewN | apply Kd.V_drew)); exact Kd.V_mono (Kd.V_far (p := ⟨gb287, 1, none⟩) (Kd.V_far (p := ⟨gb287, 0, none⟩) (Kd.V_mono HO294.out (fun k_ hk => (⟨hk, hk.1.2⟩ : _ ∧ k_ ≠ gb287))) (fun _ hk => hk.2) (.bool t291)) (fun _ hk => hk.2) (.slice Ao45 t292.length co45)) (fun _ hk => hk.1.1.1), by repeat (first | (with_reducible first | exact HB.out | apply below_alloc | apply pw_below_drewN | apply below_drew1 | refine below_set ?_ GE287.out | refine below_set ?_ GE295.out) | exact HB.out)⟩
               ·replace c39 := Bool.eq_false_iff.mpr c39
                subst c39
                have H1 : (some (false, ([] : List Int), 4)) = some (r1, r2, r3) := by rw [if_neg (show ¬ (false = true) by decide)] at H; exact H
                clear H
                have H := H1
                clear H1
                simp only [Option.some.injEq, Prod.mk.injEq] at H
                obtain ⟨rfl, rfl, rfl⟩ := H
                obtain ⟨Ao49, co49, eo49⟩ := Kd.R_slice HO_7.out
                subst eo49
                go_wp2_with (first | ((with_reducible refine gate_callee (f := 54) rfl ?_); refine goesL_ (some 91) rfl rfl Tryz.func54 (by kernel_rfl) rfl #[.bool x4_4, .slice Ao49 x7_5.length co49] rfl zq4 ?_; (with_reducible refine (worldmintref05_normal.calls k5 x4_4 (fun k_ => some k_ = (.slice Ao49 x7_5.length co49 : Value).ownBlock) _ _ x7_5 t291 t292 _ ?side1 A37.out).mono ?_); (case side1 => exact zq47); rintro e w50 ⟨v293, rfl, ho0, hb⟩; refine ⟨_, rfl, ?_⟩; have n0_ := am_ (Kd.R_below (zq7 HO_7.out) hb); have n1_ := am_ (Kd.V_lower (Kd.V_mono (ok' := fun k_ => (w.heap.size ≤ k_) ∧ k_ ≠ gb287) ho0 (fun k_ hk_ => ⟨Or.elim hk_ (fun hs_ => ((Kd.R_types (HO_7.out) BK287.out (by decide)).1 k_ hs_.symm).1) (fun hn_ => (Nat.le_trans (below_size zq46) hn_)), Or.elim hk_ (fun hs_ => ((Kd.R_types (HO_7.out) BK287.out (by decide)).1 k_ hs_.symm).2) (fun hn_ => (Kd.freshB (g := gb287) (o := .cells #[.bool x288000_4, .slice none 0 0] 25 (0, 0)) (zq9 BK287.out) k_ hn_))⟩)) (below_size zq46)); have n2_ := am_ (blk_below (g := gb287) (o := .cells #[.bool x288000_4, .slice none 0 0] 25 (0, 0)) (zq9 BK287.out) hb); have n3_ := am_ (below_step zq46 hb); clear HO_7 BK287 HB; have HO_7 := n0_; have HO294 := n1_; have BK287 := n2_; have HB := n3_; clear n0_ n1_ n2_ n3_; (try clear hb); (try clear ho0)) | ((with_reducible refine gate_dst (N := 11) rfl ?_); (try (refine gate_guard (by rfl) ?_; dsimp only)); refine box_event ?hg (N := 11) ?hd (cs := #[.bool false, .slice none 0 0]) (t := 25) ?hr ?_; (case hd => rfl); (case hg => rfl); (case hr => exact zq1); intro gb295 hg w51 hbox hb; have n0_ := am_ (Kd.V_below (Kd.V_elderB (zq5 HO294.out) gb295 (Nat.le_of_eq hg.symm)) hb); have n1_ := am_ (blk_below (g := gb287) (o := .cells #[.bool x288000_4, .slice none 0 0] 25 (0, 0)) (zq9 BK287.out) hb); have n2_ := am_ (below_step zq46 hb); have n3_ := am_ (hbox); have n4_ := am_ ((by rw [hg]; exact (below_size zq46) : w.heap.size ≤ gb295)); have n5_ := am_ ((by rw [hg]; exact Nat.ne_of_lt (blk_lt (g := gb287) (zq9 BK287.out)) : gb287 ≠ gb295)); have n6_ := am_ ((by rw [hg]; exact Nat.ne_of_gt (blk_lt (g := gb287) (zq9 BK287.out)) : gb295 ≠ gb287)); clear HO294 BK287 HB; have HO294 := n0_; have BK287 := n1_; have HB := n2_; have BK295 := n3_; have GE295 := n4_; have NB287_295 := n5_; have NB295_287 := n6_; clear n0_ n1_ n2_ n3_ n4_ n5_ n6_; clear hb hbox hg; have hnb52 := NB295_287.out; have hnc52 := NB287_295.out; have hcz53_0 : w51.cell? ⟨gb295, 0, none⟩ = some (.bool false) := (blk_cell BK295.out 0).trans rfl; have hcz53_1 : w51.cell? ⟨gb295, 1, none⟩ = some (.slice none 0 0) := (blk_cell BK295.out 1).trans rfl; have hfz53_0 := blk_frozen BK295.out 0; have hfz53_1 := blk_frozen BK295.out 1; obtain ⟨Ao54, co54, eo54⟩ := Kd.V_slice HO294.out; subst eo54) | ((with_reducible refine gate_callee (f := 43) rfl ?_); refine goesL_ (some 93) rfl rfl Tryz.func43 (by kernel_rfl) rfl #[.agg #[.bool t291, .slice Ao54 t292.length co54]] rfl zq4 ?_; (with_reducible refine (worldmintref05_Fits.calls k5 t291 _ _ t292 false _ ?side1 ?side2 A38.out).mono ?_); (case side1 => refine (Kd.V_reads' (e := 3) (base := w.heap.size) (ok := fun k_ => (((w.heap.size ≤ k_) ∧ k_ ≠ gb287) ∧ k_ ≠ gb295)) (n := t292.length) (c := co54) ?_).2.2; exact (by (with_reducible repeat (first | apply Kd.V_alloc | apply Kd.V_drewN | apply Kd.V_drew)); exact (Kd.V_mono (Kd.V_far (p := ⟨gb295, 1, none⟩) (Kd.V_far (p := ⟨gb295, 0, none⟩) (Kd.V_mono HO294.out (fun k_ hk => (⟨hk, hk.2⟩ : _ ∧ k_ ≠ gb295))) (fun _ hk => hk.2) (.bool t291)) (fun _ hk => hk.2) (.slice Ao54 t292.length co54)) (fun _ h_ => h_.1)))); (case side2 => exact (Kd.V_reads' HO294.out).2.1); rintro e w55 ⟨rfl, hb⟩; refine ⟨_, rfl, ?_⟩; replace BK287 := am_ (blk_below (g := gb287) (o := .cells #[.bool x288000_4, .slice none 0 0] 25 (0, 0)) (zq49 BK287.out) hb); replace HB := am_ (below_step zq50 hb); (try clear hb); have hcz56_0 : w55.cell? ⟨gb287, 0, none⟩ = some (.bool x288000_4) := (blk_cell BK287.out 0).trans rfl; have hcz56_1 : w55.cell? ⟨gb287, 1, none⟩ = some (.slice none 0 0) := (blk_cell BK287.out 1).trans rfl; have hfz56_0 := blk_frozen BK287.out 0; have hfz56_1 := blk_frozen BK287.out 1))
                refine bodyPost_ret (results_ct rfl _ _ gb287 25 #[.bool false, .slice none 0 0] (0, 0) _ rfl (zq45 BK287.out) Tryz.underlying25 rfl (by kernel_rfl)) rfl ?_
                exact ⟨_, by first | rfl | (simp [errW_none, errW_some] <;> rfl) | (simp [*, errW_none, errW_some] <;> rfl), Kd.R_V (base := 0) zq38, by repeat (first | (with_reducible first | exact HB.out | apply below_alloc | apply pw_below_drewN | apply below_drew1 | refine below_set ?_ GE287.out | refine below_set ?_ GE295.out) | exact HB.out)⟩

end Go.Proofs.YtlceokefdihdkaaGreatDoor.X
