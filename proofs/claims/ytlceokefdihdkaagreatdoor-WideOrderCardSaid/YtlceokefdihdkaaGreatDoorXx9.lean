-- Written by a program of this session (xprint) out of the translation: Lean checks it.
import Derived.Test.YtlceokefdihdkaaGreatDoorXx0
import Derived.Test.YtlceokefdihdkaaGreatDoorXx2
import Derived.Test.YtlceokefdihdkaaGreatDoorXx8
namespace Go.Proofs.YtlceokefdihdkaaGreatDoor.X
open Go.RowKit Go.Proofs.YtlceokefdihdkaaGreatDoorW.PrintWords Go.Proofs.YtlceokefdihdkaaGreatDoorW.PrintLast Go.Proofs.YtlceokefdihdkaaGreatDoorW.PrintMore
attribute [local go_sem] max2_int min2_int max_two min_two max_three min_three max_four min_four   -- for this text's walks alone
set_option linter.unusedVariables false
set_option linter.unusedSimpArgs false

/-! ### wide_Compare: function 37 -/
def wide_Compare.j0 : Nat → Bool → Bool → List Int → Bool → List Int → Option (Int)
 | 0, _, _, _, _, _ => none
 | k + 1, x5, x455000, x455001, x456000, x456001 => if x5 = true then ((wide_compare.f k x456001 x455001).bind fun t456 => (some t456)) else (if x455000 = true then (some (-1)) else (if x456000 = true then (some 1) else ((wide_compare.f k x455001 x456001).bind fun t457 => (some t457))))
def wide_Compare.f (k : Nat) (a0_0 : Bool) (l0_1 : List Int) (a1_0 : Bool) (l1_1 : List Int) : Option (Int) := if a0_0 = true then (wide_Compare.j0 k a1_0 a0_0 l0_1 a1_0 l1_1) else (wide_Compare.j0 k false a0_0 l0_1 a1_0 l1_1)
theorem wide_Compare.mono_l : ∀ k, (∀ y0 y1 y2 y3 y4, LeO (wide_Compare.j0 k y0 y1 y2 y3 y4) (wide_Compare.j0 (k + 1) y0 y1 y2 y3 y4))
 | 0 => fun _ _ _ _ _ r h => by simp [wide_Compare.j0] at h
 | k + 1 => by
  have ih0 := wide_Compare.mono_l k
  ·intro y0 y1 y2 y3 y4
   unfold wide_Compare.j0
   repeat' first
   | (with_reducible exact ih0 _ _ _ _ _)
   | (with_reducible exact wide_compare.mono _ _ _)
   | (with_reducible exact LeO.refl _)
   | (with_reducible exact LeO.none _)
   | (with_reducible refine LeO.ite ?_ ?_)
   | (with_reducible refine LeO.bind ?_ (fun _ => ?_))
   | exact ih0 _ _ _ _ _
   | exact wide_compare.mono _ _ _
   | exact LeO.none _
   | refine LeO.ite ?_ ?_
   | refine LeO.bind ?_ (fun _ => ?_)
theorem wide_Compare.mono : ∀ a0 a1 a2 a3 k, LeO (wide_Compare.f k a0 a1 a2 a3) (wide_Compare.f (k + 1) a0 a1 a2 a3) := by
 intro a0 a1 a2 a3 k
 have ih0 := wide_Compare.mono_l k
 unfold wide_Compare.f
 repeat' first
   | (with_reducible exact ih0 _ _ _ _ _)
   | (with_reducible exact wide_compare.mono _ _ _)
   | (with_reducible exact LeO.refl _)
   | (with_reducible exact LeO.none _)
   | (with_reducible refine LeO.ite ?_ ?_)
   | (with_reducible refine LeO.bind ?_ (fun _ => ?_))
   | exact ih0 _ _ _ _ _
   | exact wide_compare.mono _ _ _
   | exact LeO.none _
   | refine LeO.ite ?_ ?_
   | refine LeO.bind ?_ (fun _ => ?_)
set_option maxHeartbeats 8000000 in
set_option maxRecDepth 100000 in
theorem wide_Compare.calls (k : Nat) (a0_0 : Bool) (A0_1 : Option Addr) (c0_1 : Nat) (l0_1 : List Int) (a1_0 : Bool) (A1_1 : Option Addr) (c1_1 : Nat) (l1_1 : List Int) (r : Int) (w : World) (hr0_1 : Kd.C (Kd.int .u32) w A0_1 l0_1.length l0_1) (hc0_1 : l0_1.length ≤ c0_1) (hr1_1 : Kd.C (Kd.int .u32) w A1_1 l1_1.length l1_1) (hc1_1 : l1_1.length ≤ c1_1) (h : wide_Compare.f k a0_0 l0_1 a1_0 l1_1 = some r) :
  Calls Tryz.prog 37 #[.agg #[.bool a0_0, .slice A0_1 l0_1.length c0_1], .agg #[.bool a1_0, .slice A1_1 l1_1.length c1_1]] w fun e w' => e = .returned (.int .i64 r) ∧ Below w.heap.size w w' := by
 have hu33 := Tryz.underlying33
 have HR0_1 := am_ hr0_1
 have HC0_1 := am_ hc0_1
 clear hr0_1 hc0_1
 have HR1_1 := am_ hr1_1
 have HC1_1 := am_ hc1_1
 clear hr1_1 hc1_1
 have HB := am_ (Below.refl w.heap.size w)
 have H : (if a0_0 = true then (wide_Compare.j0 k a1_0 a0_0 l0_1 a1_0 l1_1) else (wide_Compare.j0 k false a0_0 l0_1 a1_0 l1_1)) = some r := h
 clear h
 have HC3 := am_ H
 clear H
 go_enter Tryz.func37, Tryz.ntmps37
 go_upto_region 1 with (first | ((with_reducible refine gate_dst (N := 2) rfl ?_); refine box_event ?hg (N := 2) ?hd (cs := #[.bool a0_0, .slice A0_1 l0_1.length c0_1]) (t := 33) ?hr ?_; (case hd => rfl); (case hg => rfl); (case hr => exact zq0); intro gb454 hg w4 hbox hb; have n0_ := am_ (below_step zq2 hb); have n1_ := am_ (hbox); have n2_ := am_ ((by rw [hg]; exact (below_size zq2) : w.heap.size ≤ gb454)); clear HB; have HB := n0_; have BK454 := n1_; have GE454 := n2_; clear n0_ n1_ n2_; clear hb hbox hg) | ((with_reducible refine gate_dst (N := 3) rfl ?_); refine box_event ?hg (N := 3) ?hd (cs := #[.bool a1_0, .slice A1_1 l1_1.length c1_1]) (t := 33) ?hr ?_; (case hd => rfl); (case hg => rfl); (case hr => exact zq0); intro gb455 hg w5 hbox hb; have n0_ := am_ (blk_below (g := gb454) (o := .cells #[.bool a0_0, .slice A0_1 l0_1.length c0_1] 33 (0, 0)) (zq9 BK454.out) hb); have n1_ := am_ (below_step zq87 hb); have n2_ := am_ (hbox); have n3_ := am_ ((by rw [hg]; exact (below_size zq87) : w.heap.size ≤ gb455)); have n4_ := am_ ((by rw [hg]; exact Nat.ne_of_lt (blk_lt (g := gb454) (zq9 BK454.out)) : gb454 ≠ gb455)); have n5_ := am_ ((by rw [hg]; exact Nat.ne_of_gt (blk_lt (g := gb454) (zq9 BK454.out)) : gb455 ≠ gb454)); clear BK454 HB; have BK454 := n0_; have HB := n1_; have BK455 := n2_; have GE455 := n3_; have NB454_455 := n4_; have NB455_454 := n5_; clear n0_ n1_ n2_ n3_ n4_ n5_; clear hb hbox hg))
 (try simp only [Act.put, List.setIfInBounds_toArray, List.set_cons_zero, List.set_cons_succ])
 go_cut [5] (fun v5 wc => ∃ (kq : Nat) (x5_2 : Bool), v5 = .bool x5_2 ∧ Aside0 (wide_Compare.j0 kq x5_2 a0_0 l0_1 a1_0 l1_1 = some r) ∧ Aside0 (kq ≤ k) ∧ Aside0 (wc.heap[gb454]? = some (.cells #[.bool a0_0, (.slice A0_1 l0_1.length c0_1)] 33 (0, 0))) ∧ Aside0 (wc.heap[gb455]? = some (.cells #[.bool a1_0, (.slice A1_1 l1_1.length c1_1)] 33 (0, 0))) ∧ Aside0 (Below w.heap.size w wc))
 case first =>
  have H := HC3.out
  clear HC3
  by_cases c6 : a0_0 = true
  ·subst c6
   have H1 : (wide_Compare.j0 k a1_0 true l0_1 a1_0 l1_1) = some r := by rw [if_pos rfl] at H; exact H
   clear H
   have H := H1
   clear H1
   have H' := am_ H
   clear H
   have hnb7 := NB454_455.out
   have hnc7 := NB455_454.out
   have hcz8_0 : w5.cell? ⟨gb454, 0, none⟩ = some (.bool true) := (blk_cell BK454.out 0).trans rfl
   have hcz8_1 : w5.cell? ⟨gb454, 1, none⟩ = some (.slice A0_1 l0_1.length c0_1) := (blk_cell BK454.out 1).trans rfl
   have hfz8_0 := blk_frozen BK454.out 0
   have hfz8_1 := blk_frozen BK454.out 1
   have hcz9_0 : w5.cell? ⟨gb455, 0, none⟩ = some (.bool a1_0) := (blk_cell BK455.out 0).trans rfl
   have hcz9_1 : w5.cell? ⟨gb455, 1, none⟩ = some (.slice A1_1 l1_1.length c1_1) := (blk_cell BK455.out 1).trans rfl
   have hfz9_0 := blk_frozen BK455.out 0
   have hfz9_1 := blk_frozen BK455.out 1
   go_wp2
   go_meet
   case rel => exact ⟨_, (a1_0), zq5, H', ⟨by first | omega | exact Nat.le_refl _⟩, ⟨by (with_reducible repeat (first | refine blk_drewN ?_ _ | refine blk_drew ?_ | refine blk_alloc ?_ _)); exact BK454.out⟩, ⟨by (with_reducible repeat (first | refine blk_drewN ?_ _ | refine blk_drew ?_ | refine blk_alloc ?_ _)); exact BK455.out⟩, ⟨by repeat (first | (with_reducible first | exact HB.out | apply below_alloc | apply pw_below_drewN | apply below_drew1 | refine below_set ?_ GE454.out | refine below_set ?_ GE455.out) | exact HB.out)⟩⟩
  ·replace c6 := Bool.eq_false_iff.mpr c6
   subst c6
   have H1 : (wide_Compare.j0 k false false l0_1 a1_0 l1_1) = some r := by rw [if_neg (show ¬ (false = true) by decide)] at H; exact H
   clear H
   have H := H1
   clear H1
   have H' := am_ H
   clear H
   have hnb10 := NB454_455.out
   have hnc10 := NB455_454.out
   have hcz11_0 : w5.cell? ⟨gb454, 0, none⟩ = some (.bool false) := (blk_cell BK454.out 0).trans rfl
   have hcz11_1 : w5.cell? ⟨gb454, 1, none⟩ = some (.slice A0_1 l0_1.length c0_1) := (blk_cell BK454.out 1).trans rfl
   have hfz11_0 := blk_frozen BK454.out 0
   have hfz11_1 := blk_frozen BK454.out 1
   go_wp2
   go_meet
   case rel => exact ⟨_, (false), zq5, H', ⟨by first | omega | exact Nat.le_refl _⟩, ⟨by (with_reducible repeat (first | refine blk_drewN ?_ _ | refine blk_drew ?_ | refine blk_alloc ?_ _)); exact BK454.out⟩, ⟨by (with_reducible repeat (first | refine blk_drewN ?_ _ | refine blk_drew ?_ | refine blk_alloc ?_ _)); exact BK455.out⟩, ⟨by repeat (first | (with_reducible first | exact HB.out | apply below_alloc | apply pw_below_drewN | apply below_drew1 | refine below_set ?_ GE454.out | refine below_set ?_ GE455.out) | exact HB.out)⟩⟩
 case rest =>
  clear HC3
  try clear c1
  try clear p2
  try clear c3
  try clear c6
  try clear c7
  try clear c10
  try clear hcz11_0
  try clear hcz11_1
  try clear hcz8_0
  try clear hcz8_1
  try clear hcz9_0
  try clear hcz9_1
  try clear hfz11_0
  try clear hfz11_1
  try clear hfz8_0
  try clear hfz8_1
  try clear hfz9_0
  try clear hfz9_1
  obtain ⟨kq, x5_2, rfl, HA, HJ2, BK454, BK455, HB⟩ := hcut
  cases kq with
  | zero => exact absurd HA.out (by simp [wide_Compare.j0])
  | succ kj2 =>
   have H := HA.out
   clear HA
   simp only [wide_Compare.j0] at H
   by_cases c12 : x5_2 = true
   ·subst c12
    have H1 : ((wide_compare.f kj2 l1_1 l0_1).bind fun t456 => (some t456)) = some r := by rw [if_pos rfl] at H; exact H
    clear H
    have H := H1
    clear H1
    replace H := Option.bind_eq_some_iff.mp H
    obtain ⟨t456, A130, H⟩ := H
    replace H : (some t456) = some r := H
    have A13 := am_ A130
    clear A130
    obtain rfl := Option.some.inj H
    have hnb14 := NB455_454.out
    have hnc14 := NB454_455.out
    have hcz15_0 : wc.cell? ⟨gb455, 0, none⟩ = some (.bool a1_0) := (blk_cell BK455.out 0).trans rfl
    have hcz15_1 : wc.cell? ⟨gb455, 1, none⟩ = some (.slice A1_1 l1_1.length c1_1) := (blk_cell BK455.out 1).trans rfl
    have hfz15_0 := blk_frozen BK455.out 0
    have hfz15_1 := blk_frozen BK455.out 1
    have hcz16_0 : wc.cell? ⟨gb454, 0, none⟩ = some (.bool a0_0) := (blk_cell BK454.out 0).trans rfl
    have hcz16_1 : wc.cell? ⟨gb454, 1, none⟩ = some (.slice A0_1 l0_1.length c0_1) := (blk_cell BK454.out 1).trans rfl
    have hfz16_0 := blk_frozen BK454.out 0
    have hfz16_1 := blk_frozen BK454.out 1
    go_wp2_with (first | ((with_reducible refine gate_callee (f := 67) rfl ?_); refine goesL_ (some 16) rfl rfl Tryz.func67 (by kernel_rfl) rfl #[.slice A1_1 l1_1.length c1_1, .slice A0_1 l0_1.length c0_1] rfl zq6 ?_; (with_reducible refine (wide_compare.calls kj2 _ _ l1_1 _ _ l0_1 t456 _ ?side1 ?side2 ?side3 ?side4 A13.out).mono ?_); (case side1 => exact zq25); (case side2 => exact HC1_1.out); (case side3 => exact zq24); (case side4 => exact HC0_1.out); rintro e w' ⟨rfl, ⟨nd, rfl⟩⟩; refine ⟨_, rfl, ?_⟩))
    go_ret
    exact ⟨by first | rfl | (simp [errW_none, errW_some] <;> rfl) | (simp [*, errW_none, errW_some] <;> rfl), by repeat (first | (with_reducible first | exact HB.out | apply below_alloc | apply pw_below_drewN | apply below_drew1 | refine below_set ?_ GE454.out | refine below_set ?_ GE455.out) | exact HB.out)⟩
   ·replace c12 := Bool.eq_false_iff.mpr c12
    subst c12
    have H1 : (if a0_0 = true then (some (-1)) else (if a1_0 = true then (some 1) else ((wide_compare.f kj2 l0_1 l1_1).bind fun t457 => (some t457)))) = some r := by rw [if_neg (show ¬ (false = true) by decide)] at H; exact H
    clear H
    have H := H1
    clear H1
    by_cases c17 : a0_0 = true
    ·subst c17
     have H1 : (some (-1)) = some r := by rw [if_pos rfl] at H; exact H
     clear H
     have H := H1
     clear H1
     obtain rfl := Option.some.inj H
     have hnb18 := NB454_455.out
     have hnc18 := NB455_454.out
     have hcz19_0 : wc.cell? ⟨gb454, 0, none⟩ = some (.bool true) := (blk_cell BK454.out 0).trans rfl
     have hcz19_1 : wc.cell? ⟨gb454, 1, none⟩ = some (.slice A0_1 l0_1.length c0_1) := (blk_cell BK454.out 1).trans rfl
     have hfz19_0 := blk_frozen BK454.out 0
     have hfz19_1 := blk_frozen BK454.out 1
     go_wp2
     go_ret
     exact ⟨by first | rfl | (simp [errW_none, errW_some] <;> rfl) | (simp [*, errW_none, errW_some] <;> rfl), by repeat (first | (with_reducible first | exact HB.out | apply below_alloc | apply pw_below_drewN | apply below_drew1 | refine below_set ?_ GE454.out | refine below_set ?_ GE455.out) | exact HB.out)⟩
    ·replace c17 := Bool.eq_false_iff.mpr c17
     subst c17
     have H1 : (if a1_0 = true then (some 1) else ((wide_compare.f kj2 l0_1 l1_1).bind fun t457 => (some t457))) = some r := by rw [if_neg (show ¬ (false = true) by decide)] at H; exact H
     clear H
     have H := H1
     clear H1
     by_cases c20 : a1_0 = true
     ·subst c20
      have H1 : (some 1) = some r := by rw [if_pos rfl] at H; exact H
      clear H
      have H := H1
      clear H1
      obtain rfl := Option.some.inj H
      have hnb21 := NB454_455.out
      have hnc21 := NB455_454.out
      have hcz22_0 : wc.cell? ⟨gb454, 0, none⟩ = some (.bool false) := (blk_cell BK454.out 0).trans rfl
      have hcz22_1 : wc.cell? ⟨gb454, 1, none⟩ = some (.slice A0_1 l0_1.length c0_1) := (blk_cell BK454.out 1).trans rfl
      have hfz22_0 := blk_frozen BK454.out 0
      have hfz22_1 := blk_frozen BK454.out 1
      have hcz23_0 : wc.cell? ⟨gb455, 0, none⟩ = some (.bool true) := (blk_cell BK455.out 0).trans rfl
      have hcz23_1 : wc.cell? ⟨gb455, 1, none⟩ = some (.slice A1_1 l1_1.length c1_1) := (blk_cell BK455.out 1).trans rfl
      have hfz23_0 := blk_frozen BK455.out 0
      have hfz23_1 := blk_frozen BK455.out 1
      go_wp2
      go_ret
      exact ⟨by first | rfl | (simp [errW_none, errW_some] <;> rfl) | (simp [*, errW_none, errW_some] <;> rfl), by repeat (first | (with_reducible first | exact HB.out | apply below_alloc | apply pw_below_drewN | apply below_drew1 | refine below_set ?_ GE454.out | refine below_set ?_ GE455.out) | exact HB.out)⟩
     ·replace c20 := Bool.eq_false_iff.mpr c20
      subst c20
      have H1 : ((wide_compare.f kj2 l0_1 l1_1).bind fun t457 => (some t457)) = some r := by rw [if_neg (show ¬ (false = true) by decide)] at H; exact H
      clear H
      have H := H1
      clear H1
      replace H := Option.bind_eq_some_iff.mp H
      obtain ⟨t457, A240, H⟩ := H
      replace H : (some t457) = some r := H
      have A24 := am_ A240
      clear A240
      obtain rfl := Option.some.inj H
      have hnb25 := NB454_455.out
      have hnc25 := NB455_454.out
      have hcz26_0 : wc.cell? ⟨gb454, 0, none⟩ = some (.bool false) := (blk_cell BK454.out 0).trans rfl
      have hcz26_1 : wc.cell? ⟨gb454, 1, none⟩ = some (.slice A0_1 l0_1.length c0_1) := (blk_cell BK454.out 1).trans rfl
      have hfz26_0 := blk_frozen BK454.out 0
      have hfz26_1 := blk_frozen BK454.out 1
      have hcz27_0 : wc.cell? ⟨gb455, 0, none⟩ = some (.bool false) := (blk_cell BK455.out 0).trans rfl
      have hcz27_1 : wc.cell? ⟨gb455, 1, none⟩ = some (.slice A1_1 l1_1.length c1_1) := (blk_cell BK455.out 1).trans rfl
      have hfz27_0 := blk_frozen BK455.out 0
      have hfz27_1 := blk_frozen BK455.out 1
      go_wp2_with (first | ((with_reducible refine gate_callee (f := 67) rfl ?_); refine goesL_ (some 27) rfl rfl Tryz.func67 (by kernel_rfl) rfl #[.slice A0_1 l0_1.length c0_1, .slice A1_1 l1_1.length c1_1] rfl zq6 ?_; (with_reducible refine (wide_compare.calls kj2 _ _ l0_1 _ _ l1_1 t457 _ ?side1 ?side2 ?side3 ?side4 A24.out).mono ?_); (case side1 => exact zq24); (case side2 => exact HC0_1.out); (case side3 => exact zq25); (case side4 => exact HC1_1.out); rintro e w' ⟨rfl, ⟨nd, rfl⟩⟩; refine ⟨_, rfl, ?_⟩))
      go_ret
      exact ⟨by first | rfl | (simp [errW_none, errW_some] <;> rfl) | (simp [*, errW_none, errW_some] <;> rfl), by repeat (first | (with_reducible first | exact HB.out | apply below_alloc | apply pw_below_drewN | apply below_drew1 | refine below_set ?_ GE454.out | refine below_set ?_ GE455.out) | exact HB.out)⟩

/-! ### worldmintref05_Compare: function 38 -/
def worldmintref05_Compare.f (k : Nat) (a0_0 : Bool) (l0_1 : List Int) (a1_0 : Bool) (l1_1 : List Int) : Option (Int) := if (!(a0_0 == a1_0)) = true then (if a0_0 = true then (some (-1)) else (some 1)) else (if a0_0 = true then ((worldmintref05_compared.f k l1_1 l0_1).bind fun t460 => (some t460)) else ((worldmintref05_compared.f k l0_1 l1_1).bind fun t461 => (some t461)))
theorem worldmintref05_Compare.mono : ∀ a0 a1 a2 a3 k, LeO (worldmintref05_Compare.f k a0 a1 a2 a3) (worldmintref05_Compare.f (k + 1) a0 a1 a2 a3) := by
 intro a0 a1 a2 a3 k
 unfold worldmintref05_Compare.f
 repeat' first
   | (with_reducible exact worldmintref05_compared.mono _ _ _)
   | (with_reducible exact LeO.refl _)
   | (with_reducible exact LeO.none _)
   | (with_reducible refine LeO.ite ?_ ?_)
   | (with_reducible refine LeO.bind ?_ (fun _ => ?_))
   | exact worldmintref05_compared.mono _ _ _
   | exact LeO.none _
   | refine LeO.ite ?_ ?_
   | refine LeO.bind ?_ (fun _ => ?_)
set_option maxHeartbeats 8000000 in
set_option maxRecDepth 100000 in
theorem worldmintref05_Compare.calls (k : Nat) (a0_0 : Bool) (A0_1 : Option Addr) (c0_1 : Nat) (l0_1 : List Int) (a1_0 : Bool) (A1_1 : Option Addr) (c1_1 : Nat) (l1_1 : List Int) (r : Int) (w : World) (hr0_1 : Kd.C (Kd.int .i64) w A0_1 l0_1.length l0_1) (hc0_1 : l0_1.length ≤ c0_1) (hr1_1 : Kd.C (Kd.int .i64) w A1_1 l1_1.length l1_1) (hc1_1 : l1_1.length ≤ c1_1) (h : worldmintref05_Compare.f k a0_0 l0_1 a1_0 l1_1 = some r) :
  Calls Tryz.prog 38 #[.agg #[.bool a0_0, .slice A0_1 l0_1.length c0_1], .agg #[.bool a1_0, .slice A1_1 l1_1.length c1_1]] w fun e w' => e = .returned (.int .i64 r) ∧ Below w.heap.size w w' := by
 have hu25 := Tryz.underlying25
 have HR0_1 := am_ hr0_1
 have HC0_1 := am_ hc0_1
 clear hr0_1 hc0_1
 have HR1_1 := am_ hr1_1
 have HC1_1 := am_ hc1_1
 clear hr1_1 hc1_1
 have HB := am_ (Below.refl w.heap.size w)
 have H : (if (!(a0_0 == a1_0)) = true then (if a0_0 = true then (some (-1)) else (some 1)) else (if a0_0 = true then ((worldmintref05_compared.f k l1_1 l0_1).bind fun t460 => (some t460)) else ((worldmintref05_compared.f k l0_1 l1_1).bind fun t461 => (some t461)))) = some r := h
 clear h
 by_cases c3 : (!(a0_0 == a1_0)) = true
 ·rw [if_pos c3] at H
  have c3b0 : (!(a0_0 == a1_0)) = true := c3
  clear c3
  by_cases c4 : a0_0 = true
  ·subst c4
   (try (have c3b0s := c3b0; simp only [Bool.true_beq, Bool.false_beq, beq_true, beq_false, Bool.not_not] at c3b0s))
   have H1 : (some (-1)) = some r := by rw [if_pos rfl] at H; exact H
   clear H
   have H := H1
   clear H1
   obtain rfl := Option.some.inj H
   go_enter Tryz.func38, Tryz.ntmps38
   go_wp2_with (first | ((with_reducible refine gate_dst (N := 2) rfl ?_); refine box_event ?hg (N := 2) ?hd (cs := #[.bool true, .slice A0_1 l0_1.length c0_1]) (t := 25) ?hr ?_; (case hd => rfl); (case hg => rfl); (case hr => exact zq0); intro gb458 hg w5 hbox hb; have n0_ := am_ (below_step zq2 hb); have n1_ := am_ (hbox); have n2_ := am_ ((by rw [hg]; exact (below_size zq2) : w.heap.size ≤ gb458)); clear HB; have HB := n0_; have BK458 := n1_; have GE458 := n2_; clear n0_ n1_ n2_; clear hb hbox hg) | ((with_reducible refine gate_dst (N := 3) rfl ?_); refine box_event ?hg (N := 3) ?hd (cs := #[.bool a1_0, .slice A1_1 l1_1.length c1_1]) (t := 25) ?hr ?_; (case hd => rfl); (case hg => rfl); (case hr => exact zq0); intro gb459 hg w6 hbox hb; have n0_ := am_ (blk_below (g := gb458) (o := .cells #[.bool true, .slice A0_1 l0_1.length c0_1] 25 (0, 0)) (zq9 BK458.out) hb); have n1_ := am_ (below_step zq88 hb); have n2_ := am_ (hbox); have n3_ := am_ ((by rw [hg]; exact (below_size zq88) : w.heap.size ≤ gb459)); have n4_ := am_ ((by rw [hg]; exact Nat.ne_of_lt (blk_lt (g := gb458) (zq9 BK458.out)) : gb458 ≠ gb459)); have n5_ := am_ ((by rw [hg]; exact Nat.ne_of_gt (blk_lt (g := gb458) (zq9 BK458.out)) : gb459 ≠ gb458)); clear BK458 HB; have BK458 := n0_; have HB := n1_; have BK459 := n2_; have GE459 := n3_; have NB458_459 := n4_; have NB459_458 := n5_; clear n0_ n1_ n2_ n3_ n4_ n5_; clear hb hbox hg; have hnb7 := NB458_459.out; have hnc7 := NB459_458.out; have hcz8_0 : w6.cell? ⟨gb458, 0, none⟩ = some (.bool true) := (blk_cell BK458.out 0).trans rfl; have hcz8_1 : w6.cell? ⟨gb458, 1, none⟩ = some (.slice A0_1 l0_1.length c0_1) := (blk_cell BK458.out 1).trans rfl; have hfz8_0 := blk_frozen BK458.out 0; have hfz8_1 := blk_frozen BK458.out 1; have hcz9_0 : w6.cell? ⟨gb459, 0, none⟩ = some (.bool a1_0) := (blk_cell BK459.out 0).trans rfl; have hcz9_1 : w6.cell? ⟨gb459, 1, none⟩ = some (.slice A1_1 l1_1.length c1_1) := (blk_cell BK459.out 1).trans rfl; have hfz9_0 := blk_frozen BK459.out 0; have hfz9_1 := blk_frozen BK459.out 1))
   go_ret
   exact ⟨by first | rfl | (simp [errW_none, errW_some] <;> rfl) | (simp [*, errW_none, errW_some] <;> rfl), by repeat (first | (with_reducible first | exact HB.out | apply below_alloc | apply pw_below_drewN | apply below_drew1 | refine below_set ?_ GE458.out | refine below_set ?_ GE459.out) | exact HB.out)⟩
  ·replace c4 := Bool.eq_false_iff.mpr c4
   subst c4
   (try (have c3b0s := c3b0; simp only [Bool.true_beq, Bool.false_beq, beq_true, beq_false, Bool.not_not] at c3b0s))
   have H1 : (some 1) = some r := by rw [if_neg (show ¬ (false = true) by decide)] at H; exact H
   clear H
   have H := H1
   clear H1
   obtain rfl := Option.some.inj H
   go_enter Tryz.func38, Tryz.ntmps38
   go_wp2_with (first | ((with_reducible refine gate_dst (N := 2) rfl ?_); refine box_event ?hg (N := 2) ?hd (cs := #[.bool false, .slice A0_1 l0_1.length c0_1]) (t := 25) ?hr ?_; (case hd => rfl); (case hg => rfl); (case hr => exact zq0); intro gb458 hg w10 hbox hb; have n0_ := am_ (below_step zq2 hb); have n1_ := am_ (hbox); have n2_ := am_ ((by rw [hg]; exact (below_size zq2) : w.heap.size ≤ gb458)); clear HB; have HB := n0_; have BK458 := n1_; have GE458 := n2_; clear n0_ n1_ n2_; clear hb hbox hg) | ((with_reducible refine gate_dst (N := 3) rfl ?_); refine box_event ?hg (N := 3) ?hd (cs := #[.bool a1_0, .slice A1_1 l1_1.length c1_1]) (t := 25) ?hr ?_; (case hd => rfl); (case hg => rfl); (case hr => exact zq0); intro gb459 hg w11 hbox hb; have n0_ := am_ (blk_below (g := gb458) (o := .cells #[.bool false, .slice A0_1 l0_1.length c0_1] 25 (0, 0)) (zq9 BK458.out) hb); have n1_ := am_ (below_step zq88 hb); have n2_ := am_ (hbox); have n3_ := am_ ((by rw [hg]; exact (below_size zq88) : w.heap.size ≤ gb459)); have n4_ := am_ ((by rw [hg]; exact Nat.ne_of_lt (blk_lt (g := gb458) (zq9 BK458.out)) : gb458 ≠ gb459)); have n5_ := am_ ((by rw [hg]; exact Nat.ne_of_gt (blk_lt (g := gb458) (zq9 BK458.out)) : gb459 ≠ gb458)); clear BK458 HB; have BK458 := n0_; have HB := n1_; have BK459 := n2_; have GE459 := n3_; have NB458_459 := n4_; have NB459_458 := n5_; clear n0_ n1_ n2_ n3_ n4_ n5_; clear hb hbox hg; have hnb12 := NB458_459.out; have hnc12 := NB459_458.out; have hcz13_0 : w11.cell? ⟨gb458, 0, none⟩ = some (.bool false) := (blk_cell BK458.out 0).trans rfl; have hcz13_1 : w11.cell? ⟨gb458, 1, none⟩ = some (.slice A0_1 l0_1.length c0_1) := (blk_cell BK458.out 1).trans rfl; have hfz13_0 := blk_frozen BK458.out 0; have hfz13_1 := blk_frozen BK458.out 1; have hcz14_0 : w11.cell? ⟨gb459, 0, none⟩ = some (.bool a1_0) := (blk_cell BK459.out 0).trans rfl; have hcz14_1 : w11.cell? ⟨gb459, 1, none⟩ = some (.slice A1_1 l1_1.length c1_1) := (blk_cell BK459.out 1).trans rfl; have hfz14_0 := blk_frozen BK459.out 0; have hfz14_1 := blk_frozen BK459.out 1))
   go_ret
   exact ⟨by first | rfl | (simp [errW_none, errW_some] <;> rfl) | (simp [*, errW_none, errW_some] <;> rfl), by repeat (first | (with_reducible first | exact HB.out | apply below_alloc | apply pw_below_drewN | apply below_drew1 | refine below_set ?_ GE458.out | refine below_set ?_ GE459.out) | exact HB.out)⟩
 ·rw [if_neg c3] at H
  have c3b0 : (!(a0_0 == a1_0)) = false := by simpa using c3
  clear c3
  by_cases c15 : a0_0 = true
  ·subst c15
   (try (have c3b0s := c3b0; simp only [Bool.true_beq, Bool.false_beq, beq_true, beq_false, Bool.not_not] at c3b0s))
   (try (have c3b0s := c3b0; simp only [Bool.true_beq, Bool.false_beq, beq_true, beq_false, Bool.not_not] at c3b0s))
   have H1 : ((worldmintref05_compared.f k l1_1 l0_1).bind fun t460 => (some t460)) = some r := by rw [if_pos rfl] at H; exact H
   clear H
   have H := H1
   clear H1
   replace H := Option.bind_eq_some_iff.mp H
   obtain ⟨t460, A160, H⟩ := H
   replace H : (some t460) = some r := H
   have A16 := am_ A160
   clear A160
   obtain rfl := Option.some.inj H
   go_enter Tryz.func38, Tryz.ntmps38
   go_wp2_with (first | ((with_reducible refine gate_dst (N := 2) rfl ?_); refine box_event ?hg (N := 2) ?hd (cs := #[.bool true, .slice A0_1 l0_1.length c0_1]) (t := 25) ?hr ?_; (case hd => rfl); (case hg => rfl); (case hr => exact zq0); intro gb458 hg w17 hbox hb; have n0_ := am_ (below_step zq2 hb); have n1_ := am_ (hbox); have n2_ := am_ ((by rw [hg]; exact (below_size zq2) : w.heap.size ≤ gb458)); clear HB; have HB := n0_; have BK458 := n1_; have GE458 := n2_; clear n0_ n1_ n2_; clear hb hbox hg) | ((with_reducible refine gate_dst (N := 3) rfl ?_); refine box_event ?hg (N := 3) ?hd (cs := #[.bool a1_0, .slice A1_1 l1_1.length c1_1]) (t := 25) ?hr ?_; (case hd => rfl); (case hg => rfl); (case hr => exact zq0); intro gb459 hg w18 hbox hb; have n0_ := am_ (blk_below (g := gb458) (o := .cells #[.bool true, .slice A0_1 l0_1.length c0_1] 25 (0, 0)) (zq9 BK458.out) hb); have n1_ := am_ (below_step zq88 hb); have n2_ := am_ (hbox); have n3_ := am_ ((by rw [hg]; exact (below_size zq88) : w.heap.size ≤ gb459)); have n4_ := am_ ((by rw [hg]; exact Nat.ne_of_lt (blk_lt (g := gb458) (zq9 BK458.out)) : gb458 ≠ gb459)); have n5_ := am_ ((by rw [hg]; exact Nat.ne_of_gt (blk_lt (g := gb458) (zq9 BK458.out)) : gb459 ≠ gb458)); clear BK458 HB; have BK458 := n0_; have HB := n1_; have BK459 := n2_; have GE459 := n3_; have NB458_459 := n4_; have NB459_458 := n5_; clear n0_ n1_ n2_ n3_ n4_ n5_; clear hb hbox hg; have hnb19 := NB458_459.out; have hnc19 := NB459_458.out; have hcz20_0 : w18.cell? ⟨gb458, 0, none⟩ = some (.bool true) := (blk_cell BK458.out 0).trans rfl; have hcz20_1 : w18.cell? ⟨gb458, 1, none⟩ = some (.slice A0_1 l0_1.length c0_1) := (blk_cell BK458.out 1).trans rfl; have hfz20_0 := blk_frozen BK458.out 0; have hfz20_1 := blk_frozen BK458.out 1; have hcz21_0 : w18.cell? ⟨gb459, 0, none⟩ = some (.bool a1_0) := (blk_cell BK459.out 0).trans rfl; have hcz21_1 : w18.cell? ⟨gb459, 1, none⟩ = some (.slice A1_1 l1_1.length c1_1) := (blk_cell BK459.out 1).trans rfl; have hfz21_0 := blk_frozen BK459.out 0; have hfz21_1 := blk_frozen BK459.out 1) | ((with_reducible refine gate_callee (f := 62) rfl ?_); refine goesL_ (some 18) rfl rfl Tryz.func62 (by kernel_rfl) rfl #[.slice A1_1 l1_1.length c1_1, .slice A0_1 l0_1.length c0_1] rfl zq6 ?_; (with_reducible refine (worldmintref05_compared.calls k _ _ l1_1 _ _ l0_1 t460 _ ?side1 ?side2 ?side3 ?side4 A16.out).mono ?_); (case side1 => exact zq25); (case side2 => exact HC1_1.out); (case side3 => exact zq24); (case side4 => exact HC0_1.out); rintro e w' ⟨rfl, ⟨nd, rfl⟩⟩; refine ⟨_, rfl, ?_⟩))
   go_ret
   exact ⟨by first | rfl | (simp [errW_none, errW_some] <;> rfl) | (simp [*, errW_none, errW_some] <;> rfl), by repeat (first | (with_reducible first | exact HB.out | apply below_alloc | apply pw_below_drewN | apply below_drew1 | refine below_set ?_ GE458.out | refine below_set ?_ GE459.out) | exact HB.out)⟩
  ·replace c15 := Bool.eq_false_iff.mpr c15
   subst c15
   (try (have c3b0s := c3b0; simp only [Bool.true_beq, Bool.false_beq, beq_true, beq_false, Bool.not_not] at c3b0s))
   (try (have c3b0s := c3b0; simp only [Bool.true_beq, Bool.false_beq, beq_true, beq_false, Bool.not_not] at c3b0s))
   have H1 : ((worldmintref05_compared.f k l0_1 l1_1).bind fun t461 => (some t461)) = some r := by rw [if_neg (show ¬ (false = true) by decide)] at H; exact H
   clear H
   have H := H1
   clear H1
   replace H := Option.bind_eq_some_iff.mp H
   obtain ⟨t461, A220, H⟩ := H
   replace H : (some t461) = some r := H
   have A22 := am_ A220
   clear A220
   obtain rfl := Option.some.inj H
   go_enter Tryz.func38, Tryz.ntmps38
   go_wp2_with (first | ((with_reducible refine gate_dst (N := 2) rfl ?_); refine box_event ?hg (N := 2) ?hd (cs := #[.bool false, .slice A0_1 l0_1.length c0_1]) (t := 25) ?hr ?_; (case hd => rfl); (case hg => rfl); (case hr => exact zq0); intro gb458 hg w23 hbox hb; have n0_ := am_ (below_step zq2 hb); have n1_ := am_ (hbox); have n2_ := am_ ((by rw [hg]; exact (below_size zq2) : w.heap.size ≤ gb458)); clear HB; have HB := n0_; have BK458 := n1_; have GE458 := n2_; clear n0_ n1_ n2_; clear hb hbox hg) | ((with_reducible refine gate_dst (N := 3) rfl ?_); refine box_event ?hg (N := 3) ?hd (cs := #[.bool a1_0, .slice A1_1 l1_1.length c1_1]) (t := 25) ?hr ?_; (case hd => rfl); (case hg => rfl); (case hr => exact zq0); intro gb459 hg w24 hbox hb; have n0_ := am_ (blk_below (g := gb458) (o := .cells #[.bool false, .slice A0_1 l0_1.length c0_1] 25 (0, 0)) (zq9 BK458.out) hb); have n1_ := am_ (below_step zq88 hb); have n2_ := am_ (hbox); have n3_ := am_ ((by rw [hg]; exact (below_size zq88) : w.heap.size ≤ gb459)); have n4_ := am_ ((by rw [hg]; exact Nat.ne_of_lt (blk_lt (g := gb458) (zq9 BK458.out)) : gb458 ≠ gb459)); have n5_ := am_ ((by rw [hg]; exact Nat.ne_of_gt (blk_lt (g := gb458) (zq9 BK458.out)) : gb459 ≠ gb458)); clear BK458 HB; have BK458 := n0_; have HB := n1_; have BK459 := n2_; have GE459 := n3_; have NB458_459 := n4_; have NB459_458 := n5_; clear n0_ n1_ n2_ n3_ n4_ n5_; clear hb hbox hg; have hnb25 := NB458_459.out; have hnc25 := NB459_458.out; have hcz26_0 : w24.cell? ⟨gb458, 0, none⟩ = some (.bool false) := (blk_cell BK458.out 0).trans rfl; have hcz26_1 : w24.cell? ⟨gb458, 1, none⟩ = some (.slice A0_1 l0_1.length c0_1) := (blk_cell BK458.out 1).trans rfl; have hfz26_0 := blk_frozen BK458.out 0; have hfz26_1 := blk_frozen BK458.out 1; have hcz27_0 : w24.cell? ⟨gb459, 0, none⟩ = some (.bool a1_0) := (blk_cell BK459.out 0).trans rfl; have hcz27_1 : w24.cell? ⟨gb459, 1, none⟩ = some (.slice A1_1 l1_1.length c1_1) := (blk_cell BK459.out 1).trans rfl; have hfz27_0 := blk_frozen BK459.out 0; have hfz27_1 := blk_frozen BK459.out 1) | ((with_reducible refine gate_callee (f := 62) rfl ?_); refine goesL_ (some 23) rfl rfl Tryz.func62 (by kernel_rfl) rfl #[.slice A0_1 l0_1.length c0_1, .slice A1_1 l1_1.length c1_1] rfl zq6 ?_; (with_reducible refine (worldmintref05_compared.calls k _ _ l0_1 _ _ l1_1 t461 _ ?side1 ?side2 ?side3 ?side4 A22.out).mono ?_); (case side1 => exact zq24); (case side2 => exact HC0_1.out); (case side3 => exact zq25); (case side4 => exact HC1_1.out); rintro e w' ⟨rfl, ⟨nd, rfl⟩⟩; refine ⟨_, rfl, ?_⟩))
   go_ret
   exact ⟨by first | rfl | (simp [errW_none, errW_some] <;> rfl) | (simp [*, errW_none, errW_some] <;> rfl), by repeat (first | (with_reducible first | exact HB.out | apply below_alloc | apply pw_below_drewN | apply below_drew1 | refine below_set ?_ GE458.out | refine below_set ?_ GE459.out) | exact HB.out)⟩

/-! ### wide_Sign: function 39 -/
def wide_Sign.f (k : Nat) (a0_0 : Bool) (l0_1 : List Int) : Option (Int) := (wide_Compare.f k a0_0 l0_1 false ([] : List Int)).bind fun t463 => (some t463)
theorem wide_Sign.mono : ∀ a0 a1 k, LeO (wide_Sign.f k a0 a1) (wide_Sign.f (k + 1) a0 a1) := by
 intro a0 a1 k
 unfold wide_Sign.f
 repeat' first
   | (with_reducible exact wide_Compare.mono _ _ _ _ _)
   | (with_reducible exact LeO.refl _)
   | (with_reducible exact LeO.none _)
   | (with_reducible refine LeO.ite ?_ ?_)
   | (with_reducible refine LeO.bind ?_ (fun _ => ?_))
   | exact wide_Compare.mono _ _ _ _ _
   | exact LeO.none _
   | refine LeO.ite ?_ ?_
   | refine LeO.bind ?_ (fun _ => ?_)
set_option maxHeartbeats 8000000 in
set_option maxRecDepth 100000 in
theorem wide_Sign.calls (k : Nat) (a0_0 : Bool) (A0_1 : Option Addr) (c0_1 : Nat) (l0_1 : List Int) (r : Int) (w : World) (hr0_1 : Kd.C (Kd.int .u32) w A0_1 l0_1.length l0_1) (hc0_1 : l0_1.length ≤ c0_1) (h : wide_Sign.f k a0_0 l0_1 = some r) :
  Calls Tryz.prog 39 #[.agg #[.bool a0_0, .slice A0_1 l0_1.length c0_1]] w fun e w' => e = .returned (.int .i64 r) ∧ Below w.heap.size w w' := by
 have hu33 := Tryz.underlying33
 have HR0_1 := am_ hr0_1
 have HC0_1 := am_ hc0_1
 clear hr0_1 hc0_1
 have HB := am_ (Below.refl w.heap.size w)
 have H : ((wide_Compare.f k a0_0 l0_1 false ([] : List Int)).bind fun t463 => (some t463)) = some r := h
 clear h
 replace H := Option.bind_eq_some_iff.mp H
 obtain ⟨t463, A20, H⟩ := H
 replace H : (some t463) = some r := H
 have A2 := am_ A20
 clear A20
 obtain rfl := Option.some.inj H
 go_enter Tryz.func39, Tryz.ntmps39
 go_wp2_with (first | ((with_reducible refine gate_dst (N := 1) rfl ?_); refine box_event ?hg (N := 1) ?hd (cs := #[.bool a0_0, .slice A0_1 l0_1.length c0_1]) (t := 33) ?hr ?_; (case hd => rfl); (case hg => rfl); (case hr => exact zq0); intro gb462 hg w3 hbox hb; have n0_ := am_ (below_step zq2 hb); have n1_ := am_ (hbox); have n2_ := am_ ((by rw [hg]; exact (below_size zq2) : w.heap.size ≤ gb462)); clear HB; have HB := n0_; have BK462 := n1_; have GE462 := n2_; clear n0_ n1_ n2_; clear hb hbox hg; have hcz4_0 : w3.cell? ⟨gb462, 0, none⟩ = some (.bool a0_0) := (blk_cell BK462.out 0).trans rfl; have hcz4_1 : w3.cell? ⟨gb462, 1, none⟩ = some (.slice A0_1 l0_1.length c0_1) := (blk_cell BK462.out 1).trans rfl; have hfz4_0 := blk_frozen BK462.out 0; have hfz4_1 := blk_frozen BK462.out 1) | ((with_reducible refine gate_callee (f := 37) rfl ?_); refine goesL_ (some 5) rfl rfl Tryz.func37 (by kernel_rfl) rfl #[.agg #[.bool a0_0, .slice A0_1 l0_1.length c0_1], .agg #[.bool false, .slice none 0 0]] rfl zq6 ?_; (refine (wide_Compare.calls k a0_0 _ _ l0_1 false _ _ ([] : List Int) t463 _ ?side1 ?side2 ?side3 ?side4 A2.out).mono ?_); (case side1 => exact zq24); (case side2 => exact HC0_1.out); (case side3 => exact Kd.C_nil _ _); (case side4 => exact Nat.le_refl _); rintro e w5 ⟨rfl, hb⟩; refine ⟨_, rfl, ?_⟩; replace HB := am_ (below_step (by repeat (first | (with_reducible first | exact HB.out | apply below_alloc | apply pw_below_drewN | apply below_drew1 | refine below_set ?_ GE462.out) | exact HB.out)) hb); (try clear hb)))
 go_ret
 exact ⟨by first | rfl | (simp [errW_none, errW_some] <;> rfl) | (simp [*, errW_none, errW_some] <;> rfl), by repeat (first | (with_reducible first | exact HB.out | apply below_alloc | apply pw_below_drewN | apply below_drew1 | refine below_set ?_ GE462.out) | exact HB.out)⟩

end Go.Proofs.YtlceokefdihdkaaGreatDoor.X
