-- Written by a program of this session (xprint) out of the translation: Lean checks it.
import Derived.Test.YtlceokefdihdkaaGreatDoorXx0
import Derived.Test.YtlceokefdihdkaaGreatDoorXx1
import Derived.Test.YtlceokefdihdkaaGreatDoorXx8
namespace Go.Proofs.YtlceokefdihdkaaGreatDoor.X
open Go.RowKit Go.Proofs.YtlceokefdihdkaaGreatDoorW.PrintWords Go.Proofs.YtlceokefdihdkaaGreatDoorW.PrintLast Go.Proofs.YtlceokefdihdkaaGreatDoorW.PrintMore
attribute [local go_sem] max2_int min2_int max_two min_two max_three min_three max_four min_four   -- for this text's walks alone
set_option linter.unusedVariables false
set_option linter.unusedSimpArgs false

/-! ### worldmintref05_Small: function 26 -/
mutual
def worldmintref05_Small.j0 : Nat → Bool → Bool → List Int → Option (Int × Bool)
 | 0, _, _, _ => none
 | k + 1, x15, x474000, x474001 => if x15 = true then (some (0, false)) else (worldmintref05_Small.l0 k 0 (wrap64 ((x474001.length : Int) - 1)) x474000 x474001)
def worldmintref05_Small.l0 : Nat → Int → Int → Bool → List Int → Option (Int × Bool)
 | 0, _, _, _, _ => none
 | k + 1, x4, x5, x474000, x474001 => if x5 ≥ 0 then (if x474000 = true then (if 0 ≤ x5 then (if x5 < (x474001.length : Int) then (worldmintref05_Small.l0 k (wrap64 ((wrap64 (x4 * 10000)) - (rd x474001 x5))) (wrap64 (x5 - 1)) x474000 x474001) else (none)) else (none)) else (if 0 ≤ x5 then (if x5 < (x474001.length : Int) then (worldmintref05_Small.l0 k (wrap64 ((wrap64 (x4 * 10000)) + (rd x474001 x5))) (wrap64 (x5 - 1)) x474000 x474001) else (none)) else (none))) else (some (x4, true))
end
def worldmintref05_Small.f (k : Nat) (a0_0 : Bool) (l0_1 : List Int) : Option (Int × Bool) := (worldmintref05_Of.f k 9223372036854775807).bind fun bt474 => ((worldmintref05_Compare.f k a0_0 l0_1 bt474.1 bt474.2).bind fun t478 => (if t478 > 0 then (worldmintref05_Small.j0 k true a0_0 l0_1) else ((worldmintref05_Of.f k (-9223372036854775808)).bind fun bt479 => ((worldmintref05_Compare.f k a0_0 l0_1 bt479.1 bt479.2).bind fun t483 => (worldmintref05_Small.j0 k (decide (t483 < 0)) a0_0 l0_1)))))
theorem worldmintref05_Small.mono_l : ∀ k, (∀ y0 y1 y2, LeO (worldmintref05_Small.j0 k y0 y1 y2) (worldmintref05_Small.j0 (k + 1) y0 y1 y2)) ∧ (∀ y0 y1 y2 y3, LeO (worldmintref05_Small.l0 k y0 y1 y2 y3) (worldmintref05_Small.l0 (k + 1) y0 y1 y2 y3))
 | 0 => ⟨fun _ _ _ r h => by simp [worldmintref05_Small.j0] at h, fun _ _ _ _ r h => by simp [worldmintref05_Small.l0] at h⟩
 | k + 1 => by
  obtain ⟨ih0, ih1⟩ := worldmintref05_Small.mono_l k
  refine ⟨?_, ?_⟩
  ·intro y0 y1 y2
   unfold worldmintref05_Small.j0
   repeat' first
   | (with_reducible exact ih0 _ _ _)
   | (with_reducible exact ih1 _ _ _ _)
   | (with_reducible exact worldmintref05_Compare.mono _ _ _ _ _)
   | (with_reducible exact worldmintref05_Of.mono _ _)
   | (with_reducible exact LeO.refl _)
   | (with_reducible exact LeO.none _)
   | (with_reducible refine LeO.ite ?_ ?_)
   | (with_reducible refine LeO.bind ?_ (fun _ => ?_))
   | exact ih0 _ _ _
   | exact ih1 _ _ _ _
   | exact worldmintref05_Compare.mono _ _ _ _ _
   | exact worldmintref05_Of.mono _ _
   | exact LeO.none _
   | refine LeO.ite ?_ ?_
   | refine LeO.bind ?_ (fun _ => ?_)
  ·intro y0 y1 y2 y3
   unfold worldmintref05_Small.l0
   repeat' first
   | (with_reducible exact ih0 _ _ _)
   | (with_reducible exact ih1 _ _ _ _)
   | (with_reducible exact worldmintref05_Compare.mono _ _ _ _ _)
   | (with_reducible exact worldmintref05_Of.mono _ _)
   | (with_reducible exact LeO.refl _)
   | (with_reducible exact LeO.none _)
   | (with_reducible refine LeO.ite ?_ ?_)
   | (with_reducible refine LeO.bind ?_ (fun _ => ?_))
   | exact ih0 _ _ _
   | exact ih1 _ _ _ _
   | exact worldmintref05_Compare.mono _ _ _ _ _
   | exact worldmintref05_Of.mono _ _
   | exact LeO.none _
   | refine LeO.ite ?_ ?_
   | refine LeO.bind ?_ (fun _ => ?_)
theorem worldmintref05_Small.mono : ∀ a0 a1 k, LeO (worldmintref05_Small.f k a0 a1) (worldmintref05_Small.f (k + 1) a0 a1) := by
 intro a0 a1 k
 obtain ⟨ih0, ih1⟩ := worldmintref05_Small.mono_l k
 unfold worldmintref05_Small.f
 repeat' first
   | (with_reducible exact ih0 _ _ _)
   | (with_reducible exact ih1 _ _ _ _)
   | (with_reducible exact worldmintref05_Compare.mono _ _ _ _ _)
   | (with_reducible exact worldmintref05_Of.mono _ _)
   | (with_reducible exact LeO.refl _)
   | (with_reducible exact LeO.none _)
   | (with_reducible refine LeO.ite ?_ ?_)
   | (with_reducible refine LeO.bind ?_ (fun _ => ?_))
   | exact ih0 _ _ _
   | exact ih1 _ _ _ _
   | exact worldmintref05_Compare.mono _ _ _ _ _
   | exact worldmintref05_Of.mono _ _
   | exact LeO.none _
   | refine LeO.ite ?_ ?_
   | refine LeO.bind ?_ (fun _ => ?_)
def worldmintref05_Small.T1 : Bool × List (List Nat × List Nat) := (true, [([], []), ([], []), ([0, 1, 1], [0, 1]), ([2], [2]), ([3, 2], [3]), ([4], [4]), ([4, 4], [4]), ([5, 6, 6, 4], [4, 5, 6]), ([7, 4], [4, 7]), ([4, 8], [4, 8])])
def worldmintref05_Small.B1 : List Nat := [0, 0, 3, 7, 15, 31, 31, 127, 255, 511]
theorem worldmintref05_Small.tab1 : rtab .any (opsOf Tryz.f26 1) = worldmintref05_Small.T1 := by kernel_rfl
theorem worldmintref05_Small.bits1 : waitsOk worldmintref05_Small.T1.2 worldmintref05_Small.B1 = true := by kernel_rfl
set_option maxHeartbeats 8000000 in
set_option maxRecDepth 100000 in
theorem worldmintref05_Small.calls (k : Nat) (a0_0 : Bool) (A0_1 : Option Addr) (c0_1 : Nat) (l0_1 : List Int) (r1 : Int) (r2 : Bool) (w : World) (hr0_1 : Kd.C (Kd.int .i64) w A0_1 l0_1.length l0_1) (hc0_1 : l0_1.length ≤ c0_1) (h : worldmintref05_Small.f k a0_0 l0_1 = some (r1, r2)) :
  Calls Tryz.prog 26 #[.agg #[.bool a0_0, .slice A0_1 l0_1.length c0_1]] w fun e w' => e = .returned (.tuple #[.int .i64 r1, .bool r2]) ∧ Below w.heap.size w w' := by
 have hu25 := Tryz.underlying25
 have HR0_1 := Aside0.mk hr0_1
 have HC0_1 := Aside0.mk hc0_1
 clear hr0_1 hc0_1
 have HB := Aside0.mk (Below.refl w.heap.size w)
 have H : ((worldmintref05_Of.f k 9223372036854775807).bind fun bt474 => ((worldmintref05_Compare.f k a0_0 l0_1 bt474.1 bt474.2).bind fun t478 => (if t478 > 0 then (worldmintref05_Small.j0 k true a0_0 l0_1) else ((worldmintref05_Of.f k (-9223372036854775808)).bind fun bt479 => ((worldmintref05_Compare.f k a0_0 l0_1 bt479.1 bt479.2).bind fun t483 => (worldmintref05_Small.j0 k (decide (t483 < 0)) a0_0 l0_1)))))) = some (r1, r2) := h
 clear h
 have HC2 := Aside0.mk H
 clear H
 go_enter Tryz.func26, Tryz.ntmps26
 go_upto_region 1 with (first | ((with_reducible refine gate_dst (N := 1) rfl ?_); refine box_event ?hg (N := 1) ?hd (cs := #[.bool a0_0, .slice A0_1 l0_1.length c0_1]) (t := 25) ?hr ?_; (case hd => rfl); (case hg => rfl); (case hr => exact zq0); intro gb473 hg w3 hbox hb; have n0_ := Aside0.mk (below_step zq2 hb); have n1_ := Aside0.mk (hbox); have n2_ := Aside0.mk ((by rw [hg]; exact (below_size zq2) : w.heap.size ≤ gb473)); clear HB; have HB := n0_; have BK473 := n1_; have GE473 := n2_; clear n0_ n1_ n2_; clear hb hbox hg))
 (try simp only [Act.put, List.setIfInBounds_toArray, List.set_cons_zero, List.set_cons_succ])
 go_cut [15] (fun v15 wc => ∃ (kq : Nat) (x15_1 : Bool), v15 = .bool x15_1 ∧ Aside0 (worldmintref05_Small.j0 kq x15_1 a0_0 l0_1 = some (r1, r2)) ∧ Aside0 (kq ≤ k) ∧ Aside0 (wc.heap[gb473]? = some (.cells #[.bool a0_0, (.slice A0_1 l0_1.length c0_1)] 25 (0, 0))) ∧ Aside0 (Below w.heap.size w wc))
 case first =>
  have H := HC2.out
  clear HC2
  replace H := Option.bind_eq_some_iff.mp H
  obtain ⟨⟨t474, t475⟩, A40, H⟩ := H
  replace H : ((worldmintref05_Compare.f k a0_0 l0_1 t474 t475).bind fun t478 => (if t478 > 0 then (worldmintref05_Small.j0 k true a0_0 l0_1) else ((worldmintref05_Of.f k (-9223372036854775808)).bind fun bt479 => ((worldmintref05_Compare.f k a0_0 l0_1 bt479.1 bt479.2).bind fun t483 => (worldmintref05_Small.j0 k (decide (t483 < 0)) a0_0 l0_1))))) = some (r1, r2) := H
  have A4 := Aside0.mk A40
  clear A40
  replace H := Option.bind_eq_some_iff.mp H
  obtain ⟨t478, A50, H⟩ := H
  replace H : (if t478 > 0 then (worldmintref05_Small.j0 k true a0_0 l0_1) else ((worldmintref05_Of.f k (-9223372036854775808)).bind fun bt479 => ((worldmintref05_Compare.f k a0_0 l0_1 bt479.1 bt479.2).bind fun t483 => (worldmintref05_Small.j0 k (decide (t483 < 0)) a0_0 l0_1)))) = some (r1, r2) := H
  have A5 := Aside0.mk A50
  clear A50
  by_cases c6 : t478 > 0
  ·rw [if_pos c6] at H
   have c6b0 : decide (0 < t478) = true := decide_eq_true c6
   clear c6
   (first | rw [c6b0] | (simp only [i64_w, i32_w]; rw [c6b0]) | skip)
   have H' := Aside0.mk H
   clear H
   try go_wp2
   replace BK473 := Aside0.mk (blk_drew BK473.out); replace HB := Aside0.mk (below_drew1 HB.out)
   refine start_ (n := 10) (S := fun w' => w'.cell? ⟨gb473, 0, none⟩ = some (.bool a0_0) ∧ w'.cell? ⟨gb473, 1, none⟩ = some (.slice A0_1 l0_1.length c0_1)) (ds := []) #[false, false, false, false, false, false, false, false, false, false] (by kernel_rfl) rfl rfl ⟨(blk_cell BK473.out 0).trans rfl, (blk_cell BK473.out 1).trans rfl⟩ (fun hHeld => ?_); refine with_tabW worldmintref05_Small.tab1 worldmintref05_Small.bits1 (fun HT_ HW_ => ?_)
   generalize w3.drew = w7 at BK473 HB hHeld ⊢
   refine take_ (i := 0) (N := some 6) (v := ?_) (a' := ?_) #[true, false, false, false, false, false, false, false, false, false] rfl rfl (take_ofW HT_.out HW_.out (by kernel_rfl)) (fun _ _ _ h => h) (Or.inl ⟨by rfl, ?_⟩) hHeld ?_ ?_
   rotate_left
   ·rintro w' ⟨s0, s1⟩
    go_simp
    with_reducible rfl
   rotate_left
   ·simp only [Act.put, List.setIfInBounds_toArray, List.set_cons_zero, List.set_cons_succ, i64_w, i32_w]
    rfl
   refine one_ (i := 1) (N := some 7) #[true, true, false, false, false, false, false, false, false, false] rfl rfl (one_of HT_.out (by kernel_rfl)) (by decide) (fun K hK => ?_)
   refine goes_ Tryz.func23 (by kernel_rfl) rfl #[.int .i64 9223372036854775807] (by rfl) rfl rfl zq6 ?_
   with_reducible refine (worldmintref05_Of.calls k 9223372036854775807 t474 t475 _ A4.out).mono ?_
   rintro e w8 ⟨v476, rfl, ho0, hb⟩
   refine ⟨_, rfl, ?_⟩
   have HO477 := Aside0.mk (Kd.V_lower (Kd.V_mono (ok' := fun k_ => k_ ≠ gb473) ho0 (fun k_ hk_ => (Kd.freshB (g := gb473) (o := .cells #[.bool a0_0, .slice A0_1 l0_1.length c0_1] 25 (0, 0)) (zq9 BK473.out) k_ hk_))) (below_size zq93)); replace BK473 := Aside0.mk (blk_below (g := gb473) (o := .cells #[.bool a0_0, .slice A0_1 l0_1.length c0_1] 25 (0, 0)) (zq9 BK473.out) hb); replace HB := Aside0.mk (below_step zq93 hb); (try clear hb); (try clear ho0)
   obtain ⟨Ao9, co9, eo9⟩ := Kd.V_slice HO477.out
   (first | subst eo9 | (injection eo9 with f1_ f2_ f3_; have f4_ := f1_.symm; have f5_ := f3_.symm; clear f1_ f2_ f3_; subst f4_; subst f5_))
   refine hK.out _ _ ⟨(blk_cell BK473.out 0).trans rfl, (blk_cell BK473.out 1).trans rfl⟩ (fun hHeld => ?_)
   clear hK K
   refine norm_ (a' := ?_) ?_ ?_
   rotate_left
   ·show Act.put _ (some 7) _ = _
    simp only [Act.put, List.setIfInBounds_toArray, List.set_cons_zero, List.set_cons_succ, i64_w, i32_w]
    rfl
   refine one_ (i := 2) (N := some 8) #[true, true, true, false, false, false, false, false, false, false] rfl rfl (one_of HT_.out (by kernel_rfl)) (by decide) (fun K hK => ?_)
   refine goes_ Tryz.func38 (by kernel_rfl) rfl #[.agg #[.bool a0_0, .slice A0_1 l0_1.length c0_1], .agg #[.bool t474, .slice Ao9 t475.length co9]] (by rfl) rfl rfl zq6 ?_
   with_reducible refine (worldmintref05_Compare.calls k a0_0 _ _ l0_1 t474 _ _ t475 t478 _ ?side1 ?side2 ?side3 ?side4 A5.out).mono ?_
   (case side1 => exact zq24)
   (case side2 => exact HC0_1.out)
   (case side3 => exact (zq31 HO477.out))
   (case side4 => exact (Kd.V_reads' HO477.out).2.1)
   rintro e w10 ⟨rfl, hb⟩
   refine ⟨_, rfl, ?_⟩
   replace HO477 := Aside0.mk (Kd.V_below (zq1 HO477.out) hb); replace BK473 := Aside0.mk (blk_below (g := gb473) (o := .cells #[.bool a0_0, .slice A0_1 l0_1.length c0_1] 25 (0, 0)) (zq9 BK473.out) hb); replace HB := Aside0.mk (below_step zq93 hb); (try clear hb)
   refine hK.out _ _ ⟨(blk_cell BK473.out 0).trans rfl, (blk_cell BK473.out 1).trans rfl⟩ (fun hHeld => ?_)
   clear hK K
   refine norm_ (a' := ?_) ?_ ?_
   rotate_left
   ·show Act.put _ (some 8) _ = _
    simp only [Act.put, List.setIfInBounds_toArray, List.set_cons_zero, List.set_cons_succ, i64_w, i32_w]
    rfl
   refine pure_ (i := 3) (N := some 9) (v := ?_) (a' := ?_) #[true, true, true, true, false, false, false, false, false, false] rfl rfl (any_of HT_.out (by kernel_rfl)) (fun _ _ _ h => h) (Or.inl ⟨by rfl, ?_⟩) ?_ ?_
   rotate_left
   ·intro w'
    go_simp
    with_reducible rfl
   rotate_left
   ·simp only [Act.put, List.setIfInBounds_toArray, List.set_cons_zero, List.set_cons_succ, i64_w, i32_w]
    rfl
   refine pure_ (i := 4) (N := some 10) (v := ?_) (a' := ?_) #[true, true, true, true, true, false, false, false, false, false] rfl rfl (any_of HT_.out (by kernel_rfl)) (fun _ _ _ h => h) (Or.inl ⟨by rfl, ?_⟩) ?_ ?_
   rotate_left
   ·intro w'
    go_simp
    with_reducible rfl
   rotate_left
   ·simp only [Act.put, List.setIfInBounds_toArray, List.set_cons_zero, List.set_cons_succ, i64_w, i32_w]
    rfl
   refine pure_ (i := 5) (N := some 11) (v := undef) (a' := ?_) #[true, true, true, true, true, true, false, false, false, false] rfl rfl (any_of HT_.out (by kernel_rfl)) (fun _ _ _ h => h) (Or.inr ⟨by rfl, rfl⟩) ?_ ?_
   rotate_left
   ·simp only [Act.put, List.setIfInBounds_toArray, List.set_cons_zero, List.set_cons_succ, i64_w, i32_w]
    rfl
   refine pure_ (i := 6) (N := some 12) (v := undef) (a' := ?_) #[true, true, true, true, true, true, true, false, false, false] rfl rfl (any_of HT_.out (by kernel_rfl)) (fun _ _ _ h => h) (Or.inr ⟨by rfl, rfl⟩) ?_ ?_
   rotate_left
   ·simp only [Act.put, List.setIfInBounds_toArray, List.set_cons_zero, List.set_cons_succ, i64_w, i32_w]
    rfl
   refine pure_ (i := 7) (N := some 13) (v := undef) (a' := ?_) #[true, true, true, true, true, true, true, true, false, false] rfl rfl (any_of HT_.out (by kernel_rfl)) (fun _ _ _ h => h) (Or.inr ⟨by rfl, rfl⟩) ?_ ?_
   rotate_left
   ·simp only [Act.put, List.setIfInBounds_toArray, List.set_cons_zero, List.set_cons_succ, i64_w, i32_w]
    rfl
   refine pure_ (i := 8) (N := some 14) (v := undef) (a' := ?_) #[true, true, true, true, true, true, true, true, true, false] rfl rfl (any_of HT_.out (by kernel_rfl)) (fun _ _ _ h => h) (Or.inr ⟨by rfl, rfl⟩) ?_ ?_
   rotate_left
   ·simp only [Act.put, List.setIfInBounds_toArray, List.set_cons_zero, List.set_cons_succ, i64_w, i32_w]
    rfl
   refine pure_ (i := 9) (N := some 15) (v := ?_) (a' := ?_) #[true, true, true, true, true, true, true, true, true, true] rfl rfl (any_of HT_.out (by kernel_rfl)) (fun _ _ _ h => h) (Or.inl ⟨by rfl, ?_⟩) ?_ ?_
   rotate_left
   ·intro w'
    go_simp
    with_reducible rfl
   rotate_left
   ·simp only [Act.put, List.setIfInBounds_toArray, List.set_cons_zero, List.set_cons_succ, i64_w, i32_w]
    rfl
   refine done_ (done_of HT_.out (by kernel_rfl)) ?_
   try go_wp2
   go_meet
   case rel => exact ⟨_, (true), zq5, H', ⟨by first | omega | exact Nat.le_refl _⟩, ⟨by (with_reducible repeat (first | refine blk_drewN ?_ _ | refine blk_drew ?_ | refine blk_alloc ?_ _)); exact BK473.out⟩, ⟨by repeat (first | (with_reducible first | exact HB.out | apply below_alloc | apply pw_below_drewN | apply below_drew1 | refine below_set ?_ GE473.out) | exact HB.out)⟩⟩
  ·rw [if_neg c6] at H
   have c6b0 : decide (0 < t478) = false := decide_eq_false c6
   clear c6
   (first | rw [c6b0] | (simp only [i64_w, i32_w]; rw [c6b0]) | skip)
   replace H := Option.bind_eq_some_iff.mp H
   obtain ⟨⟨t479, t480⟩, A110, H⟩ := H
   replace H : ((worldmintref05_Compare.f k a0_0 l0_1 t479 t480).bind fun t483 => (worldmintref05_Small.j0 k (decide (t483 < 0)) a0_0 l0_1)) = some (r1, r2) := H
   have A11 := Aside0.mk A110
   clear A110
   replace H := Option.bind_eq_some_iff.mp H
   obtain ⟨t483, A120, H⟩ := H
   replace H : (worldmintref05_Small.j0 k (decide (t483 < 0)) a0_0 l0_1) = some (r1, r2) := H
   have A12 := Aside0.mk A120
   clear A120
   have H' := Aside0.mk H
   clear H
   try go_wp2
   replace BK473 := Aside0.mk (blk_drew BK473.out); replace HB := Aside0.mk (below_drew1 HB.out)
   refine start_ (n := 10) (S := fun w' => w'.cell? ⟨gb473, 0, none⟩ = some (.bool a0_0) ∧ w'.cell? ⟨gb473, 1, none⟩ = some (.slice A0_1 l0_1.length c0_1)) (ds := []) #[false, false, false, false, false, false, false, false, false, false] (by kernel_rfl) rfl rfl ⟨(blk_cell BK473.out 0).trans rfl, (blk_cell BK473.out 1).trans rfl⟩ (fun hHeld => ?_); refine with_tabW worldmintref05_Small.tab1 worldmintref05_Small.bits1 (fun HT_ HW_ => ?_)
   generalize w3.drew = w13 at BK473 HB hHeld ⊢
   refine take_ (i := 0) (N := some 6) (v := ?_) (a' := ?_) #[true, false, false, false, false, false, false, false, false, false] rfl rfl (take_ofW HT_.out HW_.out (by kernel_rfl)) (fun _ _ _ h => h) (Or.inl ⟨by rfl, ?_⟩) hHeld ?_ ?_
   rotate_left
   ·rintro w' ⟨s0, s1⟩
    go_simp
    with_reducible rfl
   rotate_left
   ·simp only [Act.put, List.setIfInBounds_toArray, List.set_cons_zero, List.set_cons_succ, i64_w, i32_w]
    rfl
   refine one_ (i := 1) (N := some 7) #[true, true, false, false, false, false, false, false, false, false] rfl rfl (one_of HT_.out (by kernel_rfl)) (by decide) (fun K hK => ?_)
   refine goes_ Tryz.func23 (by kernel_rfl) rfl #[.int .i64 9223372036854775807] (by rfl) rfl rfl zq6 ?_
   with_reducible refine (worldmintref05_Of.calls k 9223372036854775807 t474 t475 _ A4.out).mono ?_
   rintro e w14 ⟨v476, rfl, ho0, hb⟩
   refine ⟨_, rfl, ?_⟩
   have HO477 := Aside0.mk (Kd.V_lower (Kd.V_mono (ok' := fun k_ => k_ ≠ gb473) ho0 (fun k_ hk_ => (Kd.freshB (g := gb473) (o := .cells #[.bool a0_0, .slice A0_1 l0_1.length c0_1] 25 (0, 0)) (zq9 BK473.out) k_ hk_))) (below_size zq93)); replace BK473 := Aside0.mk (blk_below (g := gb473) (o := .cells #[.bool a0_0, .slice A0_1 l0_1.length c0_1] 25 (0, 0)) (zq9 BK473.out) hb); replace HB := Aside0.mk (below_step zq93 hb); (try clear hb); (try clear ho0)
   obtain ⟨Ao15, co15, eo15⟩ := Kd.V_slice HO477.out
   (first | subst eo15 | (injection eo15 with f1_ f2_ f3_; have f4_ := f1_.symm; have f5_ := f3_.symm; clear f1_ f2_ f3_; subst f4_; subst f5_))
   refine hK.out _ _ ⟨(blk_cell BK473.out 0).trans rfl, (blk_cell BK473.out 1).trans rfl⟩ (fun hHeld => ?_)
   clear hK K
   refine norm_ (a' := ?_) ?_ ?_
   rotate_left
   ·show Act.put _ (some 7) _ = _
    simp only [Act.put, List.setIfInBounds_toArray, List.set_cons_zero, List.set_cons_succ, i64_w, i32_w]
    rfl
   refine one_ (i := 2) (N := some 8) #[true, true, true, false, false, false, false, false, false, false] rfl rfl (one_of HT_.out (by kernel_rfl)) (by decide) (fun K hK => ?_)
   refine goes_ Tryz.func38 (by kernel_rfl) rfl #[.agg #[.bool a0_0, .slice A0_1 l0_1.length c0_1], .agg #[.bool t474, .slice Ao15 t475.length co15]] (by rfl) rfl rfl zq6 ?_
   with_reducible refine (worldmintref05_Compare.calls k a0_0 _ _ l0_1 t474 _ _ t475 t478 _ ?side1 ?side2 ?side3 ?side4 A5.out).mono ?_
   (case side1 => exact zq24)
   (case side2 => exact HC0_1.out)
   (case side3 => exact (zq31 HO477.out))
   (case side4 => exact (Kd.V_reads' HO477.out).2.1)
   rintro e w16 ⟨rfl, hb⟩
   refine ⟨_, rfl, ?_⟩
   replace BK473 := Aside0.mk (blk_below (g := gb473) (o := .cells #[.bool a0_0, .slice A0_1 l0_1.length c0_1] 25 (0, 0)) (zq9 BK473.out) hb); replace HB := Aside0.mk (below_step zq93 hb); (try clear hb)
   refine hK.out _ _ ⟨(blk_cell BK473.out 0).trans rfl, (blk_cell BK473.out 1).trans rfl⟩ (fun hHeld => ?_)
   clear hK K
   refine norm_ (a' := ?_) ?_ ?_
   rotate_left
   ·show Act.put _ (some 8) _ = _
    simp only [Act.put, List.setIfInBounds_toArray, List.set_cons_zero, List.set_cons_succ, i64_w, i32_w]
    rfl
   refine pure_ (i := 3) (N := some 9) (v := ?_) (a' := ?_) #[true, true, true, true, false, false, false, false, false, false] rfl rfl (any_of HT_.out (by kernel_rfl)) (fun _ _ _ h => h) (Or.inl ⟨by rfl, ?_⟩) ?_ ?_
   rotate_left
   ·intro w'
    go_simp
    with_reducible rfl
   rotate_left
   ·simp only [Act.put, List.setIfInBounds_toArray, List.set_cons_zero, List.set_cons_succ, i64_w, i32_w]
    rfl
   refine pure_ (i := 4) (N := some 10) (v := ?_) (a' := ?_) #[true, true, true, true, true, false, false, false, false, false] rfl rfl (any_of HT_.out (by kernel_rfl)) (fun _ _ _ h => h) (Or.inl ⟨by rfl, ?_⟩) ?_ ?_
   rotate_left
   ·intro w'
    go_simp
    with_reducible rfl
   rotate_left
   ·simp only [Act.put, List.setIfInBounds_toArray, List.set_cons_zero, List.set_cons_succ, i64_w, i32_w]
    rfl
   refine take_ (i := 5) (N := some 11) (v := ?_) (a' := ?_) #[true, true, true, true, true, true, false, false, false, false] rfl rfl (take_ofW HT_.out HW_.out (by kernel_rfl)) (fun _ _ _ h => h) (Or.inl ⟨by rfl, ?_⟩) hHeld ?_ ?_
   rotate_left
   ·rintro w' ⟨s0, s1⟩
    go_simp
    with_reducible rfl
   rotate_left
   ·simp only [Act.put, List.setIfInBounds_toArray, List.set_cons_zero, List.set_cons_succ, i64_w, i32_w]
    rfl
   refine one_ (i := 6) (N := some 12) #[true, true, true, true, true, true, true, false, false, false] rfl rfl (one_of HT_.out (by kernel_rfl)) (by decide) (fun K hK => ?_)
   refine goes_ Tryz.func23 (by kernel_rfl) rfl #[.int .i64 (-9223372036854775808)] (by rfl) rfl rfl zq6 ?_
   with_reducible refine (worldmintref05_Of.calls k (-9223372036854775808) t479 t480 _ A11.out).mono ?_
   rintro e w17 ⟨v481, rfl, ho0, hb⟩
   refine ⟨_, rfl, ?_⟩
   have HO482 := Aside0.mk (Kd.V_lower (Kd.V_mono (ok' := fun k_ => k_ ≠ gb473) ho0 (fun k_ hk_ => (Kd.freshB (g := gb473) (o := .cells #[.bool a0_0, .slice A0_1 l0_1.length c0_1] 25 (0, 0)) (zq9 BK473.out) k_ hk_))) (below_size zq93)); replace BK473 := Aside0.mk (blk_below (g := gb473) (o := .cells #[.bool a0_0, .slice A0_1 l0_1.length c0_1] 25 (0, 0)) (zq9 BK473.out) hb); replace HB := Aside0.mk (below_step zq93 hb); (try clear hb); (try clear ho0)
   obtain ⟨Ao18, co18, eo18⟩ := Kd.V_slice HO482.out
   (first | subst eo18 | (injection eo18 with f1_ f2_ f3_; have f4_ := f1_.symm; have f5_ := f3_.symm; clear f1_ f2_ f3_; subst f4_; subst f5_))
   refine hK.out _ _ ⟨(blk_cell BK473.out 0).trans rfl, (blk_cell BK473.out 1).trans rfl⟩ (fun hHeld => ?_)
   clear hK K
   refine norm_ (a' := ?_) ?_ ?_
   rotate_left
   ·show Act.put _ (some 12) _ = _
    simp only [Act.put, List.setIfInBounds_toArray, List.set_cons_zero, List.set_cons_succ, i64_w, i32_w]
    rfl
   refine one_ (i := 7) (N := some 13) #[true, true, true, true, true, true, true, true, false, false] rfl rfl (one_of HT_.out (by kernel_rfl)) (by decide) (fun K hK => ?_)
   refine goes_ Tryz.func38 (by kernel_rfl) rfl #[.agg #[.bool a0_0, .slice A0_1 l0_1.length c0_1], .agg #[.bool t479, .slice Ao18 t480.length co18]] (by rfl) rfl rfl zq6 ?_
   with_reducible refine (worldmintref05_Compare.calls k a0_0 _ _ l0_1 t479 _ _ t480 t483 _ ?side1 ?side2 ?side3 ?side4 A12.out).mono ?_
   (case side1 => exact zq24)
   (case side2 => exact HC0_1.out)
   (case side3 => exact (zq31 HO482.out))
   (case side4 => exact (Kd.V_reads' HO482.out).2.1)
   rintro e w19 ⟨rfl, hb⟩
   refine ⟨_, rfl, ?_⟩
   replace BK473 := Aside0.mk (blk_below (g := gb473) (o := .cells #[.bool a0_0, .slice A0_1 l0_1.length c0_1] 25 (0, 0)) (zq9 BK473.out) hb); replace HB := Aside0.mk (below_step zq93 hb); (try clear hb)
   refine hK.out _ _ ⟨(blk_cell BK473.out 0).trans rfl, (blk_cell BK473.out 1).trans rfl⟩ (fun hHeld => ?_)
   clear hK K
   refine norm_ (a' := ?_) ?_ ?_
   rotate_left
   ·show Act.put _ (some 13) _ = _
    simp only [Act.put, List.setIfInBounds_toArray, List.set_cons_zero, List.set_cons_succ, i64_w, i32_w]
    rfl
   refine pure_ (i := 8) (N := some 14) (v := ?_) (a' := ?_) #[true, true, true, true, true, true, true, true, true, false] rfl rfl (any_of HT_.out (by kernel_rfl)) (fun _ _ _ h => h) (Or.inl ⟨by rfl, ?_⟩) ?_ ?_
   rotate_left
   ·intro w'
    go_simp
    with_reducible rfl
   rotate_left
   ·simp only [Act.put, List.setIfInBounds_toArray, List.set_cons_zero, List.set_cons_succ, i64_w, i32_w]
    rfl
   refine pure_ (i := 9) (N := some 15) (v := ?_) (a' := ?_) #[true, true, true, true, true, true, true, true, true, true] rfl rfl (any_of HT_.out (by kernel_rfl)) (fun _ _ _ h => h) (Or.inl ⟨by rfl, ?_⟩) ?_ ?_
   rotate_left
   ·intro w'
    go_simp
    with_reducible rfl
   rotate_left
   ·simp only [Act.put, List.setIfInBounds_toArray, List.set_cons_zero, List.set_cons_succ, i64_w, i32_w]
    rfl
   refine done_ (done_of HT_.out (by kernel_rfl)) ?_
   try go_wp2
   go_meet
   case rel => exact ⟨_, (decide (t483 < 0)), zq5, H', ⟨by first | omega | exact Nat.le_refl _⟩, ⟨by (with_reducible repeat (first | refine blk_drewN ?_ _ | refine blk_drew ?_ | refine blk_alloc ?_ _)); exact BK473.out⟩, ⟨by repeat (first | (with_reducible first | exact HB.out | apply below_alloc | apply pw_below_drewN | apply below_drew1 | refine below_set ?_ GE473.out) | exact HB.out)⟩⟩
 case rest =>
  clear HC2
  try clear c2
  try clear p2
  try clear c3
  try clear c6
  try clear c6b0
  obtain ⟨kq, x15_1, rfl, HA, HJ1, BK473, HB⟩ := hcut
  cases kq with
  | zero => exact absurd HA.out (by simp [worldmintref05_Small.j0])
  | succ kj1 =>
   have H := HA.out
   clear HA
   simp only [worldmintref05_Small.j0] at H
   by_cases c20 : x15_1 = true
   ·subst c20
    have H1 : (some (0, false)) = some (r1, r2) := by rw [if_pos rfl] at H; exact H
    clear H
    have H := H1
    clear H1
    simp only [Option.some.injEq, Prod.mk.injEq] at H
    obtain ⟨rfl, rfl⟩ := H
    go_wp2
    go_ret2
    exact ⟨by first | rfl | (simp [errW_none, errW_some] <;> rfl) | (simp [*, errW_none, errW_some] <;> rfl), by repeat (first | (with_reducible first | exact HB.out | apply below_alloc | apply pw_below_drewN | apply below_drew1 | refine below_set ?_ GE473.out) | exact HB.out)⟩
   ·replace c20 := Bool.eq_false_iff.mpr c20
    subst c20
    have H1 : (worldmintref05_Small.l0 kj1 0 (wrap64 ((l0_1.length : Int) - 1)) a0_0 l0_1) = some (r1, r2) := by rw [if_neg (show ¬ (false = true) by decide)] at H; exact H
    clear H
    have H := H1
    clear H1
    have H' := Aside0.mk H
    clear H
    have hcz21_0 : wc.cell? ⟨gb473, 0, none⟩ = some (.bool a0_0) := (blk_cell BK473.out 0).trans rfl
    have hcz21_1 : wc.cell? ⟨gb473, 1, none⟩ = some (.slice A0_1 l0_1.length c0_1) := (blk_cell BK473.out 1).trans rfl
    have hfz21_0 := blk_frozen BK473.out 0
    have hfz21_1 := blk_frozen BK473.out 1
    go_wp2
    try simp only [Act.put, List.setIfInBounds_toArray, List.set_cons_zero, List.set_cons_succ]
    go_loopg [4, 5] kj1 (fun kq v4 v5 w' => ∃ (x4_2 : Int) (x5_2 : Int), v4 = .int .i64 x4_2 ∧ v5 = .int .i64 x5_2 ∧ Aside0 (worldmintref05_Small.l0 kq x4_2 x5_2 a0_0 l0_1 = some (r1, r2)) ∧ Aside0 (kq ≤ kj1) ∧ Aside0 (w'.heap[gb473]? = some (.cells #[.bool a0_0, (.slice A0_1 l0_1.length c0_1)] 25 (0, 0))) ∧ Aside0 (Below w.heap.size w w'))
    case atStart => exact ⟨(0), (wrap64 ((l0_1.length : Int) - 1)), zq5, zq5, H', ⟨Nat.le_refl _⟩, ⟨by (with_reducible repeat (first | refine blk_drewN ?_ _ | refine blk_drew ?_ | refine blk_alloc ?_ _)); exact BK473.out⟩, ⟨by repeat (first | (with_reducible first | exact HB.out | apply below_alloc | apply pw_below_drewN | apply below_drew1 | refine below_set ?_ GE473.out) | exact HB.out)⟩⟩
    case round =>
     clear H'
     try clear c2
     try clear p2
     try clear c3
     try clear c6
     try clear c6b0
     try clear p6
     try clear c20
     try clear hcz21_0
     try clear hcz21_1
     try clear hfz21_0
     try clear hfz21_1
     try clear p2
     obtain ⟨x4_2, x5_2, rfl, rfl, HA, HK2, BK473, HB⟩ := hrel
     cases gk with
     | zero => exact absurd HA.out (by simp [worldmintref05_Small.l0])
     | succ k2 =>
      have H := HA.out
      clear HA
      simp only [worldmintref05_Small.l0] at H
      by_cases c22 : x5_2 ≥ 0
      ·rw [if_pos c22] at H
       have c22b0 : decide (0 ≤ x5_2) = true := decide_eq_true c22
       clear c22
       by_cases c23 : a0_0 = true
       ·subst c23
        have H1 : (if 0 ≤ x5_2 then (if x5_2 < (l0_1.length : Int) then (worldmintref05_Small.l0 k2 (wrap64 ((wrap64 (x4_2 * 10000)) - (rd l0_1 x5_2))) (wrap64 (x5_2 - 1)) true l0_1) else (none)) else (none)) = some (r1, r2) := by rw [if_pos rfl] at H; exact H
        clear H
        have H := H1
        clear H1
        by_cases c24 : 0 ≤ x5_2
        ·rw [if_pos c24] at H
         have c24b0 : decide (0 ≤ x5_2) = true := decide_eq_true c24
         clear c24
         by_cases c25 : x5_2 < (l0_1.length : Int)
         ·rw [if_pos c25] at H
          have c25b0 : decide (x5_2 < (l0_1.length : Int)) = true := decide_eq_true c25
          clear c25
          have H' := Aside0.mk H
          clear H
          have hcz26_0 : wr.cell? ⟨gb473, 0, none⟩ = some (.bool true) := (blk_cell BK473.out 0).trans rfl
          have hcz26_1 : wr.cell? ⟨gb473, 1, none⟩ = some (.slice A0_1 l0_1.length c0_1) := (blk_cell BK473.out 1).trans rfl
          have hfz26_0 := blk_frozen BK473.out 0
          have hfz26_1 := blk_frozen BK473.out 1
          have p484 : 0 ≤ (x5_2 : Int) := of_decide_eq_true zq3
          have q484 : x5_2 < (l0_1.length : Int) := of_decide_eq_true zq3
          obtain ⟨ad484, e484, hx484_0⟩ := Kd.at_int HR0_1.out x5_2 p484 q484
          cases e484
          replace hx484_0 := (HB.out.cell (World.block_lt_of_cell? w _ hx484_0)).trans hx484_0
          replace p484 := eq_true p484
          replace q484 := eq_true q484
          go_wp2
          go_roundg k2
          case measure => have := HJ1.out; have := HK2.out; omega
          case rel => exact ⟨(wrap64 ((wrap64 (x4_2 * 10000)) - (rd l0_1 x5_2))), (wrap64 (x5_2 - 1)), zq5, zq5, H', ⟨by have := HJ1.out; have := HK2.out; omega⟩, ⟨by (with_reducible repeat (first | refine blk_drewN ?_ _ | refine blk_drew ?_ | refine blk_alloc ?_ _)); exact BK473.out⟩, ⟨by repeat (first | (with_reducible first | exact HB.out | apply below_alloc | apply pw_below_drewN | apply below_drew1 | refine below_set ?_ GE473.out) | exact HB.out)⟩⟩
         ·rw [if_neg c25] at H
          exact absurd H (by simp)
        ·rw [if_neg c24] at H
         exact absurd H (by simp)
       ·replace c23 := Bool.eq_false_iff.mpr c23
        subst c23
        have H1 : (if 0 ≤ x5_2 then (if x5_2 < (l0_1.length : Int) then (worldmintref05_Small.l0 k2 (wrap64 ((wrap64 (x4_2 * 10000)) + (rd l0_1 x5_2))) (wrap64 (x5_2 - 1)) false l0_1) else (none)) else (none)) = some (r1, r2) := by rw [if_neg (show ¬ (false = true) by decide)] at H; exact H
        clear H
        have H := H1
        clear H1
        by_cases c27 : 0 ≤ x5_2
        ·rw [if_pos c27] at H
         have c27b0 : decide (0 ≤ x5_2) = true := decide_eq_true c27
         clear c27
         by_cases c28 : x5_2 < (l0_1.length : Int)
         ·rw [if_pos c28] at H
          have c28b0 : decide (x5_2 < (l0_1.length : Int)) = true := decide_eq_true c28
          clear c28
          have H' := Aside0.mk H
          clear H
          have hcz29_0 : wr.cell? ⟨gb473, 0, none⟩ = some (.bool false) := (blk_cell BK473.out 0).trans rfl
          have hcz29_1 : wr.cell? ⟨gb473, 1, none⟩ = some (.slice A0_1 l0_1.length c0_1) := (blk_cell BK473.out 1).trans rfl
          have hfz29_0 := blk_frozen BK473.out 0
          have hfz29_1 := blk_frozen BK473.out 1
          have p485 : 0 ≤ (x5_2 : Int) := of_decide_eq_true zq3
          have q485 : x5_2 < (l0_1.length : Int) := of_decide_eq_true zq3
          obtain ⟨ad485, e485, hx485_0⟩ := Kd.at_int HR0_1.out x5_2 p485 q485
          cases e485
          replace hx485_0 := (HB.out.cell (World.block_lt_of_cell? w _ hx485_0)).trans hx485_0
          replace p485 := eq_true p485
          replace q485 := eq_true q485
          go_wp2
          go_roundg k2
          case measure => have := HJ1.out; have := HK2.out; omega
          case rel => exact ⟨(wrap64 ((wrap64 (x4_2 * 10000)) + (rd l0_1 x5_2))), (wrap64 (x5_2 - 1)), zq5, zq5, H', ⟨by have := HJ1.out; have := HK2.out; omega⟩, ⟨by (with_reducible repeat (first | refine blk_drewN ?_ _ | refine blk_drew ?_ | refine blk_alloc ?_ _)); exact BK473.out⟩, ⟨by repeat (first | (with_reducible first | exact HB.out | apply below_alloc | apply pw_below_drewN | apply below_drew1 | refine below_set ?_ GE473.out) | exact HB.out)⟩⟩
         ·rw [if_neg c28] at H
          exact absurd H (by simp)
        ·rw [if_neg c27] at H
         exact absurd H (by simp)
      ·rw [if_neg c22] at H
       have c22b0 : decide (0 ≤ x5_2) = false := decide_eq_false c22
       clear c22
       simp only [Option.some.injEq, Prod.mk.injEq] at H
       obtain ⟨rfl, rfl⟩ := H
       go_wp2
       go_ret2
       exact ⟨by first | rfl | (simp [errW_none, errW_some] <;> rfl) | (simp [*, errW_none, errW_some] <;> rfl), by repeat (first | (with_reducible first | exact HB.out | apply below_alloc | apply pw_below_drewN | apply below_drew1 | refine below_set ?_ GE473.out) | exact HB.out)⟩

end Go.Proofs.YtlceokefdihdkaaGreatDoor.X
