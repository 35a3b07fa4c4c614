-- Written by a program of this session (xprint) out of the translation: Lean checks it.
import Derived.Test.YtlceokefdihdkaaGreatDoorXx0
import Derived.Test.YtlceokefdihdkaaGreatDoorXx5
import Derived.Test.YtlceokefdihdkaaGreatDoorXx6
import Derived.Test.YtlceokefdihdkaaGreatDoorExa
import Derived.Test.YtlceokefdihdkaaGreatDoorExc
import Derived.Test.YtlceokefdihdkaaGreatDoorExd
namespace Go.Proofs.YtlceokefdihdkaaGreatDoor.X
open Go.RowKit Go.Proofs.YtlceokefdihdkaaGreatDoorW.PrintWords Go.Proofs.YtlceokefdihdkaaGreatDoorW.PrintLast Go.Proofs.YtlceokefdihdkaaGreatDoorW.PrintMore
attribute [local go_sem] max2_int min2_int max_two min_two max_three min_three max_four min_four   -- for this text's walks alone
set_option linter.unusedVariables false
set_option linter.unusedSimpArgs false

/-! ### wide_Mul: function 27 -/
def wide_Mul.f (k : Nat) (a0_0 : Bool) (l0_1 : List Int) (a1_0 : Bool) (l1_1 : List Int) : Option (Bool × List Int × Int) := (wide_times.f k l0_1 l1_1).bind fun t308 => ((wide_signed.f k (!(a0_0 == a1_0)) t308).bind fun bt311 => (some (bt311.1, bt311.2.1, bt311.2.2)))
theorem wide_Mul.mono : ∀ a0 a1 a2 a3 k, LeO (wide_Mul.f k a0 a1 a2 a3) (wide_Mul.f (k + 1) a0 a1 a2 a3) := by
  intro a0 a1 a2 a3 k
  unfold wide_Mul.f
  repeat' first
      | (with_reducible exact wide_signed.mono _ _ _)
      | (with_reducible exact wide_times.mono _ _ _)
      | (with_reducible exact LeO.refl _)
      | (with_reducible exact LeO.none _)
      | (with_reducible refine LeO.ite ?_ ?_)
      | (with_reducible refine LeO.bind ?_ (fun _ => ?_))
      | exact wide_signed.mono _ _ _
      | exact wide_times.mono _ _ _
      | exact LeO.none _
      | refine LeO.ite ?_ ?_
      | refine LeO.bind ?_ (fun _ => ?_)
def wide_Mul.T1 : Bool × List (List Nat × List Nat) := (true, [([], []), ([0], [0]), ([], []), ([2], [2]), ([1, 3], [1, 3]), ([], []), ([5], [5]), ([], []), ([7], [7]), ([6, 8], [6, 8]), ([4, 9, 9], [4, 9]), ([10], [10]), ([10], [10]), ([11, 10, 0, 1, 2, 3, 4, 5, 6, 7, 8, 9, 10, 11, 12], [11]), ([12, 13, 0, 1, 2, 3, 4, 5, 6, 7, 8, 9, 10, 11, 12, 13], [12])])
def wide_Mul.B1 : List Nat := [0, 1, 0, 4, 15, 0, 32, 0, 128, 480, 1023, 2047, 2047, 8191, 16383]
theorem wide_Mul.tab1 : rtab .any (opsOf Tryz.f27 1) = wide_Mul.T1 := by kernel_rfl
theorem wide_Mul.bits1 : waitsOk wide_Mul.T1.2 wide_Mul.B1 = true := by kernel_rfl
set_option maxHeartbeats 8000000 in
set_option maxRecDepth 100000 in
theorem wide_Mul.calls (k : Nat) (a0_0 : Bool) (A0_1 : Option Addr) (c0_1 : Nat) (l0_1 : List Int) (a1_0 : Bool) (A1_1 : Option Addr) (c1_1 : Nat) (l1_1 : List Int) (r1 : Bool) (r2 : List Int) (r3 : Int) (w : World) (hr0_1 : Kd.C (Kd.int .u32) w A0_1 l0_1.length l0_1) (hc0_1 : l0_1.length ≤ c0_1) (hr1_1 : Kd.C (Kd.int .u32) w A1_1 l1_1.length l1_1) (hc1_1 : l1_1.length ≤ c1_1) (h : wide_Mul.f k a0_0 l0_1 a1_0 l1_1 = some (r1, r2, r3)) :
    Calls Tryz.prog 27 #[.agg #[.bool a0_0, .slice A0_1 l0_1.length c0_1], .agg #[.bool a1_0, .slice A1_1 l1_1.length c1_1]] w fun e w' => ∃ v1_ : Value, e = .returned (.tuple #[.agg #[.bool r1, v1_], .int .i64 r3]) ∧ Kd.V (Kd.int .u32) 81 w' w.heap.size (fun k_ => (w.heap.size ≤ k_)) v1_ r2 ∧ Below w.heap.size w w' := by
  have hu33 := Tryz.underlying33
  have HR0_1 := Aside0.mk hr0_1
  have HC0_1 := Aside0.mk hc0_1
  clear hr0_1 hc0_1
  have HR1_1 := Aside0.mk hr1_1
  have HC1_1 := Aside0.mk hc1_1
  clear hr1_1 hc1_1
  have HB := Aside0.mk (Below.refl w.heap.size w)
  have H : ((wide_times.f k l0_1 l1_1).bind fun t308 => ((wide_signed.f k (!(a0_0 == a1_0)) t308).bind fun bt311 => (some (bt311.1, bt311.2.1, bt311.2.2)))) = some (r1, r2, r3) := h
  clear h
  replace H := Option.bind_eq_some_iff.mp H
  obtain ⟨t308, A30, H⟩ := H
  replace H : ((wide_signed.f k (!(a0_0 == a1_0)) t308).bind fun bt311 => (some (bt311.1, bt311.2.1, bt311.2.2))) = some (r1, r2, r3) := H
  have A3 := Aside0.mk A30
  clear A30
  replace H := Option.bind_eq_some_iff.mp H
  obtain ⟨⟨t311, t312, t315⟩, A40, H⟩ := H
  replace H : (some (t311, t312, t315)) = some (r1, r2, r3) := H
  have A4 := Aside0.mk A40
  clear A40
  simp only [Option.some.injEq, Prod.mk.injEq] at H
  obtain ⟨rfl, rfl, rfl⟩ := H
  go_enter Tryz.func27, Tryz.ntmps27
  try go_wp2_with (first | ((with_reducible refine gate_dst (N := 2) rfl ?_); refine box_event ?hg (N := 2) ?hd (cs := #[.bool a0_0, .slice A0_1 l0_1.length c0_1]) (t := 33) ?hr ?_; (case hd => rfl); (case hg => rfl); (case hr => first | (go_simp; done) | (go_simp; rfl)); intro gb305 hg w5 hbox hb; have n0_ := Aside0.mk (below_step zq1 hb); have n1_ := Aside0.mk (hbox); have n2_ := Aside0.mk ((by rw [hg]; exact (below_size zq1) : w.heap.size ≤ gb305)); have n3_ := Aside0.mk ((by rw [hg]; exact (below_size zq1) : w.heap.size ≤ gb305)); clear HB; have HB := n0_; have BK305 := n1_; have GW305 := n2_; have GE305 := n3_; clear n0_ n1_ n2_ n3_; clear hb hbox hg) | ((with_reducible refine gate_dst (N := 3) rfl ?_); refine box_event ?hg (N := 3) ?hd (cs := #[.bool a1_0, .slice A1_1 l1_1.length c1_1]) (t := 33) ?hr ?_; (case hd => rfl); (case hg => rfl); (case hr => first | (go_simp; done) | (go_simp; rfl)); intro gb306 hg w6 hbox hb; have n0_ := Aside0.mk (blk_below (g := gb305) (o := .cells #[.bool a0_0, .slice A0_1 l0_1.length c0_1] 33 (0, 0)) (zq8 BK305.out) hb); have n1_ := Aside0.mk (below_step zq32 hb); have n2_ := Aside0.mk (hbox); have n3_ := Aside0.mk ((by rw [hg]; exact (below_size zq32) : w.heap.size ≤ gb306)); have n4_ := Aside0.mk ((by rw [hg]; exact (below_size zq32) : w.heap.size ≤ gb306)); have n5_ := Aside0.mk ((by rw [hg]; exact Nat.ne_of_lt (blk_lt (g := gb305) (o := .cells #[.bool a0_0, .slice A0_1 l0_1.length c0_1] 33 (0, 0)) (zq8 BK305.out)) : gb305 ≠ gb306)); have n6_ := Aside0.mk ((by rw [hg]; exact Nat.ne_of_gt (blk_lt (g := gb305) (o := .cells #[.bool a0_0, .slice A0_1 l0_1.length c0_1] 33 (0, 0)) (zq8 BK305.out)) : gb306 ≠ gb305)); clear BK305; clear HB; have BK305 := n0_; have HB := n1_; have BK306 := n2_; have GW306 := n3_; have GE306 := n4_; have NB305_306 := n5_; have NB306_305 := n6_; clear n0_ n1_ n2_ n3_ n4_ n5_ n6_; clear hb hbox hg) | ((with_reducible refine gate_dst (N := 4) rfl ?_); refine box_event ?hg (N := 4) ?hd (cs := #[.bool false, .slice none 0 0]) (t := 33) ?hr ?_; (case hd => rfl); (case hg => rfl); (case hr => first | (go_simp; done) | (go_simp; rfl)); intro gb307 hg w7 hbox hb; have n0_ := Aside0.mk (blk_below (g := gb305) (o := .cells #[.bool a0_0, .slice A0_1 l0_1.length c0_1] 33 (0, 0)) (zq8 BK305.out) hb); have n1_ := Aside0.mk (blk_below (g := gb306) (o := .cells #[.bool a1_0, .slice A1_1 l1_1.length c1_1] 33 (0, 0)) (zq8 BK306.out) hb); have n2_ := Aside0.mk (below_step zq33 hb); have n3_ := Aside0.mk (hbox); have n4_ := Aside0.mk ((by rw [hg]; exact (below_size zq33) : w.heap.size ≤ gb307)); have n5_ := Aside0.mk ((by rw [hg]; exact (below_size zq33) : w.heap.size ≤ gb307)); have n6_ := Aside0.mk ((by rw [hg]; exact Nat.ne_of_lt (blk_lt (g := gb305) (o := .cells #[.bool a0_0, .slice A0_1 l0_1.length c0_1] 33 (0, 0)) (zq8 BK305.out)) : gb305 ≠ gb307)); have n7_ := Aside0.mk ((by rw [hg]; exact Nat.ne_of_gt (blk_lt (g := gb305) (o := .cells #[.bool a0_0, .slice A0_1 l0_1.length c0_1] 33 (0, 0)) (zq8 BK305.out)) : gb307 ≠ gb305)); have n8_ := Aside0.mk ((by rw [hg]; exact Nat.ne_of_lt (blk_lt (g := gb306) (o := .cells #[.bool a1_0, .slice A1_1 l1_1.length c1_1] 33 (0, 0)) (zq8 BK306.out)) : gb306 ≠ gb307)); have n9_ := Aside0.mk ((by rw [hg]; exact Nat.ne_of_gt (blk_lt (g := gb306) (o := .cells #[.bool a1_0, .slice A1_1 l1_1.length c1_1] 33 (0, 0)) (zq8 BK306.out)) : gb307 ≠ gb306)); clear BK305; clear BK306; clear HB; have BK305 := n0_; have BK306 := n1_; have HB := n2_; have BK307 := n3_; have GW307 := n4_; have GE307 := n5_; have NB305_307 := n6_; have NB307_305 := n7_; have NB306_307 := n8_; have NB307_306 := n9_; clear n0_ n1_ n2_ n3_ n4_ n5_ n6_ n7_ n8_ n9_; clear hb hbox hg))
  have n0_ := Aside0.mk (blk_drew BK305.out)
  have n1_ := Aside0.mk (blk_drew BK306.out)
  have n2_ := Aside0.mk (blk_drew BK307.out)
  have n3_ := Aside0.mk (below_drew1 HB.out)
  clear BK305
  clear BK306
  clear BK307
  clear HB
  have BK305 := n0_
  have BK306 := n1_
  have BK307 := n2_
  have HB := n3_
  clear n0_ n1_ n2_ n3_
  refine start_ (n := 15) (S := fun w' => w'.cell? ⟨gb305, 0, none⟩ = some (.bool a0_0) ∧ w'.cell? ⟨gb305, 1, none⟩ = some (.slice A0_1 l0_1.length c0_1) ∧ w'.cell? ⟨gb306, 0, none⟩ = some (.bool a1_0) ∧ w'.cell? ⟨gb306, 1, none⟩ = some (.slice A1_1 l1_1.length c1_1)) (ds := []) #[false, false, false, false, false, false, false, false, false, false, false, false, false, false, false] (by kernel_rfl) rfl rfl ⟨(blk_cell BK305.out 0).trans rfl, (blk_cell BK305.out 1).trans rfl, (blk_cell BK306.out 0).trans rfl, (blk_cell BK306.out 1).trans rfl⟩ (fun hHeld => ?_); refine with_tabW wide_Mul.tab1 wide_Mul.bits1 (fun HT_ HW_ => ?_)
  generalize w7.drew = w8 at BK305 BK306 BK307 HB hHeld ⊢
  refine pure_ (i := 0) (N := some 6) (v := ?_) (a' := ?_) #[true, false, false, false, false, false, false, false, false, false, false, false, false, false, false] rfl rfl (any_of HT_.out (by kernel_rfl)) (fun _ _ _ h => h) (Or.inl ⟨by rfl, ?_⟩) ?_ ?_
  rotate_left
  · intro w'
    go_simp
    with_reducible rfl
  rotate_left
  · simp only [Act.put, List.setIfInBounds_toArray, List.set_cons_zero, List.set_cons_succ, i64_w, i32_w]
    rfl
  refine pure_ (i := 2) (N := some 8) (v := ?_) (a' := ?_) #[true, false, true, false, false, false, false, false, false, false, false, false, false, false, false] rfl rfl (any_of HT_.out (by kernel_rfl)) (fun _ _ _ h => h) (Or.inl ⟨by rfl, ?_⟩) ?_ ?_
  rotate_left
  · intro w'
    go_simp
    with_reducible rfl
  rotate_left
  · simp only [Act.put, List.setIfInBounds_toArray, List.set_cons_zero, List.set_cons_succ, i64_w, i32_w]
    rfl
  refine pure_ (i := 5) (N := some 11) (v := ?_) (a' := ?_) #[true, false, true, false, false, true, false, false, false, false, false, false, false, false, false] rfl rfl (any_of HT_.out (by kernel_rfl)) (fun _ _ _ h => h) (Or.inl ⟨by rfl, ?_⟩) ?_ ?_
  rotate_left
  · intro w'
    go_simp
    with_reducible rfl
  rotate_left
  · simp only [Act.put, List.setIfInBounds_toArray, List.set_cons_zero, List.set_cons_succ, i64_w, i32_w]
    rfl
  refine pure_ (i := 7) (N := some 13) (v := ?_) (a' := ?_) #[true, false, true, false, false, true, false, true, false, false, false, false, false, false, false] rfl rfl (any_of HT_.out (by kernel_rfl)) (fun _ _ _ h => h) (Or.inl ⟨by rfl, ?_⟩) ?_ ?_
  rotate_left
  · intro w'
    go_simp
    with_reducible rfl
  rotate_left
  · simp only [Act.put, List.setIfInBounds_toArray, List.set_cons_zero, List.set_cons_succ, i64_w, i32_w]
    rfl
  refine take_ (i := 1) (N := some 7) (v := ?_) (a' := ?_) #[true, true, true, false, false, true, false, true, false, false, false, false, false, false, false] rfl rfl (take_ofW HT_.out HW_.out (by kernel_rfl)) (fun _ _ _ h => h) (Or.inl ⟨by rfl, ?_⟩) hHeld ?_ ?_
  rotate_left
  · rintro w' ⟨s0, s1, s2, s3⟩
    go_simp
    with_reducible rfl
  rotate_left
  · simp only [Act.put, List.setIfInBounds_toArray, List.set_cons_zero, List.set_cons_succ, i64_w, i32_w]
    rfl
  refine take_ (i := 3) (N := some 9) (v := ?_) (a' := ?_) #[true, true, true, true, false, true, false, true, false, false, false, false, false, false, false] rfl rfl (take_ofW HT_.out HW_.out (by kernel_rfl)) (fun _ _ _ h => h) (Or.inl ⟨by rfl, ?_⟩) hHeld ?_ ?_
  rotate_left
  · rintro w' ⟨s0, s1, s2, s3⟩
    go_simp
    with_reducible rfl
  rotate_left
  · simp only [Act.put, List.setIfInBounds_toArray, List.set_cons_zero, List.set_cons_succ, i64_w, i32_w]
    rfl
  refine pure_ (i := 4) (N := some 10) (v := ?_) (a' := ?_) #[true, true, true, true, true, true, false, true, false, false, false, false, false, false, false] rfl rfl (any_of HT_.out (by kernel_rfl)) (fun _ _ _ h => h) (Or.inl ⟨by rfl, ?_⟩) ?_ ?_
  rotate_left
  · intro w'
    go_simp
    with_reducible rfl
  rotate_left
  · simp only [Act.put, List.setIfInBounds_toArray, List.set_cons_zero, List.set_cons_succ, i64_w, i32_w]
    rfl
  refine take_ (i := 6) (N := some 12) (v := ?_) (a' := ?_) #[true, true, true, true, true, true, true, true, false, false, false, false, false, false, false] rfl rfl (take_ofW HT_.out HW_.out (by kernel_rfl)) (fun _ _ _ h => h) (Or.inl ⟨by rfl, ?_⟩) hHeld ?_ ?_
  rotate_left
  · rintro w' ⟨s0, s1, s2, s3⟩
    go_simp
    with_reducible rfl
  rotate_left
  · simp only [Act.put, List.setIfInBounds_toArray, List.set_cons_zero, List.set_cons_succ, i64_w, i32_w]
    rfl
  refine take_ (i := 8) (N := some 14) (v := ?_) (a' := ?_) #[true, true, true, true, true, true, true, true, true, false, false, false, false, false, false] rfl rfl (take_ofW HT_.out HW_.out (by kernel_rfl)) (fun _ _ _ h => h) (Or.inl ⟨by rfl, ?_⟩) hHeld ?_ ?_
  rotate_left
  · rintro w' ⟨s0, s1, s2, s3⟩
    go_simp
    with_reducible rfl
  rotate_left
  · simp only [Act.put, List.setIfInBounds_toArray, List.set_cons_zero, List.set_cons_succ, i64_w, i32_w]
    rfl
  refine one_ (i := 9) (N := some 15) #[true, true, true, true, true, true, true, true, true, true, false, false, false, false, false] rfl rfl (one_of HT_.out (by kernel_rfl)) (by decide) (fun K hK => ?_)
  refine goes_ Tryz.func52 (by kernel_rfl) rfl #[.slice A0_1 l0_1.length c0_1, .slice A1_1 l1_1.length c1_1] (by rfl) rfl rfl zq5 ?_
  with_reducible refine (wide_times.calls k _ _ l0_1 _ _ l1_1 t308 _ ?side1 ?side2 ?side3 ?side4 A3.out).mono ?_
  (case side1 => repeat (first | exact (Kd.C_below HR0_1.out HB.out) | (with_reducible refine Kd.C_alloc ?_ _) | (with_reducible refine Kd.C_drewN ?_ _) | (with_reducible refine Kd.C_drew ?_)))
  (case side2 => exact HC0_1.out)
  (case side3 => repeat (first | exact (Kd.C_below HR1_1.out HB.out) | (with_reducible refine Kd.C_alloc ?_ _) | (with_reducible refine Kd.C_drewN ?_ _) | (with_reducible refine Kd.C_drew ?_)))
  (case side4 => exact HC1_1.out)
  rintro e w9 ⟨v309, rfl, ho0, hb⟩
  refine ⟨_, rfl, ?_⟩
  have n0_ := Aside0.mk (Kd.R_lower (Kd.R_newM (M := fun k_ => (w.heap.size ≤ k_)) ho0 (below_size zq34) (fun k_ h_ => h_)) (below_size zq34))
  have n1_ := Aside0.mk (blk_below (g := gb305) (o := .cells #[.bool a0_0, .slice A0_1 l0_1.length c0_1] 33 (0, 0)) (zq8 BK305.out) hb)
  have n2_ := Aside0.mk (blk_below (g := gb306) (o := .cells #[.bool a1_0, .slice A1_1 l1_1.length c1_1] 33 (0, 0)) (zq8 BK306.out) hb)
  have n3_ := Aside0.mk (blk_below (g := gb307) (o := .cells #[.bool false, .slice none 0 0] 33 (0, 0)) (zq8 BK307.out) hb)
  have n4_ := Aside0.mk (below_step zq34 hb)
  clear BK305
  clear BK306
  clear BK307
  clear HB
  have HO310 := n0_
  have BK305 := n1_
  have BK306 := n2_
  have BK307 := n3_
  have HB := n4_
  clear n0_ n1_ n2_ n3_ n4_
  (try clear hb)
  (try clear hb2)
  (try clear hk)
  (try clear hi)
  (try clear ho0)
  obtain ⟨Ao10, co10, eo10⟩ := Kd.R_slice HO310.out
  (first | subst eo10 | (injection eo10 with f1_ f2_ f3_; have f4_ := f1_.symm; have f5_ := f3_.symm; clear f1_ f2_ f3_; subst f4_; subst f5_))
  refine hK.out _ _ ⟨(blk_cell BK305.out 0).trans rfl, (blk_cell BK305.out 1).trans rfl, (blk_cell BK306.out 0).trans rfl, (blk_cell BK306.out 1).trans rfl⟩ (fun hHeld => ?_)
  clear hK K
  refine norm_ (a' := ?_) ?_ ?_
  rotate_left
  · show Act.put _ (some 15) _ = _
    simp only [Act.put, List.setIfInBounds_toArray, List.set_cons_zero, List.set_cons_succ, i64_w, i32_w]
    rfl
  refine one_ (i := 10) (N := some 16) #[true, true, true, true, true, true, true, true, true, true, true, false, false, false, false] rfl rfl (one_of HT_.out (by kernel_rfl)) (by decide) (fun K hK => ?_)
  refine goes_ Tryz.func53 (by kernel_rfl) rfl #[.bool (!(a0_0 == a1_0)), .slice Ao10 t308.length co10] (by rfl) rfl rfl zq5 ?_
  with_reducible refine (wide_signed.calls k (!(a0_0 == a1_0)) (fun k_ => some k_ = (.slice Ao10 t308.length co10 : Value).ownBlock) _ _ t308 t311 t312 t315 _ ?side1 A4.out).mono ?_
  (case side1 => exact Kd.R_V (Kd.R_tight rfl (Kd.R_types (Kd.R_types (Kd.R_types (HO310.out) BK305.out (by decide)) BK306.out (by decide)) BK307.out (by decide))))
  rintro e w11 ⟨v313, rfl, ho0, hb⟩
  refine ⟨_, rfl, ?_⟩
  have n0_ := Aside0.mk (Kd.R_below (zq6 HO310.out) hb)
  have n1_ := Aside0.mk (Kd.V_lower (Kd.V_mono (ok' := fun k_ => (w.heap.size ≤ k_) ∧ k_ ≠ gb305 ∧ k_ ≠ gb306 ∧ k_ ≠ gb307) ho0 (fun k_ hk_ => ⟨Or.elim hk_ (fun hs_ => ((Kd.R_types (Kd.R_types (Kd.R_types (HO310.out) BK305.out (by decide)) BK306.out (by decide)) BK307.out (by decide)).1 k_ hs_.symm).1.1.1.1) (fun hn_ => (Nat.le_trans (below_size zq34) hn_)), Or.elim hk_ (fun hs_ => ((Kd.R_types (Kd.R_types (Kd.R_types (HO310.out) BK305.out (by decide)) BK306.out (by decide)) BK307.out (by decide)).1 k_ hs_.symm).1.1.2) (fun hn_ => (Kd.freshB (g := gb305) (o := .cells #[.bool a0_0, .slice A0_1 l0_1.length c0_1] 33 (0, 0)) (zq8 BK305.out) k_ hn_)), Or.elim hk_ (fun hs_ => ((Kd.R_types (Kd.R_types (Kd.R_types (HO310.out) BK305.out (by decide)) BK306.out (by decide)) BK307.out (by decide)).1 k_ hs_.symm).1.2) (fun hn_ => (Kd.freshB (g := gb306) (o := .cells #[.bool a1_0, .slice A1_1 l1_1.length c1_1] 33 (0, 0)) (zq8 BK306.out) k_ hn_)), Or.elim hk_ (fun hs_ => ((Kd.R_types (Kd.R_types (Kd.R_types (HO310.out) BK305.out (by decide)) BK306.out (by decide)) BK307.out (by decide)).1 k_ hs_.symm).2) (fun hn_ => (Kd.freshB (g := gb307) (o := .cells #[.bool false, .slice none 0 0] 33 (0, 0)) (zq8 BK307.out) k_ hn_))⟩)) (below_size zq34))
  have n2_ := Aside0.mk (blk_below (g := gb305) (o := .cells #[.bool a0_0, .slice A0_1 l0_1.length c0_1] 33 (0, 0)) (zq8 BK305.out) hb)
  have n3_ := Aside0.mk (blk_below (g := gb306) (o := .cells #[.bool a1_0, .slice A1_1 l1_1.length c1_1] 33 (0, 0)) (zq8 BK306.out) hb)
  have n4_ := Aside0.mk (blk_below (g := gb307) (o := .cells #[.bool false, .slice none 0 0] 33 (0, 0)) (zq8 BK307.out) hb)
  have n5_ := Aside0.mk (below_step zq34 hb)
  clear HO310
  clear BK305
  clear BK306
  clear BK307
  clear HB
  have HO310 := n0_
  have HO314 := n1_
  have BK305 := n2_
  have BK306 := n3_
  have BK307 := n4_
  have HB := n5_
  clear n0_ n1_ n2_ n3_ n4_ n5_
  (try clear hb)
  (try clear hb2)
  (try clear hk)
  (try clear hi)
  (try clear ho0)
  obtain ⟨Ao13, co13, eo13⟩ := Kd.V_slice HO314.out
  (first | subst eo13 | (injection eo13 with f1_ f2_ f3_; have f4_ := f1_.symm; have f5_ := f3_.symm; clear f1_ f2_ f3_; subst f4_; subst f5_))
  refine hK.out _ _ ⟨(blk_cell BK305.out 0).trans rfl, (blk_cell BK305.out 1).trans rfl, (blk_cell BK306.out 0).trans rfl, (blk_cell BK306.out 1).trans rfl⟩ (fun hHeld => ?_)
  clear hK K
  refine norm_ (a' := ?_) ?_ ?_
  rotate_left
  · show Act.put _ (some 16) _ = _
    simp only [Act.put, List.setIfInBounds_toArray, List.set_cons_zero, List.set_cons_succ, i64_w, i32_w]
    rfl
  refine pure_ (i := 11) (N := some 17) (v := ?_) (a' := ?_) #[true, true, true, true, true, true, true, true, true, true, true, true, false, false, false] rfl rfl (any_of HT_.out (by kernel_rfl)) (fun _ _ _ h => h) (Or.inl ⟨by rfl, ?_⟩) ?_ ?_
  rotate_left
  · intro w'
    go_simp
    with_reducible rfl
  rotate_left
  · simp only [Act.put, List.setIfInBounds_toArray, List.set_cons_zero, List.set_cons_succ, i64_w, i32_w]
    rfl
  refine pure_ (i := 12) (N := some 18) (v := ?_) (a' := ?_) #[true, true, true, true, true, true, true, true, true, true, true, true, true, false, false] rfl rfl (any_of HT_.out (by kernel_rfl)) (fun _ _ _ h => h) (Or.inl ⟨by rfl, ?_⟩) ?_ ?_
  rotate_left
  · intro w'
    go_simp
    with_reducible rfl
  rotate_left
  · simp only [Act.put, List.setIfInBounds_toArray, List.set_cons_zero, List.set_cons_succ, i64_w, i32_w]
    rfl
  refine one_ (i := 13) (N := none) #[true, true, true, true, true, true, true, true, true, true, true, true, true, true, false] rfl rfl (one_of HT_.out (by kernel_rfl)) (by decide) (fun K hK => ?_)
  have hs12 : w11.cell? ⟨gb307, 0, none⟩ = some (.bool false) := (blk_cell BK307.out 0).trans rfl
  have hfs12 := blk_frozen BK307.out 0
  have hns12_0 := NB305_307.out
  have hns12_1 := NB306_307.out
  have hms12_0 := NB307_305.out
  have hms12_1 := NB307_306.out
  have hs14 : w11.cell? ⟨gb307, 1, none⟩ = some (.slice none 0 0) := (blk_cell BK307.out 1).trans rfl
  have hfs14 := blk_frozen BK307.out 1
  have hns14_0 := NB305_307.out
  have hns14_1 := NB306_307.out
  have hms14_0 := NB307_305.out
  have hms14_1 := NB307_306.out
  refine skip_ (w1 := ?_) (by rfl) rfl ?_ ?_
  rotate_left
  · go_simp
    rfl
  refine hK.out _ _ ⟨((cell_far (p := ⟨gb307, _, none⟩) NB305_307.out _).trans (((cell_far (p := ⟨gb307, _, none⟩) NB305_307.out _).trans (hHeld.1)))), ((cell_far (p := ⟨gb307, _, none⟩) NB305_307.out _).trans (((cell_far (p := ⟨gb307, _, none⟩) NB305_307.out _).trans (hHeld.2.1)))), ((cell_far (p := ⟨gb307, _, none⟩) NB306_307.out _).trans (((cell_far (p := ⟨gb307, _, none⟩) NB306_307.out _).trans (hHeld.2.2.1)))), ((cell_far (p := ⟨gb307, _, none⟩) NB306_307.out _).trans (((cell_far (p := ⟨gb307, _, none⟩) NB306_307.out _).trans (hHeld.2.2.2))))⟩ (fun hHeld => ?_)
  clear hK K
  refine pure_ (i := 14) (N := some 5) (v := ?_) (a' := ?_) #[true, true, true, true, true, true, true, true, true, true, true, true, true, true, true] rfl rfl (any_of HT_.out (by kernel_rfl)) (fun _ _ _ h => h) (Or.inl ⟨by rfl, ?_⟩) ?_ ?_
  rotate_left
  · intro w'
    go_simp
    with_reducible rfl
  rotate_left
  · simp only [Act.put, List.setIfInBounds_toArray, List.set_cons_zero, List.set_cons_succ, i64_w, i32_w]
    rfl
  refine done_ (done_of HT_.out (by kernel_rfl)) ?_
  try go_wp2
  refine bodyPost_ret (results_ct rfl _ _ gb307 33 #[.bool t311, .slice Ao13 t312.length co13] (0, 0) _ rfl (by (with_reducible repeat (first | refine blk_drewN ?_ _ | refine blk_drew ?_ | refine blk_alloc ?_ _)); refine blk_put (cs := #[.bool t311, .slice none 0 0]) ?_ 1 _ rfl; (with_reducible repeat (first | refine blk_drewN ?_ _ | refine blk_drew ?_ | refine blk_alloc ?_ _)); refine blk_put (cs := #[.bool false, .slice none 0 0]) ?_ 0 _ rfl; (with_reducible repeat (first | refine blk_drewN ?_ _ | refine blk_drew ?_ | refine blk_alloc ?_ _)); exact BK307.out) Tryz.underlying33 rfl (by kernel_rfl)) rfl ?_
  exact ⟨_, by first | rfl | (simp [errW_none, errW_some] <;> rfl) | (simp [*, errW_none, errW_some] <;> rfl), by (with_reducible repeat (first | apply Kd.V_alloc | apply Kd.V_drewN | apply Kd.V_drew)); exact Kd.V_mono (Kd.V_far (p := ⟨gb307, 1, none⟩) (Kd.V_far (p := ⟨gb307, 0, none⟩) (Kd.V_mono HO314.out (fun k_ hk => (⟨hk, hk.2.2.2⟩ : _ ∧ k_ ≠ gb307))) (fun _ hk => hk.2) (.bool t311)) (fun _ hk => hk.2) (.slice Ao13 t312.length co13)) (fun _ hk => hk.1.1), by repeat (first | (with_reducible first | exact HB.out | apply below_alloc | apply pw_below_drewN | apply below_drew1 | refine below_set ?_ GE305.out | refine below_set ?_ GE306.out | refine below_set ?_ GE307.out) | exact HB.out)⟩

/-! ### wide_Div: function 30 -/
def wide_Div.j0 : Nat → List Int → List Int → Bool → Bool → List Int → Bool → List Int → Option (Bool × List Int × Bool × List Int × Int)
  | 0, _, _, _, _, _, _, _ => none
  | k + 1, x7, x8, x33, x317000, x317001, x318000, x318001 => if x33 = true then ((wide_sum.f x7 (([1] : List Int))).bind fun t329 => ((wide_difference.f x318001 x8).bind fun t332 => ((wide_signed.f k (!(x317000 == x318000)) t329).bind fun bt335 => ((wide_signed.f k false t332).bind fun bt341 => (some (bt335.1, bt335.2.1, bt341.1, bt341.2.1, 0)))))) else ((wide_signed.f k (!(x317000 == x318000)) x7).bind fun bt347 => ((wide_signed.f k false x8).bind fun bt353 => (some (bt347.1, bt347.2.1, bt353.1, bt353.2.1, 0))))
def wide_Div.f (k : Nat) (a0_0 : Bool) (l0_1 : List Int) (a1_0 : Bool) (l1_1 : List Int) : Option (Bool × List Int × Bool × List Int × Int) := if (l1_1.length : Int) = 0 then (some (false, ([] : List Int), false, ([] : List Int), 1)) else ((wide_divide.f l0_1 l1_1).bind fun bt320 => (if a0_0 = true then (wide_Div.j0 k bt320.1 bt320.2 (decide (0 < bt320.2.length)) a0_0 l0_1 a1_0 l1_1) else (wide_Div.j0 k bt320.1 bt320.2 false a0_0 l0_1 a1_0 l1_1)))
theorem wide_Div.mono_l : ∀ k, (∀ y0 y1 y2 y3 y4 y5 y6, LeO (wide_Div.j0 k y0 y1 y2 y3 y4 y5 y6) (wide_Div.j0 (k + 1) y0 y1 y2 y3 y4 y5 y6))
  | 0 => fun _ _ _ _ _ _ _ r h => by simp [wide_Div.j0] at h
  | k + 1 => by
    have ih0 := wide_Div.mono_l k
    · intro y0 y1 y2 y3 y4 y5 y6
      unfold wide_Div.j0
      repeat' first
      | (with_reducible exact ih0 _ _ _ _ _ _ _)
      | (with_reducible exact wide_signed.mono _ _ _)
      | (with_reducible exact LeO.refl _)
      | (with_reducible exact LeO.none _)
      | (with_reducible refine LeO.ite ?_ ?_)
      | (with_reducible refine LeO.bind ?_ (fun _ => ?_))
      | exact ih0 _ _ _ _ _ _ _
      | exact wide_signed.mono _ _ _
      | exact LeO.none _
      | refine LeO.ite ?_ ?_
      | refine LeO.bind ?_ (fun _ => ?_)
theorem wide_Div.mono : ∀ a0 a1 a2 a3 k, LeO (wide_Div.f k a0 a1 a2 a3) (wide_Div.f (k + 1) a0 a1 a2 a3) := by
  intro a0 a1 a2 a3 k
  have ih0 := wide_Div.mono_l k
  unfold wide_Div.f
  repeat' first
      | (with_reducible exact ih0 _ _ _ _ _ _ _)
      | (with_reducible exact wide_signed.mono _ _ _)
      | (with_reducible exact LeO.refl _)
      | (with_reducible exact LeO.none _)
      | (with_reducible refine LeO.ite ?_ ?_)
      | (with_reducible refine LeO.bind ?_ (fun _ => ?_))
      | exact ih0 _ _ _ _ _ _ _
      | exact wide_signed.mono _ _ _
      | exact LeO.none _
      | refine LeO.ite ?_ ?_
      | refine LeO.bind ?_ (fun _ => ?_)
set_option maxHeartbeats 8000000 in
set_option maxRecDepth 100000 in
theorem wide_Div.calls (k : Nat) (a0_0 : Bool) (P0_1_ : Nat → Prop) (A0_1 : Option Addr) (c0_1 : Nat) (l0_1 : List Int) (a1_0 : Bool) (A1_1 : Option Addr) (c1_1 : Nat) (l1_1 : List Int) (r1 : Bool) (r2 : List Int) (r3 : Bool) (r4 : List Int) (r5 : Int) (w : World) (hs0_1 : Kd.V (Kd.int .u32) 81 w w.heap.size (fun k_ => P0_1_ k_) (.slice A0_1 l0_1.length c0_1) l0_1) (hr1_1 : Kd.C (Kd.int .u32) w A1_1 l1_1.length l1_1) (hc1_1 : l1_1.length ≤ c1_1) (h : wide_Div.f k a0_0 l0_1 a1_0 l1_1 = some (r1, r2, r3, r4, r5)) :
    Calls Tryz.prog 30 #[.agg #[.bool a0_0, .slice A0_1 l0_1.length c0_1], .agg #[.bool a1_0, .slice A1_1 l1_1.length c1_1]] w fun e w' => ∃ v1_ v3_ : Value, e = .returned (.tuple #[.agg #[.bool r1, v1_], .agg #[.bool r3, v3_], .int .i64 r5]) ∧ Kd.V (Kd.int .u32) 81 w' w.heap.size (fun k_ => (P0_1_ k_ ∨ w.heap.size ≤ k_)) v1_ r2 ∧ Kd.V (Kd.int .u32) 81 w' w.heap.size (fun k_ => (P0_1_ k_ ∨ w.heap.size ≤ k_)) v3_ r4 ∧ Below w.heap.size w w' := by
  have hu33 := Tryz.underlying33
  have HO0_1 := Aside0.mk (show Kd.V (Kd.int .u32) 81 w w.heap.size (fun k_ => (P0_1_ k_ ∨ w.heap.size ≤ k_)) (.slice A0_1 l0_1.length c0_1) l0_1 from Kd.V_mono hs0_1 (fun k_ hk => .inl hk))
  have HR1_1 := Aside0.mk hr1_1
  have HC1_1 := Aside0.mk hc1_1
  clear hr1_1 hc1_1
  have HB := Aside0.mk (Below.refl w.heap.size w)
  have H : (if (l1_1.length : Int) = 0 then (some (false, ([] : List Int), false, ([] : List Int), 1)) else ((wide_divide.f l0_1 l1_1).bind fun bt320 => (if a0_0 = true then (wide_Div.j0 k bt320.1 bt320.2 (decide (0 < bt320.2.length)) a0_0 l0_1 a1_0 l1_1) else (wide_Div.j0 k bt320.1 bt320.2 false a0_0 l0_1 a1_0 l1_1)))) = some (r1, r2, r3, r4, r5) := h
  clear h
  by_cases c3 : (l1_1.length : Int) = 0
  · rw [if_pos c3] at H
    have c3b0 : ((l1_1.length : Int) == 0) = true := beq_iff_eq.mpr c3
    have c3b1 : ((l1_1.length : Int) != 0) = false := bne_eq_false_iff_eq.mpr c3
    clear c3
    simp only [Option.some.injEq, Prod.mk.injEq] at H
    obtain ⟨rfl, rfl, rfl, rfl, rfl⟩ := H
    go_enter Tryz.func30, Tryz.ntmps30
    go_wp2_with (first | ((with_reducible refine gate_dst (N := 2) rfl ?_); (try (refine gate_guard (by rfl) ?_; dsimp only)); refine box_event ?hg (N := 2) ?hd (cs := #[.bool a0_0, .slice A0_1 l0_1.length c0_1]) (t := 33) ?hr ?_; (case hd => rfl); (case hg => rfl); (case hr => first | (go_simp; done) | (go_simp; rfl)); intro gb316 hg w4 hbox hb; have n0_ := Aside0.mk (Kd.V_below (Kd.V_elderB (zq0 HO0_1.out) gb316 (Nat.le_of_eq hg.symm)) hb); have n1_ := Aside0.mk (below_step zq1 hb); have n2_ := Aside0.mk (hbox); have n3_ := Aside0.mk ((by rw [hg]; exact (below_size zq1) : w.heap.size ≤ gb316)); have n4_ := Aside0.mk ((by rw [hg]; exact (below_size zq1) : w.heap.size ≤ gb316)); clear HO0_1; clear HB; have HO0_1 := n0_; have HB := n1_; have BK316 := n2_; have GW316 := n3_; have GE316 := n4_; clear n0_ n1_ n2_ n3_ n4_; clear hb hbox hg) | ((with_reducible refine gate_dst (N := 3) rfl ?_); (try (refine gate_guard (by rfl) ?_; dsimp only)); refine box_event ?hg (N := 3) ?hd (cs := #[.bool a1_0, .slice A1_1 l1_1.length c1_1]) (t := 33) ?hr ?_; (case hd => rfl); (case hg => rfl); (case hr => first | (go_simp; done) | (go_simp; rfl)); intro gb317 hg w5 hbox hb; have n0_ := Aside0.mk (Kd.V_below (Kd.V_elderB (zq0 HO0_1.out) gb317 (Nat.le_of_eq hg.symm)) hb); have n1_ := Aside0.mk (blk_below (g := gb316) (o := .cells #[.bool a0_0, .slice A0_1 l0_1.length c0_1] 33 (0, 0)) (zq8 BK316.out) hb); have n2_ := Aside0.mk (below_step zq35 hb); have n3_ := Aside0.mk (hbox); have n4_ := Aside0.mk ((by rw [hg]; exact (below_size zq35) : w.heap.size ≤ gb317)); have n5_ := Aside0.mk ((by rw [hg]; exact (below_size zq35) : w.heap.size ≤ gb317)); have n6_ := Aside0.mk ((by rw [hg]; exact Nat.ne_of_lt (blk_lt (g := gb316) (o := .cells #[.bool a0_0, .slice A0_1 l0_1.length c0_1] 33 (0, 0)) (zq8 BK316.out)) : gb316 ≠ gb317)); have n7_ := Aside0.mk ((by rw [hg]; exact Nat.ne_of_gt (blk_lt (g := gb316) (o := .cells #[.bool a0_0, .slice A0_1 l0_1.length c0_1] 33 (0, 0)) (zq8 BK316.out)) : gb317 ≠ gb316)); clear HO0_1; clear BK316; clear HB; have HO0_1 := n0_; have BK316 := n1_; have HB := n2_; have BK317 := n3_; have GW317 := n4_; have GE317 := n5_; have NB316_317 := n6_; have NB317_316 := n7_; clear n0_ n1_ n2_ n3_ n4_ n5_ n6_ n7_; clear hb hbox hg) | ((with_reducible refine gate_dst (N := 4) rfl ?_); (try (refine gate_guard (by rfl) ?_; dsimp only)); refine box_event ?hg (N := 4) ?hd (cs := #[.bool false, .slice none 0 0]) (t := 33) ?hr ?_; (case hd => rfl); (case hg => rfl); (case hr => first | (go_simp; done) | (go_simp; rfl)); intro gb318 hg w6 hbox hb; have n0_ := Aside0.mk (Kd.V_below (Kd.V_elderB (zq0 HO0_1.out) gb318 (Nat.le_of_eq hg.symm)) hb); have n1_ := Aside0.mk (blk_below (g := gb316) (o := .cells #[.bool a0_0, .slice A0_1 l0_1.length c0_1] 33 (0, 0)) (zq8 BK316.out) hb); have n2_ := Aside0.mk (blk_below (g := gb317) (o := .cells #[.bool a1_0, .slice A1_1 l1_1.length c1_1] 33 (0, 0)) (zq8 BK317.out) hb); have n3_ := Aside0.mk (below_step zq36 hb); have n4_ := Aside0.mk (hbox); have n5_ := Aside0.mk ((by rw [hg]; exact (below_size zq36) : w.heap.size ≤ gb318)); have n6_ := Aside0.mk ((by rw [hg]; exact (below_size zq36) : w.heap.size ≤ gb318)); have n7_ := Aside0.mk ((by rw [hg]; exact Nat.ne_of_lt (blk_lt (g := gb316) (o := .cells #[.bool a0_0, .slice A0_1 l0_1.length c0_1] 33 (0, 0)) (zq8 BK316.out)) : gb316 ≠ gb318)); have n8_ := Aside0.mk ((by rw [hg]; exact Nat.ne_of_gt (blk_lt (g := gb316) (o := .cells #[.bool a0_0, .slice A0_1 l0_1.length c0_1] 33 (0, 0)) (zq8 BK316.out)) : gb318 ≠ gb316)); have n9_ := Aside0.mk ((by rw [hg]; exact Nat.ne_of_lt (blk_lt (g := gb317) (o := .cells #[.bool a1_0, .slice A1_1 l1_1.length c1_1] 33 (0, 0)) (zq8 BK317.out)) : gb317 ≠ gb318)); have n10_ := Aside0.mk ((by rw [hg]; exact Nat.ne_of_gt (blk_lt (g := gb317) (o := .cells #[.bool a1_0, .slice A1_1 l1_1.length c1_1] 33 (0, 0)) (zq8 BK317.out)) : gb318 ≠ gb317)); clear HO0_1; clear BK316; clear BK317; clear HB; have HO0_1 := n0_; have BK316 := n1_; have BK317 := n2_; have HB := n3_; have BK318 := n4_; have GW318 := n5_; have GE318 := n6_; have NB316_318 := n7_; have NB318_316 := n8_; have NB317_318 := n9_; have NB318_317 := n10_; clear n0_ n1_ n2_ n3_ n4_ n5_ n6_ n7_ n8_ n9_ n10_; clear hb hbox hg) | ((with_reducible refine gate_dst (N := 5) rfl ?_); (try (refine gate_guard (by rfl) ?_; dsimp only)); refine box_event ?hg (N := 5) ?hd (cs := #[.bool false, .slice none 0 0]) (t := 33) ?hr ?_; (case hd => rfl); (case hg => rfl); (case hr => first | (go_simp; done) | (go_simp; rfl)); intro gb319 hg w7 hbox hb; have n0_ := Aside0.mk (Kd.V_below (Kd.V_elderB (zq0 HO0_1.out) gb319 (Nat.le_of_eq hg.symm)) hb); have n1_ := Aside0.mk (blk_below (g := gb316) (o := .cells #[.bool a0_0, .slice A0_1 l0_1.length c0_1] 33 (0, 0)) (zq8 BK316.out) hb); have n2_ := Aside0.mk (blk_below (g := gb317) (o := .cells #[.bool a1_0, .slice A1_1 l1_1.length c1_1] 33 (0, 0)) (zq8 BK317.out) hb); have n3_ := Aside0.mk (blk_below (g := gb318) (o := .cells #[.bool false, .slice none 0 0] 33 (0, 0)) (zq8 BK318.out) hb); have n4_ := Aside0.mk (below_step zq37 hb); have n5_ := Aside0.mk (hbox); have n6_ := Aside0.mk ((by rw [hg]; exact (below_size zq37) : w.heap.size ≤ gb319)); have n7_ := Aside0.mk ((by rw [hg]; exact (below_size zq37) : w.heap.size ≤ gb319)); have n8_ := Aside0.mk ((by rw [hg]; exact Nat.ne_of_lt (blk_lt (g := gb316) (o := .cells #[.bool a0_0, .slice A0_1 l0_1.length c0_1] 33 (0, 0)) (zq8 BK316.out)) : gb316 ≠ gb319)); have n9_ := Aside0.mk ((by rw [hg]; exact Nat.ne_of_gt (blk_lt (g := gb316) (o := .cells #[.bool a0_0, .slice A0_1 l0_1.length c0_1] 33 (0, 0)) (zq8 BK316.out)) : gb319 ≠ gb316)); have n10_ := Aside0.mk ((by rw [hg]; exact Nat.ne_of_lt (blk_lt (g := gb317) (o := .cells #[.bool a1_0, .slice A1_1 l1_1.length c1_1] 33 (0, 0)) (zq8 BK317.out)) : gb317 ≠ gb319)); have n11_ := Aside0.mk ((by rw [hg]; exact Nat.ne_of_gt (blk_lt (g := gb317) (o := .cells #[.bool a1_0, .slice A1_1 l1_1.length c1_1] 33 (0, 0)) (zq8 BK317.out)) : gb319 ≠ gb317)); have n12_ := Aside0.mk ((by rw [hg]; exact Nat.ne_of_lt (blk_lt (g := gb318) (o := .cells #[.bool false, .slice none 0 0] 33 (0, 0)) (zq8 BK318.out)) : gb318 ≠ gb319)); have n13_ := Aside0.mk ((by rw [hg]; exact Nat.ne_of_gt (blk_lt (g := gb318) (o := .cells #[.bool false, .slice none 0 0] 33 (0, 0)) (zq8 BK318.out)) : gb319 ≠ gb318)); clear HO0_1; clear BK316; clear BK317; clear BK318; clear HB; have HO0_1 := n0_; have BK316 := n1_; have BK317 := n2_; have BK318 := n3_; have HB := n4_; have BK319 := n5_; have GW319 := n6_; have GE319 := n7_; have NB316_319 := n8_; have NB319_316 := n9_; have NB317_319 := n10_; have NB319_317 := n11_; have NB318_319 := n12_; have NB319_318 := n13_; clear n0_ n1_ n2_ n3_ n4_ n5_ n6_ n7_ n8_ n9_ n10_ n11_ n12_ n13_; clear hb hbox hg; have hnb8 := NB317_316.out; have hnc8 := NB316_317.out; have hnb9 := NB317_318.out; have hnc9 := NB318_317.out; have hnb10 := NB317_319.out; have hnc10 := NB319_317.out; have hcz11_0 : w7.cell? ⟨gb317, 0, none⟩ = some (.bool a1_0) := (blk_cell BK317.out 0).trans rfl; have hcz11_1 : w7.cell? ⟨gb317, 1, none⟩ = some (.slice A1_1 l1_1.length c1_1) := (blk_cell BK317.out 1).trans rfl; have hfz11_0 := blk_frozen BK317.out 0; have hfz11_1 := blk_frozen BK317.out 1; have hnb12 := NB318_316.out; have hnc12 := NB316_318.out; have hnb13 := NB318_319.out; have hnc13 := NB319_318.out; have hcz14_0 : w7.cell? ⟨gb318, 0, none⟩ = some (.bool false) := (blk_cell BK318.out 0).trans rfl; have hcz14_1 : w7.cell? ⟨gb318, 1, none⟩ = some (.slice none 0 0) := (blk_cell BK318.out 1).trans rfl; have hfz14_0 := blk_frozen BK318.out 0; have hfz14_1 := blk_frozen BK318.out 1; have hnb15 := NB319_316.out; have hnc15 := NB316_319.out; have hcz16_0 : w7.cell? ⟨gb319, 0, none⟩ = some (.bool false) := (blk_cell BK319.out 0).trans rfl; have hcz16_1 : w7.cell? ⟨gb319, 1, none⟩ = some (.slice none 0 0) := (blk_cell BK319.out 1).trans rfl; have hfz16_0 := blk_frozen BK319.out 0; have hfz16_1 := blk_frozen BK319.out 1))
    refine bodyPost_ret (results_list (rs := [.cell 4 33, .cell 5 33, .tmp 6]) rfl (by simp) (.cell gb318 33 #[.bool false, .slice none 0 0] (0, 0) _ rfl (by (with_reducible repeat (first | refine blk_drewN ?_ _ | refine blk_drew ?_ | refine blk_alloc ?_ _)); refine blk_far ?_ NB318_319.out _; (with_reducible repeat (first | refine blk_drewN ?_ _ | refine blk_drew ?_ | refine blk_alloc ?_ _)); refine blk_far ?_ NB318_319.out _; (with_reducible repeat (first | refine blk_drewN ?_ _ | refine blk_drew ?_ | refine blk_alloc ?_ _)); refine blk_put (cs := #[.bool false, .slice none 0 0]) ?_ 1 _ rfl; (with_reducible repeat (first | refine blk_drewN ?_ _ | refine blk_drew ?_ | refine blk_alloc ?_ _)); refine blk_put (cs := #[.bool false, .slice none 0 0]) ?_ 0 _ rfl; (with_reducible repeat (first | refine blk_drewN ?_ _ | refine blk_drew ?_ | refine blk_alloc ?_ _)); exact BK318.out) Tryz.underlying33 rfl (by kernel_rfl) (.cell gb319 33 #[.bool false, .slice none 0 0] (0, 0) _ rfl (by (with_reducible repeat (first | refine blk_drewN ?_ _ | refine blk_drew ?_ | refine blk_alloc ?_ _)); refine blk_put (cs := #[.bool false, .slice none 0 0]) ?_ 1 _ rfl; (with_reducible repeat (first | refine blk_drewN ?_ _ | refine blk_drew ?_ | refine blk_alloc ?_ _)); refine blk_put (cs := #[.bool false, .slice none 0 0]) ?_ 0 _ rfl; (with_reducible repeat (first | refine blk_drewN ?_ _ | refine blk_drew ?_ | refine blk_alloc ?_ _)); refine blk_far ?_ NB319_318.out _; (with_reducible repeat (first | refine blk_drewN ?_ _ | refine blk_drew ?_ | refine blk_alloc ?_ _)); refine blk_far ?_ NB319_318.out _; (with_reducible repeat (first | refine blk_drewN ?_ _ | refine blk_drew ?_ | refine blk_alloc ?_ _)); exact BK319.out) Tryz.underlying33 rfl (by kernel_rfl) (.tmp .nil)))) rfl ?_
    exact ⟨_, _, by first | rfl | (simp [errW_none, errW_some] <;> rfl) | (simp [*, errW_none, errW_some] <;> rfl), Kd.V_mono (ok := fun _ => False) (Kd.V_nil _ _ _ _ _) (fun _ hk => hk.elim), Kd.V_mono (ok := fun _ => False) (Kd.V_nil _ _ _ _ _) (fun _ hk => hk.elim), by repeat (first | (with_reducible first | exact HB.out | apply below_alloc | apply pw_below_drewN | apply below_drew1 | refine below_set ?_ GE316.out | refine below_set ?_ GE317.out | refine below_set ?_ GE318.out | refine below_set ?_ GE319.out) | exact HB.out)⟩
  · rw [if_neg c3] at H
    have c3b0 : ((l1_1.length : Int) == 0) = false := beq_eq_false_iff_ne.mpr c3
    have c3b1 : ((l1_1.length : Int) != 0) = true := bne_iff_ne.mpr c3
    have c3b2 : ¬ (l1_1 = []) := fun h_ => c3 (by rw [h_]; rfl)
    replace H := Option.bind_eq_some_iff.mp H
    obtain ⟨⟨t320, t323⟩, A170, H⟩ := H
    replace H : (if a0_0 = true then (wide_Div.j0 k t320 t323 (decide (0 < t323.length)) a0_0 l0_1 a1_0 l1_1) else (wide_Div.j0 k t320 t323 false a0_0 l0_1 a1_0 l1_1)) = some (r1, r2, r3, r4, r5) := H
    have A17 := Aside0.mk A170
    clear A170
    have HC18 := Aside0.mk H
    clear H
    go_enter Tryz.func30, Tryz.ntmps30
    go_upto_region 4 with (first | ((with_reducible refine gate_dst (N := 2) rfl ?_); (try (refine gate_guard (by rfl) ?_; dsimp only)); refine box_event ?hg (N := 2) ?hd (cs := #[.bool a0_0, .slice A0_1 l0_1.length c0_1]) (t := 33) ?hr ?_; (case hd => rfl); (case hg => rfl); (case hr => first | (go_simp; done) | (go_simp; rfl)); intro gb316 hg w19 hbox hb; have n0_ := Aside0.mk (Kd.V_below (Kd.V_elderB (zq0 HO0_1.out) gb316 (Nat.le_of_eq hg.symm)) hb); have n1_ := Aside0.mk (below_step zq1 hb); have n2_ := Aside0.mk (hbox); have n3_ := Aside0.mk ((by rw [hg]; exact (below_size zq1) : w.heap.size ≤ gb316)); have n4_ := Aside0.mk ((by rw [hg]; exact (below_size zq1) : w.heap.size ≤ gb316)); clear HO0_1; clear HB; have HO0_1 := n0_; have HB := n1_; have BK316 := n2_; have GW316 := n3_; have GE316 := n4_; clear n0_ n1_ n2_ n3_ n4_; clear hb hbox hg) | ((with_reducible refine gate_dst (N := 3) rfl ?_); (try (refine gate_guard (by rfl) ?_; dsimp only)); refine box_event ?hg (N := 3) ?hd (cs := #[.bool a1_0, .slice A1_1 l1_1.length c1_1]) (t := 33) ?hr ?_; (case hd => rfl); (case hg => rfl); (case hr => first | (go_simp; done) | (go_simp; rfl)); intro gb317 hg w20 hbox hb; have n0_ := Aside0.mk (Kd.V_below (Kd.V_elderB (zq0 HO0_1.out) gb317 (Nat.le_of_eq hg.symm)) hb); have n1_ := Aside0.mk (blk_below (g := gb316) (o := .cells #[.bool a0_0, .slice A0_1 l0_1.length c0_1] 33 (0, 0)) (zq8 BK316.out) hb); have n2_ := Aside0.mk (below_step zq35 hb); have n3_ := Aside0.mk (hbox); have n4_ := Aside0.mk ((by rw [hg]; exact (below_size zq35) : w.heap.size ≤ gb317)); have n5_ := Aside0.mk ((by rw [hg]; exact (below_size zq35) : w.heap.size ≤ gb317)); have n6_ := Aside0.mk ((by rw [hg]; exact Nat.ne_of_lt (blk_lt (g := gb316) (o := .cells #[.bool a0_0, .slice A0_1 l0_1.length c0_1] 33 (0, 0)) (zq8 BK316.out)) : gb316 ≠ gb317)); have n7_ := Aside0.mk ((by rw [hg]; exact Nat.ne_of_gt (blk_lt (g := gb316) (o := .cells #[.bool a0_0, .slice A0_1 l0_1.length c0_1] 33 (0, 0)) (zq8 BK316.out)) : gb317 ≠ gb316)); clear HO0_1; clear BK316; clear HB; have HO0_1 := n0_; have BK316 := n1_; have HB := n2_; have BK317 := n3_; have GW317 := n4_; have GE317 := n5_; have NB316_317 := n6_; have NB317_316 := n7_; clear n0_ n1_ n2_ n3_ n4_ n5_ n6_ n7_; clear hb hbox hg) | ((with_reducible refine gate_dst (N := 4) rfl ?_); (try (refine gate_guard (by rfl) ?_; dsimp only)); refine box_event ?hg (N := 4) ?hd (cs := #[.bool false, .slice none 0 0]) (t := 33) ?hr ?_; (case hd => rfl); (case hg => rfl); (case hr => first | (go_simp; done) | (go_simp; rfl)); intro gb318 hg w21 hbox hb; have n0_ := Aside0.mk (Kd.V_below (Kd.V_elderB (zq0 HO0_1.out) gb318 (Nat.le_of_eq hg.symm)) hb); have n1_ := Aside0.mk (blk_below (g := gb316) (o := .cells #[.bool a0_0, .slice A0_1 l0_1.length c0_1] 33 (0, 0)) (zq8 BK316.out) hb); have n2_ := Aside0.mk (blk_below (g := gb317) (o := .cells #[.bool a1_0, .slice A1_1 l1_1.length c1_1] 33 (0, 0)) (zq8 BK317.out) hb); have n3_ := Aside0.mk (below_step zq36 hb); have n4_ := Aside0.mk (hbox); have n5_ := Aside0.mk ((by rw [hg]; exact (below_size zq36) : w.heap.size ≤ gb318)); have n6_ := Aside0.mk ((by rw [hg]; exact (below_size zq36) : w.heap.size ≤ gb318)); have n7_ := Aside0.mk ((by rw [hg]; exact Nat.ne_of_lt (blk_lt (g := gb316) (o := .cells #[.bool a0_0, .slice A0_1 l0_1.length c0_1] 33 (0, 0)) (zq8 BK316.out)) : gb316 ≠ gb318)); have n8_ := Aside0.mk ((by rw [hg]; exact Nat.ne_of_gt (blk_lt (g := gb316) (o := .cells #[.bool a0_0, .slice A0_1 l0_1.length c0_1] 33 (0, 0)) (zq8 BK316.out)) : gb318 ≠ gb316)); have n9_ := Aside0.mk ((by rw [hg]; exact Nat.ne_of_lt (blk_lt (g := gb317) (o := .cells #[.bool a1_0, .slice A1_1 l1_1.length c1_1] 33 (0, 0)) (zq8 BK317.out)) : gb317 ≠ gb318)); have n10_ := Aside0.mk ((by rw [hg]; exact Nat.ne_of_gt (blk_lt (g := gb317) (o := .cells #[.bool a1_0, .slice A1_1 l1_1.length c1_1] 33 (0, 0)) (zq8 BK317.out)) : gb318 ≠ gb317)); clear HO0_1; clear BK316; clear BK317; clear HB; have HO0_1 := n0_; have BK316 := n1_; have BK317 := n2_; have HB := n3_; have BK318 := n4_; have GW318 := n5_; have GE318 := n6_; have NB316_318 := n7_; have NB318_316 := n8_; have NB317_318 := n9_; have NB318_317 := n10_; clear n0_ n1_ n2_ n3_ n4_ n5_ n6_ n7_ n8_ n9_ n10_; clear hb hbox hg) | ((with_reducible refine gate_dst (N := 5) rfl ?_); (try (refine gate_guard (by rfl) ?_; dsimp only)); refine box_event ?hg (N := 5) ?hd (cs := #[.bool false, .slice none 0 0]) (t := 33) ?hr ?_; (case hd => rfl); (case hg => rfl); (case hr => first | (go_simp; done) | (go_simp; rfl)); intro gb319 hg w22 hbox hb; have n0_ := Aside0.mk (Kd.V_below (Kd.V_elderB (zq0 HO0_1.out) gb319 (Nat.le_of_eq hg.symm)) hb); have n1_ := Aside0.mk (blk_below (g := gb316) (o := .cells #[.bool a0_0, .slice A0_1 l0_1.length c0_1] 33 (0, 0)) (zq8 BK316.out) hb); have n2_ := Aside0.mk (blk_below (g := gb317) (o := .cells #[.bool a1_0, .slice A1_1 l1_1.length c1_1] 33 (0, 0)) (zq8 BK317.out) hb); have n3_ := Aside0.mk (blk_below (g := gb318) (o := .cells #[.bool false, .slice none 0 0] 33 (0, 0)) (zq8 BK318.out) hb); have n4_ := Aside0.mk (below_step zq37 hb); have n5_ := Aside0.mk (hbox); have n6_ := Aside0.mk ((by rw [hg]; exact (below_size zq37) : w.heap.size ≤ gb319)); have n7_ := Aside0.mk ((by rw [hg]; exact (below_size zq37) : w.heap.size ≤ gb319)); have n8_ := Aside0.mk ((by rw [hg]; exact Nat.ne_of_lt (blk_lt (g := gb316) (o := .cells #[.bool a0_0, .slice A0_1 l0_1.length c0_1] 33 (0, 0)) (zq8 BK316.out)) : gb316 ≠ gb319)); have n9_ := Aside0.mk ((by rw [hg]; exact Nat.ne_of_gt (blk_lt (g := gb316) (o := .cells #[.bool a0_0, .slice A0_1 l0_1.length c0_1] 33 (0, 0)) (zq8 BK316.out)) : gb319 ≠ gb316)); have n10_ := Aside0.mk ((by rw [hg]; exact Nat.ne_of_lt (blk_lt (g := gb317) (o := .cells #[.bool a1_0, .slice A1_1 l1_1.length c1_1] 33 (0, 0)) (zq8 BK317.out)) : gb317 ≠ gb319)); have n11_ := Aside0.mk ((by rw [hg]; exact Nat.ne_of_gt (blk_lt (g := gb317) (o := .cells #[.bool a1_0, .slice A1_1 l1_1.length c1_1] 33 (0, 0)) (zq8 BK317.out)) : gb319 ≠ gb317)); have n12_ := Aside0.mk ((by rw [hg]; exact Nat.ne_of_lt (blk_lt (g := gb318) (o := .cells #[.bool false, .slice none 0 0] 33 (0, 0)) (zq8 BK318.out)) : gb318 ≠ gb319)); have n13_ := Aside0.mk ((by rw [hg]; exact Nat.ne_of_gt (blk_lt (g := gb318) (o := .cells #[.bool false, .slice none 0 0] 33 (0, 0)) (zq8 BK318.out)) : gb319 ≠ gb318)); clear HO0_1; clear BK316; clear BK317; clear BK318; clear HB; have HO0_1 := n0_; have BK316 := n1_; have BK317 := n2_; have BK318 := n3_; have HB := n4_; have BK319 := n5_; have GW319 := n6_; have GE319 := n7_; have NB316_319 := n8_; have NB319_316 := n9_; have NB317_319 := n10_; have NB319_317 := n11_; have NB318_319 := n12_; have NB319_318 := n13_; clear n0_ n1_ n2_ n3_ n4_ n5_ n6_ n7_ n8_ n9_ n10_ n11_ n12_ n13_; clear hb hbox hg; have hnb23 := NB317_316.out; have hnc23 := NB316_317.out; have hnb24 := NB317_318.out; have hnc24 := NB318_317.out; have hnb25 := NB317_319.out; have hnc25 := NB319_317.out; have hcz26_0 : w22.cell? ⟨gb317, 0, none⟩ = some (.bool a1_0) := (blk_cell BK317.out 0).trans rfl; have hcz26_1 : w22.cell? ⟨gb317, 1, none⟩ = some (.slice A1_1 l1_1.length c1_1) := (blk_cell BK317.out 1).trans rfl; have hfz26_0 := blk_frozen BK317.out 0; have hfz26_1 := blk_frozen BK317.out 1; have hnb27 := NB316_318.out; have hnc27 := NB318_316.out; have hnb28 := NB316_319.out; have hnc28 := NB319_316.out; have hcz29_0 : w22.cell? ⟨gb316, 0, none⟩ = some (.bool a0_0) := (blk_cell BK316.out 0).trans rfl; have hcz29_1 : w22.cell? ⟨gb316, 1, none⟩ = some (.slice A0_1 l0_1.length c0_1) := (blk_cell BK316.out 1).trans rfl; have hfz29_0 := blk_frozen BK316.out 0; have hfz29_1 := blk_frozen BK316.out 1) | ((with_reducible refine gate_callee (f := 64) rfl ?_); refine goesL_ (some 24) rfl rfl Tryz.func64 (by kernel_rfl) rfl #[.slice A0_1 l0_1.length c0_1, .slice A1_1 l1_1.length c1_1] rfl zq5 ?_; (with_reducible refine (wide_divide.calls (fun k_ => (((((P0_1_ k_ ∨ w.heap.size ≤ k_) ∧ k_ ≠ gb316) ∧ k_ ≠ gb317) ∧ k_ ≠ gb318) ∧ k_ ≠ gb319)) _ _ l0_1 _ _ l1_1 t320 t323 _ ?side1 ?side2 ?side3 A17.out).mono ?_); (case side1 => exact HO0_1.out); (case side2 => repeat (first | exact (Kd.C_below HR1_1.out HB.out) | (with_reducible refine Kd.C_alloc ?_ _) | (with_reducible refine Kd.C_drewN ?_ _) | (with_reducible refine Kd.C_drew ?_))); (case side3 => exact HC1_1.out); rintro e w30 ⟨v321, v324, rfl, ho0, ho1, hb⟩; refine ⟨_, rfl, ?_⟩; have n0_ := Aside0.mk (Kd.V_below (zq0 HO0_1.out) hb); have n1_ := Aside0.mk (Kd.V_lower (Kd.V_mono (ok' := fun k_ => (P0_1_ k_ ∨ w.heap.size ≤ k_) ∧ k_ ≠ gb316 ∧ k_ ≠ gb317 ∧ k_ ≠ gb318 ∧ k_ ≠ gb319) ho0 (fun k_ hk_ => ⟨Or.elim hk_ (fun hs_ => hs_.1.1.1.1) (fun hn_ => (.inr (Nat.le_trans (below_size zq38) hn_))), Or.elim hk_ (fun hs_ => hs_.1.1.1.2) (fun hn_ => (Kd.freshB (g := gb316) (o := .cells #[.bool a0_0, .slice A0_1 l0_1.length c0_1] 33 (0, 0)) (zq8 BK316.out) k_ hn_)), Or.elim hk_ (fun hs_ => hs_.1.1.2) (fun hn_ => (Kd.freshB (g := gb317) (o := .cells #[.bool a1_0, .slice A1_1 l1_1.length c1_1] 33 (0, 0)) (zq8 BK317.out) k_ hn_)), Or.elim hk_ (fun hs_ => hs_.1.2) (fun hn_ => (Kd.freshB (g := gb318) (o := .cells #[.bool false, .slice none 0 0] 33 (0, 0)) (zq8 BK318.out) k_ hn_)), Or.elim hk_ (fun hs_ => hs_.2) (fun hn_ => (Kd.freshB (g := gb319) (o := .cells #[.bool false, .slice none 0 0] 33 (0, 0)) (zq8 BK319.out) k_ hn_))⟩)) (below_size zq38)); have n2_ := Aside0.mk (Kd.V_lower (Kd.V_mono (ok' := fun k_ => (P0_1_ k_ ∨ w.heap.size ≤ k_) ∧ k_ ≠ gb316 ∧ k_ ≠ gb317 ∧ k_ ≠ gb318 ∧ k_ ≠ gb319) ho1 (fun k_ hk_ => ⟨Or.elim hk_ (fun hs_ => hs_.1.1.1.1) (fun hn_ => (.inr (Nat.le_trans (below_size zq38) hn_))), Or.elim hk_ (fun hs_ => hs_.1.1.1.2) (fun hn_ => (Kd.freshB (g := gb316) (o := .cells #[.bool a0_0, .slice A0_1 l0_1.length c0_1] 33 (0, 0)) (zq8 BK316.out) k_ hn_)), Or.elim hk_ (fun hs_ => hs_.1.1.2) (fun hn_ => (Kd.freshB (g := gb317) (o := .cells #[.bool a1_0, .slice A1_1 l1_1.length c1_1] 33 (0, 0)) (zq8 BK317.out) k_ hn_)), Or.elim hk_ (fun hs_ => hs_.1.2) (fun hn_ => (Kd.freshB (g := gb318) (o := .cells #[.bool false, .slice none 0 0] 33 (0, 0)) (zq8 BK318.out) k_ hn_)), Or.elim hk_ (fun hs_ => hs_.2) (fun hn_ => (Kd.freshB (g := gb319) (o := .cells #[.bool false, .slice none 0 0] 33 (0, 0)) (zq8 BK319.out) k_ hn_))⟩)) (below_size zq38)); have n3_ := Aside0.mk (blk_below (g := gb316) (o := .cells #[.bool a0_0, .slice A0_1 l0_1.length c0_1] 33 (0, 0)) (zq8 BK316.out) hb); have n4_ := Aside0.mk (blk_below (g := gb317) (o := .cells #[.bool a1_0, .slice A1_1 l1_1.length c1_1] 33 (0, 0)) (zq8 BK317.out) hb); have n5_ := Aside0.mk (blk_below (g := gb318) (o := .cells #[.bool false, .slice none 0 0] 33 (0, 0)) (zq8 BK318.out) hb); have n6_ := Aside0.mk (blk_below (g := gb319) (o := .cells #[.bool false, .slice none 0 0] 33 (0, 0)) (zq8 BK319.out) hb); have n7_ := Aside0.mk (below_step zq38 hb); clear HO0_1; clear BK316; clear BK317; clear BK318; clear BK319; clear HB; have HO0_1 := n0_; have HO322 := n1_; have HO325 := n2_; have BK316 := n3_; have BK317 := n4_; have BK318 := n5_; have BK319 := n6_; have HB := n7_; clear n0_ n1_ n2_ n3_ n4_ n5_ n6_ n7_; (try clear hb); (try clear hb2); (try clear hk); (try clear hi); (try clear ho0); (try clear ho1)))
    (try simp only [Act.put, List.setIfInBounds_toArray, List.set_cons_zero, List.set_cons_succ])
    go_cut [33] (fun v33 wc => ∃ (kq : Nat) (x33_17 : Bool), v33 = .bool x33_17 ∧ Aside0 (wide_Div.j0 kq t320 t323 x33_17 a0_0 l0_1 a1_0 l1_1 = some (r1, r2, r3, r4, r5)) ∧ Aside0 (kq ≤ k) ∧ Aside0 (Kd.V (Kd.int .u32) 81 wc w.heap.size (fun k_ => (P0_1_ k_ ∨ w.heap.size ≤ k_) ∧ k_ ≠ gb316 ∧ k_ ≠ gb317 ∧ k_ ≠ gb318 ∧ k_ ≠ gb319) v321 t320) ∧ Aside0 (Kd.V (Kd.int .u32) 81 wc w.heap.size (fun k_ => (P0_1_ k_ ∨ w.heap.size ≤ k_) ∧ k_ ≠ gb316 ∧ k_ ≠ gb317 ∧ k_ ≠ gb318 ∧ k_ ≠ gb319) v324 t323) ∧ Aside0 (Kd.V (Kd.int .u32) 81 wc w.heap.size (fun k_ => (P0_1_ k_ ∨ w.heap.size ≤ k_) ∧ k_ ≠ gb316 ∧ k_ ≠ gb317 ∧ k_ ≠ gb318 ∧ k_ ≠ gb319) (.slice A0_1 l0_1.length c0_1) l0_1) ∧ Aside0 (wc.heap[gb316]? = some (.cells #[.bool a0_0, (.slice A0_1 l0_1.length c0_1)] 33 (0, 0))) ∧ Aside0 (wc.heap[gb317]? = some (.cells #[.bool a1_0, (.slice A1_1 l1_1.length c1_1)] 33 (0, 0))) ∧ Aside0 (wc.heap[gb318]? = some (.cells #[.bool false, (.slice none 0 0)] 33 (0, 0))) ∧ Aside0 (wc.heap[gb319]? = some (.cells #[.bool false, (.slice none 0 0)] 33 (0, 0))) ∧ Aside0 (Below w.heap.size w wc))
    case first =>
      have H := HC18.out
      clear HC18
      by_cases c31 : a0_0 = true
      · subst c31
        have H1 : (wide_Div.j0 k t320 t323 (decide (0 < t323.length)) true l0_1 a1_0 l1_1) = some (r1, r2, r3, r4, r5) := by rw [if_pos rfl] at H; exact H
        clear H
        have H := H1
        clear H1
        have H' := Aside0.mk H
        clear H
        have hnb32 := NB316_317.out
        have hnc32 := NB317_316.out
        have hnb33 := NB316_318.out
        have hnc33 := NB318_316.out
        have hnb34 := NB316_319.out
        have hnc34 := NB319_316.out
        have hcz35_0 : w30.cell? ⟨gb316, 0, none⟩ = some (.bool true) := (blk_cell BK316.out 0).trans rfl
        have hcz35_1 : w30.cell? ⟨gb316, 1, none⟩ = some (.slice A0_1 l0_1.length c0_1) := (blk_cell BK316.out 1).trans rfl
        have hfz35_0 := blk_frozen BK316.out 0
        have hfz35_1 := blk_frozen BK316.out 1
        obtain ⟨Ao36, co36, eo36⟩ := Kd.V_slice HO325.out
        subst eo36
        go_wp2
        go_meet
        case rel => exact ⟨_, (decide (0 < t323.length)), zq4, H', ⟨by first | omega | exact Nat.le_refl _⟩, ⟨by (with_reducible repeat (first | apply Kd.V_alloc | apply Kd.V_drewN | apply Kd.V_drew)); exact HO322.out⟩, ⟨by (with_reducible repeat (first | apply Kd.V_alloc | apply Kd.V_drewN | apply Kd.V_drew)); exact HO325.out⟩, ⟨by (with_reducible repeat (first | apply Kd.V_alloc | apply Kd.V_drewN | apply Kd.V_drew)); exact Kd.V_mono HO0_1.out (fun _ hk => ⟨hk.1.1.1.1, ⟨hk.1.1.1.2, ⟨hk.1.1.2, ⟨hk.1.2, hk.2⟩⟩⟩⟩)⟩, ⟨by (with_reducible repeat (first | refine blk_drewN ?_ _ | refine blk_drew ?_ | refine blk_alloc ?_ _)); exact BK316.out⟩, ⟨by (with_reducible repeat (first | refine blk_drewN ?_ _ | refine blk_drew ?_ | refine blk_alloc ?_ _)); exact BK317.out⟩, ⟨by (with_reducible repeat (first | refine blk_drewN ?_ _ | refine blk_drew ?_ | refine blk_alloc ?_ _)); exact BK318.out⟩, ⟨by (with_reducible repeat (first | refine blk_drewN ?_ _ | refine blk_drew ?_ | refine blk_alloc ?_ _)); exact BK319.out⟩, ⟨by repeat (first | (with_reducible first | exact HB.out | apply below_alloc | apply pw_below_drewN | apply below_drew1 | refine below_set ?_ GE316.out | refine below_set ?_ GE317.out | refine below_set ?_ GE318.out | refine below_set ?_ GE319.out) | exact HB.out)⟩⟩
      · replace c31 := Bool.eq_false_iff.mpr c31
        subst c31
        have H1 : (wide_Div.j0 k t320 t323 false false l0_1 a1_0 l1_1) = some (r1, r2, r3, r4, r5) := by rw [if_neg (show ¬ (false = true) by decide)] at H; exact H
        clear H
        have H := H1
        clear H1
        have H' := Aside0.mk H
        clear H
        have hnb37 := NB316_317.out
        have hnc37 := NB317_316.out
        have hnb38 := NB316_318.out
        have hnc38 := NB318_316.out
        have hnb39 := NB316_319.out
        have hnc39 := NB319_316.out
        have hcz40_0 : w30.cell? ⟨gb316, 0, none⟩ = some (.bool false) := (blk_cell BK316.out 0).trans rfl
        have hcz40_1 : w30.cell? ⟨gb316, 1, none⟩ = some (.slice A0_1 l0_1.length c0_1) := (blk_cell BK316.out 1).trans rfl
        have hfz40_0 := blk_frozen BK316.out 0
        have hfz40_1 := blk_frozen BK316.out 1
        go_wp2
        go_meet
        case rel => exact ⟨_, (false), zq4, H', ⟨by first | omega | exact Nat.le_refl _⟩, ⟨by (with_reducible repeat (first | apply Kd.V_alloc | apply Kd.V_drewN | apply Kd.V_drew)); exact HO322.out⟩, ⟨by (with_reducible repeat (first | apply Kd.V_alloc | apply Kd.V_drewN | apply Kd.V_drew)); exact HO325.out⟩, ⟨by (with_reducible repeat (first | apply Kd.V_alloc | apply Kd.V_drewN | apply Kd.V_drew)); exact Kd.V_mono HO0_1.out (fun _ hk => ⟨hk.1.1.1.1, ⟨hk.1.1.1.2, ⟨hk.1.1.2, ⟨hk.1.2, hk.2⟩⟩⟩⟩)⟩, ⟨by (with_reducible repeat (first | refine blk_drewN ?_ _ | refine blk_drew ?_ | refine blk_alloc ?_ _)); exact BK316.out⟩, ⟨by (with_reducible repeat (first | refine blk_drewN ?_ _ | refine blk_drew ?_ | refine blk_alloc ?_ _)); exact BK317.out⟩, ⟨by (with_reducible repeat (first | refine blk_drewN ?_ _ | refine blk_drew ?_ | refine blk_alloc ?_ _)); exact BK318.out⟩, ⟨by (with_reducible repeat (first | refine blk_drewN ?_ _ | refine blk_drew ?_ | refine blk_alloc ?_ _)); exact BK319.out⟩, ⟨by repeat (first | (with_reducible first | exact HB.out | apply below_alloc | apply pw_below_drewN | apply below_drew1 | refine below_set ?_ GE316.out | refine below_set ?_ GE317.out | refine below_set ?_ GE318.out | refine below_set ?_ GE319.out) | exact HB.out)⟩⟩
    case rest =>
      clear HC18
      try clear c1
      try clear c2
      try clear p2
      try clear c3
      try clear c3b0
      try clear c3b1
      try clear c3b2
      try clear c6
      try clear c8
      try clear c9
      try clear c10
      try clear c12
      try clear c13
      try clear c15
      try clear c23
      try clear c24
      try clear c25
      try clear c27
      try clear c28
      try clear c30
      try clear c31
      try clear c32
      try clear c33
      try clear c34
      try clear c37
      try clear c38
      try clear c39
      try clear hcz11_0
      try clear hcz11_1
      try clear hcz14_0
      try clear hcz14_1
      try clear hcz16_0
      try clear hcz16_1
      try clear hcz26_0
      try clear hcz26_1
      try clear hcz29_0
      try clear hcz29_1
      try clear hcz35_0
      try clear hcz35_1
      try clear hcz40_0
      try clear hcz40_1
      try clear hfz11_0
      try clear hfz11_1
      try clear hfz14_0
      try clear hfz14_1
      try clear hfz16_0
      try clear hfz16_1
      try clear hfz26_0
      try clear hfz26_1
      try clear hfz29_0
      try clear hfz29_1
      try clear hfz35_0
      try clear hfz35_1
      try clear hfz40_0
      try clear hfz40_1
      obtain ⟨kq, x33_17, rfl, HA, HJ17, HO_7, HO_8, HO_317001, BK316, BK317, BK318, BK319, HB⟩ := hcut
      cases kq with
      | zero => exact absurd HA.out (by simp [wide_Div.j0])
      | succ kj17 =>
        have H := HA.out
        clear HA
        simp only [wide_Div.j0] at H
        by_cases c41 : x33_17 = true
        · subst c41
          have H1 : ((wide_sum.f t320 (([1] : List Int))).bind fun t329 => ((wide_difference.f l1_1 t323).bind fun t332 => ((wide_signed.f kj17 (!(a0_0 == a1_0)) t329).bind fun bt335 => ((wide_signed.f kj17 false t332).bind fun bt341 => (some (bt335.1, bt335.2.1, bt341.1, bt341.2.1, 0)))))) = some (r1, r2, r3, r4, r5) := by rw [if_pos rfl] at H; exact H
          clear H
          have H := H1
          clear H1
          obtain ⟨y326, hy326⟩ : ∃ y_ : List Int, y_ = (([1] : List Int)) := ⟨_, rfl⟩
          replace H : ((wide_sum.f t320 y326).bind fun t329 => ((wide_difference.f l1_1 t323).bind fun t332 => ((wide_signed.f kj17 (!(a0_0 == a1_0)) t329).bind fun bt335 => ((wide_signed.f kj17 false t332).bind fun bt341 => (some (bt335.1, bt335.2.1, bt341.1, bt341.2.1, 0)))))) = some (r1, r2, r3, r4, r5) := by first | (rw [hy326]; with_reducible exact H) | (have H2_ := (Option.bind_some _ _).symm.trans H; rw [hy326]; with_reducible exact H2_) | (have H2_ := (Option.bind_some _ _).symm.trans H; with_reducible exact H2_) | with_reducible exact H | (rw [hy326]; exact H) | exact H
          have Ny326 := Aside0.mk hy326
          clear hy326
          replace H := Option.bind_eq_some_iff.mp H
          obtain ⟨t329, A420, H⟩ := H
          replace H : ((wide_difference.f l1_1 t323).bind fun t332 => ((wide_signed.f kj17 (!(a0_0 == a1_0)) t329).bind fun bt335 => ((wide_signed.f kj17 false t332).bind fun bt341 => (some (bt335.1, bt335.2.1, bt341.1, bt341.2.1, 0))))) = some (r1, r2, r3, r4, r5) := H
          have A42 := Aside0.mk A420
          clear A420
          replace H := Option.bind_eq_some_iff.mp H
          obtain ⟨t332, A430, H⟩ := H
          replace H : ((wide_signed.f kj17 (!(a0_0 == a1_0)) t329).bind fun bt335 => ((wide_signed.f kj17 false t332).bind fun bt341 => (some (bt335.1, bt335.2.1, bt341.1, bt341.2.1, 0)))) = some (r1, r2, r3, r4, r5) := H
          have A43 := Aside0.mk A430
          clear A430
          replace H := Option.bind_eq_some_iff.mp H
          obtain ⟨⟨t335, t336, t339⟩, A440, H⟩ := H
          replace H : ((wide_signed.f kj17 false t332).bind fun bt341 => (some (t335, t336, bt341.1, bt341.2.1, 0))) = some (r1, r2, r3, r4, r5) := H
          have A44 := Aside0.mk A440
          clear A440
          replace H := Option.bind_eq_some_iff.mp H
          obtain ⟨⟨t341, t342, t345⟩, A450, H⟩ := H
          replace H : (some (t335, t336, t341, t342, 0)) = some (r1, r2, r3, r4, r5) := H
          have A45 := Aside0.mk A450
          clear A450
          simp only [Option.some.injEq, Prod.mk.injEq] at H
          obtain ⟨rfl, rfl, rfl, rfl, rfl⟩ := H
          try go_wp2_with (first | ((with_reducible refine gate_dst (N := 35) rfl ?_); (try (refine gate_guard (by rfl) ?_; dsimp only)); refine Kd.R_lit (Kd.int .u32) _ 81 ?hg (N := 35) ?hd (xs := ([1] : List Int)) (inner := [.int .u32 1]) (ok := fun _ => True) (okp := fun _ => True) ?hr ?hp (fun _ hk => hk) trivial (Below.refl _ _) (Nat.le_refl _) (by simp) ?_; (case hd => rfl); (case hg => rfl); (case hr => first | (go_simp; done) | (go_simp; rfl)); (case hp => exact (Reps.one (show Kd.M (Kd.int .u32) _ _ _ 1 [.int .u32 1] from rfl) (Reps.none _ _))); intro v327 w46 ho47 hb hg_ hnew_; clear hg_ hnew_; (first | rw [← Ny326.out] at ho47 | (simp only [Int.reduceToNat] at ho47; rw [← Ny326.out] at ho47)); have n0_ := Aside0.mk (Kd.V_elder' (zq0 HO_7.out) (Kd.R_base ho47) hb); have n1_ := Aside0.mk (Kd.V_elder' (zq0 HO_8.out) (Kd.R_base ho47) hb); have n2_ := Aside0.mk (Kd.V_elder' (zq0 HO_317001.out) (Kd.R_base ho47) hb); have n3_ := Aside0.mk (Kd.R_lower (Kd.R_newM (M := fun k_ => (w.heap.size ≤ k_)) ho47 (below_size zq38) (fun k_ h_ => h_)) (below_size zq38)); have n4_ := Aside0.mk (blk_below (g := gb316) (o := .cells #[.bool a0_0, .slice A0_1 l0_1.length c0_1] 33 (0, 0)) (zq8 BK316.out) hb); have n5_ := Aside0.mk (blk_below (g := gb317) (o := .cells #[.bool a1_0, .slice A1_1 l1_1.length c1_1] 33 (0, 0)) (zq8 BK317.out) hb); have n6_ := Aside0.mk (blk_below (g := gb318) (o := .cells #[.bool false, .slice none 0 0] 33 (0, 0)) (zq8 BK318.out) hb); have n7_ := Aside0.mk (blk_below (g := gb319) (o := .cells #[.bool false, .slice none 0 0] 33 (0, 0)) (zq8 BK319.out) hb); have n8_ := Aside0.mk (below_step zq38 hb); clear HO_7; clear HO_8; clear HO_317001; clear BK316; clear BK317; clear BK318; clear BK319; clear HB; have HO_7 := n0_; have HO_8 := n1_; have HO_317001 := n2_; have HO328 := n3_; have BK316 := n4_; have BK317 := n5_; have BK318 := n6_; have BK319 := n7_; have HB := n8_; clear n0_ n1_ n2_ n3_ n4_ n5_ n6_ n7_ n8_; clear hb ho47; obtain ⟨Ao48, co48, eo48⟩ := Kd.V_slice HO_7.out; subst eo48; obtain ⟨Ao49, co49, eo49⟩ := Kd.R_slice HO328.out; subst eo49) | ((with_reducible refine gate_callee (f := 51) rfl ?_); refine goesL_ (some 36) rfl rfl Tryz.func51 (by kernel_rfl) rfl #[.slice Ao48 t320.length co48, .slice Ao49 y326.length co49] rfl zq5 ?_; (with_reducible refine (wide_sum.calls _ _ t320 _ _ y326 t329 _ ?side1 ?side2 ?side3 ?side4 A42.out).mono ?_); (case side1 => repeat (first | exact (Kd.V_reads' HO_7.out).2.2 | (with_reducible refine Kd.C_alloc ?_ _) | (with_reducible refine Kd.C_drewN ?_ _) | (with_reducible refine Kd.C_drew ?_))); (case side2 => exact (Kd.V_reads' HO_7.out).2.1); (case side3 => repeat (first | exact (Kd.R_reads' HO328.out).2.2 | (with_reducible refine Kd.C_alloc ?_ _) | (with_reducible refine Kd.C_drewN ?_ _) | (with_reducible refine Kd.C_drew ?_))); (case side4 => exact (Kd.R_reads' HO328.out).2.1); rintro e w50 ⟨v330, rfl, ho0, hb⟩; refine ⟨_, rfl, ?_⟩; have n0_ := Aside0.mk (Kd.V_elder' (zq0 HO_7.out) (Kd.R_base ho0) hb); have n1_ := Aside0.mk (Kd.V_elder' (zq0 HO_8.out) (Kd.R_base ho0) hb); have n2_ := Aside0.mk (Kd.V_elder' (zq0 HO_317001.out) (Kd.R_base ho0) hb); have n3_ := Aside0.mk (Kd.R_elder' (zq6 HO328.out) (Kd.R_base ho0) hb); have n4_ := Aside0.mk (Kd.R_lower (Kd.R_new' (Kd.R_newM (M := fun k_ => (w.heap.size ≤ k_)) ho0 (below_size zq38) (fun k_ h_ => h_)) (Kd.R_lt (zq6 HO328.out))) (below_size zq38)); have n5_ := Aside0.mk (blk_below (g := gb316) (o := .cells #[.bool a0_0, .slice A0_1 l0_1.length c0_1] 33 (0, 0)) (zq8 BK316.out) hb); have n6_ := Aside0.mk (blk_below (g := gb317) (o := .cells #[.bool a1_0, .slice A1_1 l1_1.length c1_1] 33 (0, 0)) (zq8 BK317.out) hb); have n7_ := Aside0.mk (blk_below (g := gb318) (o := .cells #[.bool false, .slice none 0 0] 33 (0, 0)) (zq8 BK318.out) hb); have n8_ := Aside0.mk (blk_below (g := gb319) (o := .cells #[.bool false, .slice none 0 0] 33 (0, 0)) (zq8 BK319.out) hb); have n9_ := Aside0.mk (below_step zq38 hb); clear HO_7; clear HO_8; clear HO_317001; clear HO328; clear BK316; clear BK317; clear BK318; clear BK319; clear HB; have HO_7 := n0_; have HO_8 := n1_; have HO_317001 := n2_; have HO328 := n3_; have HO331 := n4_; have BK316 := n5_; have BK317 := n6_; have BK318 := n7_; have BK319 := n8_; have HB := n9_; clear n0_ n1_ n2_ n3_ n4_ n5_ n6_ n7_ n8_ n9_; (try clear hb); (try clear hb2); (try clear hk); (try clear hi); (try clear ho0); have hnb51 := NB317_316.out; have hnc51 := NB316_317.out; have hnb52 := NB317_318.out; have hnc52 := NB318_317.out; have hnb53 := NB317_319.out; have hnc53 := NB319_317.out; have hcz54_0 : w50.cell? ⟨gb317, 0, none⟩ = some (.bool a1_0) := (blk_cell BK317.out 0).trans rfl; have hcz54_1 : w50.cell? ⟨gb317, 1, none⟩ = some (.slice A1_1 l1_1.length c1_1) := (blk_cell BK317.out 1).trans rfl; have hfz54_0 := blk_frozen BK317.out 0; have hfz54_1 := blk_frozen BK317.out 1; obtain ⟨Ao55, co55, eo55⟩ := Kd.V_slice HO_8.out; subst eo55) | ((with_reducible refine gate_callee (f := 65) rfl ?_); refine goesL_ (some 40) rfl rfl Tryz.func65 (by kernel_rfl) rfl #[.slice A1_1 l1_1.length c1_1, .slice Ao55 t323.length co55] rfl zq5 ?_; (with_reducible refine (wide_difference.calls _ _ l1_1 _ _ t323 t332 _ ?side1 ?side2 ?side3 ?side4 A43.out).mono ?_); (case side1 => repeat (first | exact (Kd.C_below HR1_1.out HB.out) | (with_reducible refine Kd.C_alloc ?_ _) | (with_reducible refine Kd.C_drewN ?_ _) | (with_reducible refine Kd.C_drew ?_))); (case side2 => exact HC1_1.out); (case side3 => repeat (first | exact (Kd.V_reads' HO_8.out).2.2 | (with_reducible refine Kd.C_alloc ?_ _) | (with_reducible refine Kd.C_drewN ?_ _) | (with_reducible refine Kd.C_drew ?_))); (case side4 => exact (Kd.V_reads' HO_8.out).2.1); rintro e w56 ⟨v333, rfl, ho0, hb⟩; refine ⟨_, rfl, ?_⟩; have n0_ := Aside0.mk (Kd.V_elder' (zq0 HO_7.out) (Kd.R_base ho0) hb); have n1_ := Aside0.mk (Kd.V_elder' (zq0 HO_8.out) (Kd.R_base ho0) hb); have n2_ := Aside0.mk (Kd.V_elder' (zq0 HO_317001.out) (Kd.R_base ho0) hb); have n3_ := Aside0.mk (Kd.R_elder' (zq6 HO328.out) (Kd.R_base ho0) hb); have n4_ := Aside0.mk (Kd.R_elder' (zq6 HO331.out) (Kd.R_base ho0) hb); have n5_ := Aside0.mk (Kd.R_lower (Kd.R_new' (Kd.R_new' (Kd.R_newM (M := fun k_ => (w.heap.size ≤ k_)) ho0 (below_size zq38) (fun k_ h_ => h_)) (Kd.R_lt (zq6 HO328.out))) (Kd.R_lt (zq6 HO331.out))) (below_size zq38)); have n6_ := Aside0.mk (blk_below (g := gb316) (o := .cells #[.bool a0_0, .slice A0_1 l0_1.length c0_1] 33 (0, 0)) (zq8 BK316.out) hb); have n7_ := Aside0.mk (blk_below (g := gb317) (o := .cells #[.bool a1_0, .slice A1_1 l1_1.length c1_1] 33 (0, 0)) (zq8 BK317.out) hb); have n8_ := Aside0.mk (blk_below (g := gb318) (o := .cells #[.bool false, .slice none 0 0] 33 (0, 0)) (zq8 BK318.out) hb); have n9_ := Aside0.mk (blk_below (g := gb319) (o := .cells #[.bool false, .slice none 0 0] 33 (0, 0)) (zq8 BK319.out) hb); have n10_ := Aside0.mk (below_step zq38 hb); clear HO_7; clear HO_8; clear HO_317001; clear HO328; clear HO331; clear BK316; clear BK317; clear BK318; clear BK319; clear HB; have HO_7 := n0_; have HO_8 := n1_; have HO_317001 := n2_; have HO328 := n3_; have HO331 := n4_; have HO334 := n5_; have BK316 := n6_; have BK317 := n7_; have BK318 := n8_; have BK319 := n9_; have HB := n10_; clear n0_ n1_ n2_ n3_ n4_ n5_ n6_ n7_ n8_ n9_ n10_; (try clear hb); (try clear hb2); (try clear hk); (try clear hi); (try clear ho0); have hnb57 := NB316_318.out; have hnc57 := NB318_316.out; have hnb58 := NB316_319.out; have hnc58 := NB319_316.out; have hcz59_0 : w56.cell? ⟨gb316, 0, none⟩ = some (.bool a0_0) := (blk_cell BK316.out 0).trans rfl; have hcz59_1 : w56.cell? ⟨gb316, 1, none⟩ = some (.slice A0_1 l0_1.length c0_1) := (blk_cell BK316.out 1).trans rfl; have hfz59_0 := blk_frozen BK316.out 0; have hfz59_1 := blk_frozen BK316.out 1; have hcz60_0 : w56.cell? ⟨gb317, 0, none⟩ = some (.bool a1_0) := (blk_cell BK317.out 0).trans rfl; have hcz60_1 : w56.cell? ⟨gb317, 1, none⟩ = some (.slice A1_1 l1_1.length c1_1) := (blk_cell BK317.out 1).trans rfl; have hfz60_0 := blk_frozen BK317.out 0; have hfz60_1 := blk_frozen BK317.out 1; obtain ⟨Ao61, co61, eo61⟩ := Kd.R_slice HO331.out; subst eo61) | ((with_reducible refine gate_callee (f := 53) rfl ?_); refine goesL_ (some 48) rfl rfl Tryz.func53 (by kernel_rfl) rfl #[.bool (!(a0_0 == a1_0)), .slice Ao61 t329.length co61] rfl zq5 ?_; (with_reducible refine (wide_signed.calls kj17 (!(a0_0 == a1_0)) (fun k_ => some k_ = (.slice Ao61 t329.length co61 : Value).ownBlock) _ _ t329 t335 t336 t339 _ ?side1 A44.out).mono ?_); (case side1 => exact Kd.R_V (Kd.R_tight rfl (Kd.R_types (Kd.R_types (Kd.R_types (Kd.R_types (HO331.out) BK316.out (by decide)) BK317.out (by decide)) BK318.out (by decide)) BK319.out (by decide)))); rintro e w62 ⟨v337, rfl, ho0, hb⟩; refine ⟨_, rfl, ?_⟩; have n0_ := Aside0.mk (Kd.V_below (zq0 HO_7.out) hb); have n1_ := Aside0.mk (Kd.V_below (zq0 HO_8.out) hb); have n2_ := Aside0.mk (Kd.V_below (zq0 HO_317001.out) hb); have n3_ := Aside0.mk (Kd.R_below (zq6 HO328.out) hb); have n4_ := Aside0.mk (Kd.R_below (zq6 HO331.out) hb); have n5_ := Aside0.mk (Kd.R_below (zq6 HO334.out) hb); have n6_ := Aside0.mk (Kd.V_lower (Kd.V_mono (ok' := fun k_ => (P0_1_ k_ ∨ w.heap.size ≤ k_) ∧ some k_ ≠ (.slice Ao49 y326.length co49 : Value).ownBlock ∧ some k_ ≠ (v333 : Value).ownBlock ∧ k_ ≠ gb316 ∧ k_ ≠ gb317 ∧ k_ ≠ gb318 ∧ k_ ≠ gb319) ho0 (fun k_ hk_ => ⟨Or.elim hk_ (fun hs_ => (.inr (((Kd.R_types (Kd.R_types (Kd.R_types (Kd.R_types (HO331.out) BK316.out (by decide)) BK317.out (by decide)) BK318.out (by decide)) BK319.out (by decide)).1 k_ hs_.symm).1.1.1.1.1.1.1))) (fun hn_ => (.inr (Nat.le_trans (below_size zq38) hn_))), Or.elim hk_ (fun hs_ => ((Kd.R_types (Kd.R_types (Kd.R_types (Kd.R_types (HO331.out) BK316.out (by decide)) BK317.out (by decide)) BK318.out (by decide)) BK319.out (by decide)).1 k_ hs_.symm).1.1.1.1.1.2) (fun hn_ => (Kd.fresh' (Kd.R_lt (zq6 HO328.out)) k_ hn_)), Or.elim hk_ (fun hs_ => ((Kd.R_types (Kd.R_types (Kd.R_types (Kd.R_types (HO331.out) BK316.out (by decide)) BK317.out (by decide)) BK318.out (by decide)) BK319.out (by decide)).1 k_ hs_.symm).1.1.1.1.2) (fun hn_ => (Kd.fresh' (Kd.R_lt (zq6 HO334.out)) k_ hn_)), Or.elim hk_ (fun hs_ => ((Kd.R_types (Kd.R_types (Kd.R_types (Kd.R_types (HO331.out) BK316.out (by decide)) BK317.out (by decide)) BK318.out (by decide)) BK319.out (by decide)).1 k_ hs_.symm).1.1.1.2) (fun hn_ => (Kd.freshB (g := gb316) (o := .cells #[.bool a0_0, .slice A0_1 l0_1.length c0_1] 33 (0, 0)) (zq8 BK316.out) k_ hn_)), Or.elim hk_ (fun hs_ => ((Kd.R_types (Kd.R_types (Kd.R_types (Kd.R_types (HO331.out) BK316.out (by decide)) BK317.out (by decide)) BK318.out (by decide)) BK319.out (by decide)).1 k_ hs_.symm).1.1.2) (fun hn_ => (Kd.freshB (g := gb317) (o := .cells #[.bool a1_0, .slice A1_1 l1_1.length c1_1] 33 (0, 0)) (zq8 BK317.out) k_ hn_)), Or.elim hk_ (fun hs_ => ((Kd.R_types (Kd.R_types (Kd.R_types (Kd.R_types (HO331.out) BK316.out (by decide)) BK317.out (by decide)) BK318.out (by decide)) BK319.out (by decide)).1 k_ hs_.symm).1.2) (fun hn_ => (Kd.freshB (g := gb318) (o := .cells #[.bool false, .slice none 0 0] 33 (0, 0)) (zq8 BK318.out) k_ hn_)), Or.elim hk_ (fun hs_ => ((Kd.R_types (Kd.R_types (Kd.R_types (Kd.R_types (HO331.out) BK316.out (by decide)) BK317.out (by decide)) BK318.out (by decide)) BK319.out (by decide)).1 k_ hs_.symm).2) (fun hn_ => (Kd.freshB (g := gb319) (o := .cells #[.bool false, .slice none 0 0] 33 (0, 0)) (zq8 BK319.out) k_ hn_))⟩)) (below_size zq38)); have n7_ := Aside0.mk (blk_below (g := gb316) (o := .cells #[.bool a0_0, .slice A0_1 l0_1.length c0_1] 33 (0, 0)) (zq8 BK316.out) hb); have n8_ := Aside0.mk (blk_below (g := gb317) (o := .cells #[.bool a1_0, .slice A1_1 l1_1.length c1_1] 33 (0, 0)) (zq8 BK317.out) hb); have n9_ := Aside0.mk (blk_below (g := gb318) (o := .cells #[.bool false, .slice none 0 0] 33 (0, 0)) (zq8 BK318.out) hb); have n10_ := Aside0.mk (blk_below (g := gb319) (o := .cells #[.bool false, .slice none 0 0] 33 (0, 0)) (zq8 BK319.out) hb); have n11_ := Aside0.mk (below_step zq38 hb); clear HO_7; clear HO_8; clear HO_317001; clear HO328; clear HO331; clear HO334; clear BK316; clear BK317; clear BK318; clear BK319; clear HB; have HO_7 := n0_; have HO_8 := n1_; have HO_317001 := n2_; have HO328 := n3_; have HO331 := n4_; have HO334 := n5_; have HO338 := n6_; have BK316 := n7_; have BK317 := n8_; have BK318 := n9_; have BK319 := n10_; have HB := n11_; clear n0_ n1_ n2_ n3_ n4_ n5_ n6_ n7_ n8_ n9_ n10_ n11_; (try clear hb); (try clear hb2); (try clear hk); (try clear hi); (try clear ho0)) | ((with_reducible refine gate_dst (N := 9) rfl ?_); (try (refine gate_guard (by rfl) ?_; dsimp only)); refine box_event ?hg (N := 9) ?hd (cs := #[.bool false, .slice none 0 0]) (t := 33) ?hr ?_; (case hd => rfl); (case hg => rfl); (case hr => first | (go_simp; done) | (go_simp; rfl)); intro gb340 hg w63 hbox hb; have n0_ := Aside0.mk (Kd.V_below (Kd.V_elderB (zq0 HO_7.out) gb340 (Nat.le_of_eq hg.symm)) hb); have n1_ := Aside0.mk (Kd.V_below (Kd.V_elderB (zq0 HO_8.out) gb340 (Nat.le_of_eq hg.symm)) hb); have n2_ := Aside0.mk (Kd.V_below (Kd.V_elderB (zq0 HO_317001.out) gb340 (Nat.le_of_eq hg.symm)) hb); have n3_ := Aside0.mk (Kd.R_below (zq6 HO328.out) hb); have n4_ := Aside0.mk (Kd.R_below (zq6 HO331.out) hb); have n5_ := Aside0.mk (Kd.R_below (zq6 HO334.out) hb); have n6_ := Aside0.mk (Kd.V_below (Kd.V_elderB (zq0 HO338.out) gb340 (Nat.le_of_eq hg.symm)) hb); have n7_ := Aside0.mk (blk_below (g := gb316) (o := .cells #[.bool a0_0, .slice A0_1 l0_1.length c0_1] 33 (0, 0)) (zq8 BK316.out) hb); have n8_ := Aside0.mk (blk_below (g := gb317) (o := .cells #[.bool a1_0, .slice A1_1 l1_1.length c1_1] 33 (0, 0)) (zq8 BK317.out) hb); have n9_ := Aside0.mk (blk_below (g := gb318) (o := .cells #[.bool false, .slice none 0 0] 33 (0, 0)) (zq8 BK318.out) hb); have n10_ := Aside0.mk (blk_below (g := gb319) (o := .cells #[.bool false, .slice none 0 0] 33 (0, 0)) (zq8 BK319.out) hb); have n11_ := Aside0.mk (below_step zq38 hb); have n12_ := Aside0.mk (hbox); have n13_ := Aside0.mk ((by rw [hg]; exact (below_size zq38) : w.heap.size ≤ gb340)); have n14_ := Aside0.mk ((by rw [hg]; exact (below_size zq38) : w.heap.size ≤ gb340)); have n15_ := Aside0.mk ((by rw [hg]; exact Nat.ne_of_lt (blk_lt (g := gb316) (o := .cells #[.bool a0_0, .slice A0_1 l0_1.length c0_1] 33 (0, 0)) (zq8 BK316.out)) : gb316 ≠ gb340)); have n16_ := Aside0.mk ((by rw [hg]; exact Nat.ne_of_gt (blk_lt (g := gb316) (o := .cells #[.bool a0_0, .slice A0_1 l0_1.length c0_1] 33 (0, 0)) (zq8 BK316.out)) : gb340 ≠ gb316)); have n17_ := Aside0.mk ((by rw [hg]; exact Nat.ne_of_lt (blk_lt (g := gb317) (o := .cells #[.bool a1_0, .slice A1_1 l1_1.length c1_1] 33 (0, 0)) (zq8 BK317.out)) : gb317 ≠ gb340)); have n18_ := Aside0.mk ((by rw [hg]; exact Nat.ne_of_gt (blk_lt (g := gb317) (o := .cells #[.bool a1_0, .slice A1_1 l1_1.length c1_1] 33 (0, 0)) (zq8 BK317.out)) : gb340 ≠ gb317)); have n19_ := Aside0.mk ((by rw [hg]; exact Nat.ne_of_lt (blk_lt (g := gb318) (o := .cells #[.bool false, .slice none 0 0] 33 (0, 0)) (zq8 BK318.out)) : gb318 ≠ gb340)); have n20_ := Aside0.mk ((by rw [hg]; exact Nat.ne_of_gt (blk_lt (g := gb318) (o := .cells #[.bool false, .slice none 0 0] 33 (0, 0)) (zq8 BK318.out)) : gb340 ≠ gb318)); have n21_ := Aside0.mk ((by rw [hg]; exact Nat.ne_of_lt (blk_lt (g := gb319) (o := .cells #[.bool false, .slice none 0 0] 33 (0, 0)) (zq8 BK319.out)) : gb319 ≠ gb340)); have n22_ := Aside0.mk ((by rw [hg]; exact Nat.ne_of_gt (blk_lt (g := gb319) (o := .cells #[.bool false, .slice none 0 0] 33 (0, 0)) (zq8 BK319.out)) : gb340 ≠ gb319)); clear HO_7; clear HO_8; clear HO_317001; clear HO328; clear HO331; clear HO334; clear HO338; clear BK316; clear BK317; clear BK318; clear BK319; clear HB; have HO_7 := n0_; have HO_8 := n1_; have HO_317001 := n2_; have HO328 := n3_; have HO331 := n4_; have HO334 := n5_; have HO338 := n6_; have BK316 := n7_; have BK317 := n8_; have BK318 := n9_; have BK319 := n10_; have HB := n11_; have BK340 := n12_; have GW340 := n13_; have GE340 := n14_; have NB316_340 := n15_; have NB340_316 := n16_; have NB317_340 := n17_; have NB340_317 := n18_; have NB318_340 := n19_; have NB340_318 := n20_; have NB319_340 := n21_; have NB340_319 := n22_; clear n0_ n1_ n2_ n3_ n4_ n5_ n6_ n7_ n8_ n9_ n10_ n11_ n12_ n13_ n14_ n15_ n16_ n17_ n18_ n19_ n20_ n21_ n22_; clear hb hbox hg; have hnb64 := NB340_316.out; have hnc64 := NB316_340.out; have hnb65 := NB340_317.out; have hnc65 := NB317_340.out; have hnb66 := NB340_318.out; have hnc66 := NB318_340.out; have hnb67 := NB340_319.out; have hnc67 := NB319_340.out; have hcz68_0 : w63.cell? ⟨gb340, 0, none⟩ = some (.bool false) := (blk_cell BK340.out 0).trans rfl; have hcz68_1 : w63.cell? ⟨gb340, 1, none⟩ = some (.slice none 0 0) := (blk_cell BK340.out 1).trans rfl; have hfz68_0 := blk_frozen BK340.out 0; have hfz68_1 := blk_frozen BK340.out 1; obtain ⟨Ao69, co69, eo69⟩ := Kd.V_slice HO338.out; subst eo69) | ((with_reducible refine gate_store (t := 33) (p := 9) rfl ?_); refine store_event (t := 33) (p := 9) (v := ?vo_w70) (w1 := ((w63.setCell ⟨gb340, 0, none⟩ (.bool t335)).setCell ⟨gb340, 1, none⟩ (.slice Ao69 t336.length co69))) ?hg ?ho ?hn ?hr ?_; (case ho => rfl); (case hg => rfl); (case hn => rfl); (case hr => first | (go_simp; done) | (go_simp; rfl)); intro w70 hw; have n0_ : Aside0 (Kd.V (Kd.int .u32) 81 w70 w.heap.size (fun k_ => (P0_1_ k_ ∨ w.heap.size ≤ k_) ∧ some k_ ≠ (.slice Ao49 y326.length co49 : Value).ownBlock ∧ some k_ ≠ (.slice Ao61 t329.length co61 : Value).ownBlock ∧ some k_ ≠ (v333 : Value).ownBlock ∧ k_ ≠ gb316 ∧ k_ ≠ gb317 ∧ k_ ≠ gb318 ∧ k_ ≠ gb319 ∧ k_ ≠ gb340) (.slice Ao48 t320.length co48) t320) := ⟨(zq39 HO_7.out)⟩; have n1_ : Aside0 (Kd.V (Kd.int .u32) 81 w70 w.heap.size (fun k_ => (P0_1_ k_ ∨ w.heap.size ≤ k_) ∧ some k_ ≠ (.slice Ao49 y326.length co49 : Value).ownBlock ∧ some k_ ≠ (.slice Ao61 t329.length co61 : Value).ownBlock ∧ some k_ ≠ (v333 : Value).ownBlock ∧ k_ ≠ gb316 ∧ k_ ≠ gb317 ∧ k_ ≠ gb318 ∧ k_ ≠ gb319 ∧ k_ ≠ gb340) (.slice Ao55 t323.length co55) t323) := ⟨(zq39 HO_8.out)⟩; have n2_ : Aside0 (Kd.V (Kd.int .u32) 81 w70 w.heap.size (fun k_ => (P0_1_ k_ ∨ w.heap.size ≤ k_) ∧ some k_ ≠ (.slice Ao49 y326.length co49 : Value).ownBlock ∧ some k_ ≠ (.slice Ao61 t329.length co61 : Value).ownBlock ∧ some k_ ≠ (v333 : Value).ownBlock ∧ k_ ≠ gb316 ∧ k_ ≠ gb317 ∧ k_ ≠ gb318 ∧ k_ ≠ gb319 ∧ k_ ≠ gb340) (.slice A0_1 l0_1.length c0_1) l0_1) := ⟨(zq39 HO_317001.out)⟩; have n3_ : Aside0 (Kd.R (Kd.int .u32) 81 w70 w.heap.size (fun k_ => (w.heap.size ≤ k_) ∧ some k_ ≠ (.slice Ao61 t329.length co61 : Value).ownBlock ∧ some k_ ≠ (v333 : Value).ownBlock) (.slice Ao49 y326.length co49) y326) := ⟨(by rw [hw]; exact (by (with_reducible repeat (first | apply Kd.R_alloc | apply Kd.R_drewN | apply Kd.R_drew)); exact Kd.R_mono (Kd.R_far (p := ⟨gb340, 1, none⟩) (Kd.R_far (p := ⟨gb340, 0, none⟩) (Kd.R_types HO328.out BK340.out (by decide)) (fun _ hk => hk.2) (.bool t335)) (fun _ hk => hk.2) (.slice Ao69 t336.length co69)) (fun _ hk => ⟨hk.1.1.1.1, ⟨hk.1.1.2, hk.1.2⟩⟩)))⟩; have n4_ : Aside0 (Kd.R (Kd.int .u32) 81 w70 w.heap.size (fun k_ => (w.heap.size ≤ k_) ∧ some k_ ≠ (.slice Ao49 y326.length co49 : Value).ownBlock ∧ some k_ ≠ (v333 : Value).ownBlock) (.slice Ao61 t329.length co61) t329) := ⟨(by rw [hw]; exact (by (with_reducible repeat (first | apply Kd.R_alloc | apply Kd.R_drewN | apply Kd.R_drew)); exact Kd.R_mono (Kd.R_far (p := ⟨gb340, 1, none⟩) (Kd.R_far (p := ⟨gb340, 0, none⟩) (Kd.R_types HO331.out BK340.out (by decide)) (fun _ hk => hk.2) (.bool t335)) (fun _ hk => hk.2) (.slice Ao69 t336.length co69)) (fun _ hk => ⟨hk.1.1.1.1, ⟨hk.1.1.2, hk.1.2⟩⟩)))⟩; have n5_ : Aside0 (Kd.R (Kd.int .u32) 81 w70 w.heap.size (fun k_ => (w.heap.size ≤ k_) ∧ some k_ ≠ (.slice Ao49 y326.length co49 : Value).ownBlock ∧ some k_ ≠ (.slice Ao61 t329.length co61 : Value).ownBlock) v333 t332) := ⟨(by rw [hw]; exact (by (with_reducible repeat (first | apply Kd.R_alloc | apply Kd.R_drewN | apply Kd.R_drew)); exact Kd.R_mono (Kd.R_far (p := ⟨gb340, 1, none⟩) (Kd.R_far (p := ⟨gb340, 0, none⟩) (Kd.R_types HO334.out BK340.out (by decide)) (fun _ hk => hk.2) (.bool t335)) (fun _ hk => hk.2) (.slice Ao69 t336.length co69)) (fun _ hk => ⟨hk.1.1.1.1, ⟨hk.1.1.2, hk.1.2⟩⟩)))⟩; have n6_ : Aside0 (Kd.V (Kd.int .u32) 81 w70 w.heap.size (fun k_ => (P0_1_ k_ ∨ w.heap.size ≤ k_) ∧ some k_ ≠ (.slice Ao49 y326.length co49 : Value).ownBlock ∧ some k_ ≠ (v333 : Value).ownBlock ∧ k_ ≠ gb316 ∧ k_ ≠ gb317 ∧ k_ ≠ gb318 ∧ k_ ≠ gb319 ∧ k_ ≠ gb340) (.slice Ao69 t336.length co69) t336) := ⟨(by rw [hw]; exact (by (with_reducible repeat (first | apply Kd.V_alloc | apply Kd.V_drewN | apply Kd.V_drew)); exact Kd.V_mono (Kd.V_far (p := ⟨gb340, 1, none⟩) (Kd.V_far (p := ⟨gb340, 0, none⟩) (Kd.V_mono HO338.out (fun k_ hk => (⟨hk, hk.2⟩ : _ ∧ k_ ≠ gb340))) (fun _ hk => hk.2) (.bool t335)) (fun _ hk => hk.2) (.slice Ao69 t336.length co69)) (fun _ hk => ⟨hk.1.1.1, ⟨hk.1.1.2.1, ⟨hk.1.1.2.2.1, ⟨hk.1.1.2.2.2.1, ⟨hk.1.1.2.2.2.2.1, ⟨hk.1.1.2.2.2.2.2.1, ⟨hk.1.1.2.2.2.2.2.2, hk.1.2⟩⟩⟩⟩⟩⟩⟩)))⟩; have n7_ : Aside0 (w70.heap[gb316]? = some (.cells #[.bool a0_0, .slice A0_1 l0_1.length c0_1] 33 (0, 0))) := ⟨(by rw [hw]; exact (by (with_reducible repeat (first | refine blk_drewN ?_ _ | refine blk_drew ?_ | refine blk_alloc ?_ _)); refine blk_far ?_ NB316_340.out _; (with_reducible repeat (first | refine blk_drewN ?_ _ | refine blk_drew ?_ | refine blk_alloc ?_ _)); refine blk_far ?_ NB316_340.out _; (with_reducible repeat (first | refine blk_drewN ?_ _ | refine blk_drew ?_ | refine blk_alloc ?_ _)); exact BK316.out))⟩; have n8_ : Aside0 (w70.heap[gb317]? = some (.cells #[.bool a1_0, .slice A1_1 l1_1.length c1_1] 33 (0, 0))) := ⟨(by rw [hw]; exact (by (with_reducible repeat (first | refine blk_drewN ?_ _ | refine blk_drew ?_ | refine blk_alloc ?_ _)); refine blk_far ?_ NB317_340.out _; (with_reducible repeat (first | refine blk_drewN ?_ _ | refine blk_drew ?_ | refine blk_alloc ?_ _)); refine blk_far ?_ NB317_340.out _; (with_reducible repeat (first | refine blk_drewN ?_ _ | refine blk_drew ?_ | refine blk_alloc ?_ _)); exact BK317.out))⟩; have n9_ : Aside0 (w70.heap[gb318]? = some (.cells #[.bool false, .slice none 0 0] 33 (0, 0))) := ⟨(by rw [hw]; exact (by (with_reducible repeat (first | refine blk_drewN ?_ _ | refine blk_drew ?_ | refine blk_alloc ?_ _)); refine blk_far ?_ NB318_340.out _; (with_reducible repeat (first | refine blk_drewN ?_ _ | refine blk_drew ?_ | refine blk_alloc ?_ _)); refine blk_far ?_ NB318_340.out _; (with_reducible repeat (first | refine blk_drewN ?_ _ | refine blk_drew ?_ | refine blk_alloc ?_ _)); exact BK318.out))⟩; have n10_ : Aside0 (w70.heap[gb319]? = some (.cells #[.bool false, .slice none 0 0] 33 (0, 0))) := ⟨(by rw [hw]; exact (by (with_reducible repeat (first | refine blk_drewN ?_ _ | refine blk_drew ?_ | refine blk_alloc ?_ _)); refine blk_far ?_ NB319_340.out _; (with_reducible repeat (first | refine blk_drewN ?_ _ | refine blk_drew ?_ | refine blk_alloc ?_ _)); refine blk_far ?_ NB319_340.out _; (with_reducible repeat (first | refine blk_drewN ?_ _ | refine blk_drew ?_ | refine blk_alloc ?_ _)); exact BK319.out))⟩; have n11_ : Aside0 (w70.heap[gb340]? = some (.cells #[.bool t335, .slice Ao69 t336.length co69] 33 (0, 0))) := ⟨(by rw [hw]; exact (by (with_reducible repeat (first | refine blk_drewN ?_ _ | refine blk_drew ?_ | refine blk_alloc ?_ _)); refine blk_put (cs := #[.bool t335, .slice none 0 0]) ?_ 1 _ rfl; (with_reducible repeat (first | refine blk_drewN ?_ _ | refine blk_drew ?_ | refine blk_alloc ?_ _)); refine blk_put (cs := #[.bool false, .slice none 0 0]) ?_ 0 _ rfl; (with_reducible repeat (first | refine blk_drewN ?_ _ | refine blk_drew ?_ | refine blk_alloc ?_ _)); exact BK340.out))⟩; have n12_ : Aside0 (Below w.heap.size w w70) := ⟨(by rw [hw]; exact zq40)⟩; clear hw; clear HO_7; clear HO_8; clear HO_317001; clear HO328; clear HO331; clear HO334; clear HO338; clear BK316; clear BK317; clear BK318; clear BK319; clear BK340; clear HB; have HO_7 := n0_; have HO_8 := n1_; have HO_317001 := n2_; have HO328 := n3_; have HO331 := n4_; have HO334 := n5_; have HO338 := n6_; have BK316 := n7_; have BK317 := n8_; have BK318 := n9_; have BK319 := n10_; have BK340 := n11_; have HB := n12_; clear n0_ n1_ n2_ n3_ n4_ n5_ n6_ n7_ n8_ n9_ n10_ n11_ n12_; obtain ⟨Ao71, co71, eo71⟩ := Kd.R_slice HO334.out; subst eo71) | ((with_reducible refine gate_callee (f := 53) rfl ?_); refine goesL_ (some 53) rfl rfl Tryz.func53 (by kernel_rfl) rfl #[.bool false, .slice Ao71 t332.length co71] rfl zq5 ?_; (with_reducible refine (wide_signed.calls kj17 false (fun k_ => some k_ = (.slice Ao71 t332.length co71 : Value).ownBlock) _ _ t332 t341 t342 t345 _ ?side1 A45.out).mono ?_); (case side1 => exact Kd.R_V (Kd.R_tight rfl (Kd.R_types (Kd.R_types (Kd.R_types (Kd.R_types (Kd.R_types (HO334.out) BK316.out (by decide)) BK317.out (by decide)) BK318.out (by decide)) BK319.out (by decide)) BK340.out (by decide)))); rintro e w72 ⟨v343, rfl, ho0, hb⟩; refine ⟨_, rfl, ?_⟩; have n0_ := Aside0.mk (Kd.V_below (zq0 HO_7.out) hb); have n1_ := Aside0.mk (Kd.V_below (zq0 HO_8.out) hb); have n2_ := Aside0.mk (Kd.V_below (zq0 HO_317001.out) hb); have n3_ := Aside0.mk (Kd.R_below (zq6 HO328.out) hb); have n4_ := Aside0.mk (Kd.R_below (zq6 HO331.out) hb); have n5_ := Aside0.mk (Kd.R_below (zq6 HO334.out) hb); have n6_ := Aside0.mk (Kd.V_below (zq0 HO338.out) hb); have n7_ := Aside0.mk (Kd.V_lower (Kd.V_mono (ok' := fun k_ => (P0_1_ k_ ∨ w.heap.size ≤ k_) ∧ some k_ ≠ (.slice Ao49 y326.length co49 : Value).ownBlock ∧ some k_ ≠ (.slice Ao61 t329.length co61 : Value).ownBlock ∧ k_ ≠ gb316 ∧ k_ ≠ gb317 ∧ k_ ≠ gb318 ∧ k_ ≠ gb319 ∧ k_ ≠ gb340) ho0 (fun k_ hk_ => ⟨Or.elim hk_ (fun hs_ => (.inr (((Kd.R_types (Kd.R_types (Kd.R_types (Kd.R_types (Kd.R_types (HO334.out) BK316.out (by decide)) BK317.out (by decide)) BK318.out (by decide)) BK319.out (by decide)) BK340.out (by decide)).1 k_ hs_.symm).1.1.1.1.1.1))) (fun hn_ => (.inr (Nat.le_trans (below_size zq40) hn_))), Or.elim hk_ (fun hs_ => ((Kd.R_types (Kd.R_types (Kd.R_types (Kd.R_types (Kd.R_types (HO334.out) BK316.out (by decide)) BK317.out (by decide)) BK318.out (by decide)) BK319.out (by decide)) BK340.out (by decide)).1 k_ hs_.symm).1.1.1.1.1.2.1) (fun hn_ => (Kd.fresh' (Kd.R_lt (zq6 HO328.out)) k_ hn_)), Or.elim hk_ (fun hs_ => ((Kd.R_types (Kd.R_types (Kd.R_types (Kd.R_types (Kd.R_types (HO334.out) BK316.out (by decide)) BK317.out (by decide)) BK318.out (by decide)) BK319.out (by decide)) BK340.out (by decide)).1 k_ hs_.symm).1.1.1.1.1.2.2) (fun hn_ => (Kd.fresh' (Kd.R_lt (zq6 HO331.out)) k_ hn_)), Or.elim hk_ (fun hs_ => ((Kd.R_types (Kd.R_types (Kd.R_types (Kd.R_types (Kd.R_types (HO334.out) BK316.out (by decide)) BK317.out (by decide)) BK318.out (by decide)) BK319.out (by decide)) BK340.out (by decide)).1 k_ hs_.symm).1.1.1.1.2) (fun hn_ => (Kd.freshB (g := gb316) (o := .cells #[.bool a0_0, .slice A0_1 l0_1.length c0_1] 33 (0, 0)) (zq8 BK316.out) k_ hn_)), Or.elim hk_ (fun hs_ => ((Kd.R_types (Kd.R_types (Kd.R_types (Kd.R_types (Kd.R_types (HO334.out) BK316.out (by decide)) BK317.out (by decide)) BK318.out (by decide)) BK319.out (by decide)) BK340.out (by decide)).1 k_ hs_.symm).1.1.1.2) (fun hn_ => (Kd.freshB (g := gb317) (o := .cells #[.bool a1_0, .slice A1_1 l1_1.length c1_1] 33 (0, 0)) (zq8 BK317.out) k_ hn_)), Or.elim hk_ (fun hs_ => ((Kd.R_types (Kd.R_types (Kd.R_types (Kd.R_types (Kd.R_types (HO334.out) BK316.out (by decide)) BK317.out (by decide)) BK318.out (by decide)) BK319.out (by decide)) BK340.out (by decide)).1 k_ hs_.symm).1.1.2) (fun hn_ => (Kd.freshB (g := gb318) (o := .cells #[.bool false, .slice none 0 0] 33 (0, 0)) (zq8 BK318.out) k_ hn_)), Or.elim hk_ (fun hs_ => ((Kd.R_types (Kd.R_types (Kd.R_types (Kd.R_types (Kd.R_types (HO334.out) BK316.out (by decide)) BK317.out (by decide)) BK318.out (by decide)) BK319.out (by decide)) BK340.out (by decide)).1 k_ hs_.symm).1.2) (fun hn_ => (Kd.freshB (g := gb319) (o := .cells #[.bool false, .slice none 0 0] 33 (0, 0)) (zq8 BK319.out) k_ hn_)), Or.elim hk_ (fun hs_ => ((Kd.R_types (Kd.R_types (Kd.R_types (Kd.R_types (Kd.R_types (HO334.out) BK316.out (by decide)) BK317.out (by decide)) BK318.out (by decide)) BK319.out (by decide)) BK340.out (by decide)).1 k_ hs_.symm).2) (fun hn_ => (Kd.freshB (g := gb340) (o := .cells #[.bool t335, .slice Ao69 t336.length co69] 33 (0, 0)) (zq8 BK340.out) k_ hn_))⟩)) (below_size zq40)); have n8_ := Aside0.mk (blk_below (g := gb316) (o := .cells #[.bool a0_0, .slice A0_1 l0_1.length c0_1] 33 (0, 0)) (zq8 BK316.out) hb); have n9_ := Aside0.mk (blk_below (g := gb317) (o := .cells #[.bool a1_0, .slice A1_1 l1_1.length c1_1] 33 (0, 0)) (zq8 BK317.out) hb); have n10_ := Aside0.mk (blk_below (g := gb318) (o := .cells #[.bool false, .slice none 0 0] 33 (0, 0)) (zq8 BK318.out) hb); have n11_ := Aside0.mk (blk_below (g := gb319) (o := .cells #[.bool false, .slice none 0 0] 33 (0, 0)) (zq8 BK319.out) hb); have n12_ := Aside0.mk (blk_below (g := gb340) (o := .cells #[.bool t335, .slice Ao69 t336.length co69] 33 (0, 0)) (zq8 BK340.out) hb); have n13_ := Aside0.mk (below_step zq40 hb); clear HO_7; clear HO_8; clear HO_317001; clear HO328; clear HO331; clear HO334; clear HO338; clear BK316; clear BK317; clear BK318; clear BK319; clear BK340; clear HB; have HO_7 := n0_; have HO_8 := n1_; have HO_317001 := n2_; have HO328 := n3_; have HO331 := n4_; have HO334 := n5_; have HO338 := n6_; have HO344 := n7_; have BK316 := n8_; have BK317 := n9_; have BK318 := n10_; have BK319 := n11_; have BK340 := n12_; have HB := n13_; clear n0_ n1_ n2_ n3_ n4_ n5_ n6_ n7_ n8_ n9_ n10_ n11_ n12_ n13_; (try clear hb); (try clear hb2); (try clear hk); (try clear hi); (try clear ho0)) | ((with_reducible refine gate_dst (N := 11) rfl ?_); (try (refine gate_guard (by rfl) ?_; dsimp only)); refine box_event ?hg (N := 11) ?hd (cs := #[.bool false, .slice none 0 0]) (t := 33) ?hr ?_; (case hd => rfl); (case hg => rfl); (case hr => first | (go_simp; done) | (go_simp; rfl)); intro gb346 hg w73 hbox hb; have n0_ := Aside0.mk (Kd.V_below (Kd.V_elderB (zq0 HO_7.out) gb346 (Nat.le_of_eq hg.symm)) hb); have n1_ := Aside0.mk (Kd.V_below (Kd.V_elderB (zq0 HO_8.out) gb346 (Nat.le_of_eq hg.symm)) hb); have n2_ := Aside0.mk (Kd.V_below (Kd.V_elderB (zq0 HO_317001.out) gb346 (Nat.le_of_eq hg.symm)) hb); have n3_ := Aside0.mk (Kd.R_below (zq6 HO328.out) hb); have n4_ := Aside0.mk (Kd.R_below (zq6 HO331.out) hb); have n5_ := Aside0.mk (Kd.R_below (zq6 HO334.out) hb); have n6_ := Aside0.mk (Kd.V_below (Kd.V_elderB (zq0 HO338.out) gb346 (Nat.le_of_eq hg.symm)) hb); have n7_ := Aside0.mk (Kd.V_below (Kd.V_elderB (zq0 HO344.out) gb346 (Nat.le_of_eq hg.symm)) hb); have n8_ := Aside0.mk (blk_below (g := gb316) (o := .cells #[.bool a0_0, .slice A0_1 l0_1.length c0_1] 33 (0, 0)) (zq8 BK316.out) hb); have n9_ := Aside0.mk (blk_below (g := gb317) (o := .cells #[.bool a1_0, .slice A1_1 l1_1.length c1_1] 33 (0, 0)) (zq8 BK317.out) hb); have n10_ := Aside0.mk (blk_below (g := gb318) (o := .cells #[.bool false, .slice none 0 0] 33 (0, 0)) (zq8 BK318.out) hb); have n11_ := Aside0.mk (blk_below (g := gb319) (o := .cells #[.bool false, .slice none 0 0] 33 (0, 0)) (zq8 BK319.out) hb); have n12_ := Aside0.mk (blk_below (g := gb340) (o := .cells #[.bool t335, .slice Ao69 t336.length co69] 33 (0, 0)) (zq8 BK340.out) hb); have n13_ := Aside0.mk (below_step zq40 hb); have n14_ := Aside0.mk (hbox); have n15_ := Aside0.mk ((by rw [hg]; exact (below_size zq40) : w.heap.size ≤ gb346)); have n16_ := Aside0.mk ((by rw [hg]; exact (below_size zq40) : w.heap.size ≤ gb346)); have n17_ := Aside0.mk ((by rw [hg]; exact Nat.ne_of_lt (blk_lt (g := gb316) (o := .cells #[.bool a0_0, .slice A0_1 l0_1.length c0_1] 33 (0, 0)) (zq8 BK316.out)) : gb316 ≠ gb346)); have n18_ := Aside0.mk ((by rw [hg]; exact Nat.ne_of_gt (blk_lt (g := gb316) (o := .cells #[.bool a0_0, .slice A0_1 l0_1.length c0_1] 33 (0, 0)) (zq8 BK316.out)) : gb346 ≠ gb316)); have n19_ := Aside0.mk ((by rw [hg]; exact Nat.ne_of_lt (blk_lt (g := gb317) (o := .cells #[.bool a1_0, .slice A1_1 l1_1.length c1_1] 33 (0, 0)) (zq8 BK317.out)) : gb317 ≠ gb346)); have n20_ := Aside0.mk ((by rw [hg]; exact Nat.ne_of_gt (blk_lt (g := gb317) (o := .cells #[.bool a1_0, .slice A1_1 l1_1.length c1_1] 33 (0, 0)) (zq8 BK317.out)) : gb346 ≠ gb317)); have n21_ := Aside0.mk ((by rw [hg]; exact Nat.ne_of_lt (blk_lt (g := gb318) (o := .cells #[.bool false, .slice none 0 0] 33 (0, 0)) (zq8 BK318.out)) : gb318 ≠ gb346)); have n22_ := Aside0.mk ((by rw [hg]; exact Nat.ne_of_gt (blk_lt (g := gb318) (o := .cells #[.bool false, .slice none 0 0] 33 (0, 0)) (zq8 BK318.out)) : gb346 ≠ gb318)); have n23_ := Aside0.mk ((by rw [hg]; exact Nat.ne_of_lt (blk_lt (g := gb319) (o := .cells #[.bool false, .slice none 0 0] 33 (0, 0)) (zq8 BK319.out)) : gb319 ≠ gb346)); have n24_ := Aside0.mk ((by rw [hg]; exact Nat.ne_of_gt (blk_lt (g := gb319) (o := .cells #[.bool false, .slice none 0 0] 33 (0, 0)) (zq8 BK319.out)) : gb346 ≠ gb319)); have n25_ := Aside0.mk ((by rw [hg]; exact Nat.ne_of_lt (blk_lt (g := gb340) (o := .cells #[.bool t335, .slice Ao69 t336.length co69] 33 (0, 0)) (zq8 BK340.out)) : gb340 ≠ gb346)); have n26_ := Aside0.mk ((by rw [hg]; exact Nat.ne_of_gt (blk_lt (g := gb340) (o := .cells #[.bool t335, .slice Ao69 t336.length co69] 33 (0, 0)) (zq8 BK340.out)) : gb346 ≠ gb340)); clear HO_7; clear HO_8; clear HO_317001; clear HO328; clear HO331; clear HO334; clear HO338; clear HO344; clear BK316; clear BK317; clear BK318; clear BK319; clear BK340; clear HB; have HO_7 := n0_; have HO_8 := n1_; have HO_317001 := n2_; have HO328 := n3_; have HO331 := n4_; have HO334 := n5_; have HO338 := n6_; have HO344 := n7_; have BK316 := n8_; have BK317 := n9_; have BK318 := n10_; have BK319 := n11_; have BK340 := n12_; have HB := n13_; have BK346 := n14_; have GW346 := n15_; have GE346 := n16_; have NB316_346 := n17_; have NB346_316 := n18_; have NB317_346 := n19_; have NB346_317 := n20_; have NB318_346 := n21_; have NB346_318 := n22_; have NB319_346 := n23_; have NB346_319 := n24_; have NB340_346 := n25_; have NB346_340 := n26_; clear n0_ n1_ n2_ n3_ n4_ n5_ n6_ n7_ n8_ n9_ n10_ n11_ n12_ n13_ n14_ n15_ n16_ n17_ n18_ n19_ n20_ n21_ n22_ n23_ n24_ n25_ n26_; clear hb hbox hg; have hnb74 := NB346_316.out; have hnc74 := NB316_346.out; have hnb75 := NB346_317.out; have hnc75 := NB317_346.out; have hnb76 := NB346_318.out; have hnc76 := NB318_346.out; have hnb77 := NB346_319.out; have hnc77 := NB319_346.out; have hnb78 := NB346_340.out; have hnc78 := NB340_346.out; have hcz79_0 : w73.cell? ⟨gb346, 0, none⟩ = some (.bool false) := (blk_cell BK346.out 0).trans rfl; have hcz79_1 : w73.cell? ⟨gb346, 1, none⟩ = some (.slice none 0 0) := (blk_cell BK346.out 1).trans rfl; have hfz79_0 := blk_frozen BK346.out 0; have hfz79_1 := blk_frozen BK346.out 1; obtain ⟨Ao80, co80, eo80⟩ := Kd.V_slice HO344.out; subst eo80))
          have n0_ : Aside0 (Kd.V (Kd.int .u32) 81 ((w73.setCell ⟨gb346, 0, none⟩ (.bool t341)).setCell ⟨gb346, 1, none⟩ (.slice Ao80 t342.length co80)) w.heap.size (fun k_ => (P0_1_ k_ ∨ w.heap.size ≤ k_) ∧ some k_ ≠ (.slice Ao49 y326.length co49 : Value).ownBlock ∧ some k_ ≠ (.slice Ao61 t329.length co61 : Value).ownBlock ∧ some k_ ≠ (.slice Ao71 t332.length co71 : Value).ownBlock ∧ k_ ≠ gb316 ∧ k_ ≠ gb317 ∧ k_ ≠ gb318 ∧ k_ ≠ gb319 ∧ k_ ≠ gb340 ∧ k_ ≠ gb346) (.slice Ao48 t320.length co48) t320) := ⟨by (with_reducible repeat (first | apply Kd.V_alloc | apply Kd.V_drewN | apply Kd.V_drew)); exact Kd.V_mono (Kd.V_far (p := ⟨gb346, 1, none⟩) (Kd.V_far (p := ⟨gb346, 0, none⟩) (Kd.V_mono HO_7.out (fun k_ hk => (⟨hk, hk.2⟩ : _ ∧ k_ ≠ gb346))) (fun _ hk => hk.2) (.bool t341)) (fun _ hk => hk.2) (.slice Ao80 t342.length co80)) (fun _ hk => ⟨hk.1.1.1, ⟨hk.1.1.2.1, ⟨hk.1.1.2.2.1, ⟨hk.1.1.2.2.2.1, ⟨hk.1.1.2.2.2.2.1, ⟨hk.1.1.2.2.2.2.2.1, ⟨hk.1.1.2.2.2.2.2.2.1, ⟨hk.1.1.2.2.2.2.2.2.2.1, ⟨hk.1.1.2.2.2.2.2.2.2.2, hk.1.2⟩⟩⟩⟩⟩⟩⟩⟩⟩)⟩
          have n1_ : Aside0 (Kd.V (Kd.int .u32) 81 ((w73.setCell ⟨gb346, 0, none⟩ (.bool t341)).setCell ⟨gb346, 1, none⟩ (.slice Ao80 t342.length co80)) w.heap.size (fun k_ => (P0_1_ k_ ∨ w.heap.size ≤ k_) ∧ some k_ ≠ (.slice Ao49 y326.length co49 : Value).ownBlock ∧ some k_ ≠ (.slice Ao61 t329.length co61 : Value).ownBlock ∧ some k_ ≠ (.slice Ao71 t332.length co71 : Value).ownBlock ∧ k_ ≠ gb316 ∧ k_ ≠ gb317 ∧ k_ ≠ gb318 ∧ k_ ≠ gb319 ∧ k_ ≠ gb340 ∧ k_ ≠ gb346) (.slice Ao55 t323.length co55) t323) := ⟨by (with_reducible repeat (first | apply Kd.V_alloc | apply Kd.V_drewN | apply Kd.V_drew)); exact Kd.V_mono (Kd.V_far (p := ⟨gb346, 1, none⟩) (Kd.V_far (p := ⟨gb346, 0, none⟩) (Kd.V_mono HO_8.out (fun k_ hk => (⟨hk, hk.2⟩ : _ ∧ k_ ≠ gb346))) (fun _ hk => hk.2) (.bool t341)) (fun _ hk => hk.2) (.slice Ao80 t342.length co80)) (fun _ hk => ⟨hk.1.1.1, ⟨hk.1.1.2.1, ⟨hk.1.1.2.2.1, ⟨hk.1.1.2.2.2.1, ⟨hk.1.1.2.2.2.2.1, ⟨hk.1.1.2.2.2.2.2.1, ⟨hk.1.1.2.2.2.2.2.2.1, ⟨hk.1.1.2.2.2.2.2.2.2.1, ⟨hk.1.1.2.2.2.2.2.2.2.2, hk.1.2⟩⟩⟩⟩⟩⟩⟩⟩⟩)⟩
          have n2_ : Aside0 (Kd.V (Kd.int .u32) 81 ((w73.setCell ⟨gb346, 0, none⟩ (.bool t341)).setCell ⟨gb346, 1, none⟩ (.slice Ao80 t342.length co80)) w.heap.size (fun k_ => (P0_1_ k_ ∨ w.heap.size ≤ k_) ∧ some k_ ≠ (.slice Ao49 y326.length co49 : Value).ownBlock ∧ some k_ ≠ (.slice Ao61 t329.length co61 : Value).ownBlock ∧ some k_ ≠ (.slice Ao71 t332.length co71 : Value).ownBlock ∧ k_ ≠ gb316 ∧ k_ ≠ gb317 ∧ k_ ≠ gb318 ∧ k_ ≠ gb319 ∧ k_ ≠ gb340 ∧ k_ ≠ gb346) (.slice A0_1 l0_1.length c0_1) l0_1) := ⟨by (with_reducible repeat (first | apply Kd.V_alloc | apply Kd.V_drewN | apply Kd.V_drew)); exact Kd.V_mono (Kd.V_far (p := ⟨gb346, 1, none⟩) (Kd.V_far (p := ⟨gb346, 0, none⟩) (Kd.V_mono HO_317001.out (fun k_ hk => (⟨hk, hk.2⟩ : _ ∧ k_ ≠ gb346))) (fun _ hk => hk.2) (.bool t341)) (fun _ hk => hk.2) (.slice Ao80 t342.length co80)) (fun _ hk => ⟨hk.1.1.1, ⟨hk.1.1.2.1, ⟨hk.1.1.2.2.1, ⟨hk.1.1.2.2.2.1, ⟨hk.1.1.2.2.2.2.1, ⟨hk.1.1.2.2.2.2.2.1, ⟨hk.1.1.2.2.2.2.2.2.1, ⟨hk.1.1.2.2.2.2.2.2.2.1, ⟨hk.1.1.2.2.2.2.2.2.2.2, hk.1.2⟩⟩⟩⟩⟩⟩⟩⟩⟩)⟩
          have n3_ : Aside0 (Kd.R (Kd.int .u32) 81 ((w73.setCell ⟨gb346, 0, none⟩ (.bool t341)).setCell ⟨gb346, 1, none⟩ (.slice Ao80 t342.length co80)) w.heap.size (fun k_ => (w.heap.size ≤ k_) ∧ some k_ ≠ (.slice Ao61 t329.length co61 : Value).ownBlock ∧ some k_ ≠ (.slice Ao71 t332.length co71 : Value).ownBlock) (.slice Ao49 y326.length co49) y326) := ⟨by (with_reducible repeat (first | apply Kd.R_alloc | apply Kd.R_drewN | apply Kd.R_drew)); exact Kd.R_mono (Kd.R_far (p := ⟨gb346, 1, none⟩) (Kd.R_far (p := ⟨gb346, 0, none⟩) (Kd.R_types HO328.out BK346.out (by decide)) (fun _ hk => hk.2) (.bool t341)) (fun _ hk => hk.2) (.slice Ao80 t342.length co80)) (fun _ hk => ⟨hk.1.1, ⟨hk.1.2.1, hk.1.2.2⟩⟩)⟩
          have n4_ : Aside0 (Kd.R (Kd.int .u32) 81 ((w73.setCell ⟨gb346, 0, none⟩ (.bool t341)).setCell ⟨gb346, 1, none⟩ (.slice Ao80 t342.length co80)) w.heap.size (fun k_ => (w.heap.size ≤ k_) ∧ some k_ ≠ (.slice Ao49 y326.length co49 : Value).ownBlock ∧ some k_ ≠ (.slice Ao71 t332.length co71 : Value).ownBlock) (.slice Ao61 t329.length co61) t329) := ⟨by (with_reducible repeat (first | apply Kd.R_alloc | apply Kd.R_drewN | apply Kd.R_drew)); exact Kd.R_mono (Kd.R_far (p := ⟨gb346, 1, none⟩) (Kd.R_far (p := ⟨gb346, 0, none⟩) (Kd.R_types HO331.out BK346.out (by decide)) (fun _ hk => hk.2) (.bool t341)) (fun _ hk => hk.2) (.slice Ao80 t342.length co80)) (fun _ hk => ⟨hk.1.1, ⟨hk.1.2.1, hk.1.2.2⟩⟩)⟩
          have n5_ : Aside0 (Kd.R (Kd.int .u32) 81 ((w73.setCell ⟨gb346, 0, none⟩ (.bool t341)).setCell ⟨gb346, 1, none⟩ (.slice Ao80 t342.length co80)) w.heap.size (fun k_ => (w.heap.size ≤ k_) ∧ some k_ ≠ (.slice Ao49 y326.length co49 : Value).ownBlock ∧ some k_ ≠ (.slice Ao61 t329.length co61 : Value).ownBlock) (.slice Ao71 t332.length co71) t332) := ⟨by (with_reducible repeat (first | apply Kd.R_alloc | apply Kd.R_drewN | apply Kd.R_drew)); exact Kd.R_mono (Kd.R_far (p := ⟨gb346, 1, none⟩) (Kd.R_far (p := ⟨gb346, 0, none⟩) (Kd.R_types HO334.out BK346.out (by decide)) (fun _ hk => hk.2) (.bool t341)) (fun _ hk => hk.2) (.slice Ao80 t342.length co80)) (fun _ hk => ⟨hk.1.1, ⟨hk.1.2.1, hk.1.2.2⟩⟩)⟩
          have n6_ : Aside0 (Kd.V (Kd.int .u32) 81 ((w73.setCell ⟨gb346, 0, none⟩ (.bool t341)).setCell ⟨gb346, 1, none⟩ (.slice Ao80 t342.length co80)) w.heap.size (fun k_ => (P0_1_ k_ ∨ w.heap.size ≤ k_) ∧ some k_ ≠ (.slice Ao49 y326.length co49 : Value).ownBlock ∧ some k_ ≠ (.slice Ao71 t332.length co71 : Value).ownBlock ∧ k_ ≠ gb316 ∧ k_ ≠ gb317 ∧ k_ ≠ gb318 ∧ k_ ≠ gb319 ∧ k_ ≠ gb340 ∧ k_ ≠ gb346) (.slice Ao69 t336.length co69) t336) := ⟨by (with_reducible repeat (first | apply Kd.V_alloc | apply Kd.V_drewN | apply Kd.V_drew)); exact Kd.V_mono (Kd.V_far (p := ⟨gb346, 1, none⟩) (Kd.V_far (p := ⟨gb346, 0, none⟩) (Kd.V_mono HO338.out (fun k_ hk => (⟨hk, hk.2⟩ : _ ∧ k_ ≠ gb346))) (fun _ hk => hk.2) (.bool t341)) (fun _ hk => hk.2) (.slice Ao80 t342.length co80)) (fun _ hk => ⟨hk.1.1.1, ⟨hk.1.1.2.1, ⟨hk.1.1.2.2.1, ⟨hk.1.1.2.2.2.1, ⟨hk.1.1.2.2.2.2.1, ⟨hk.1.1.2.2.2.2.2.1, ⟨hk.1.1.2.2.2.2.2.2.1, ⟨hk.1.1.2.2.2.2.2.2.2, hk.1.2⟩⟩⟩⟩⟩⟩⟩⟩)⟩
          have n7_ : Aside0 (Kd.V (Kd.int .u32) 81 ((w73.setCell ⟨gb346, 0, none⟩ (.bool t341)).setCell ⟨gb346, 1, none⟩ (.slice Ao80 t342.length co80)) w.heap.size (fun k_ => (P0_1_ k_ ∨ w.heap.size ≤ k_) ∧ some k_ ≠ (.slice Ao49 y326.length co49 : Value).ownBlock ∧ some k_ ≠ (.slice Ao61 t329.length co61 : Value).ownBlock ∧ k_ ≠ gb316 ∧ k_ ≠ gb317 ∧ k_ ≠ gb318 ∧ k_ ≠ gb319 ∧ k_ ≠ gb340 ∧ k_ ≠ gb346) (.slice Ao80 t342.length co80) t342) := ⟨by (with_reducible repeat (first | apply Kd.V_alloc | apply Kd.V_drewN | apply Kd.V_drew)); exact Kd.V_mono (Kd.V_far (p := ⟨gb346, 1, none⟩) (Kd.V_far (p := ⟨gb346, 0, none⟩) (Kd.V_mono HO344.out (fun k_ hk => (⟨hk, hk.2⟩ : _ ∧ k_ ≠ gb346))) (fun _ hk => hk.2) (.bool t341)) (fun _ hk => hk.2) (.slice Ao80 t342.length co80)) (fun _ hk => ⟨hk.1.1.1, ⟨hk.1.1.2.1, ⟨hk.1.1.2.2.1, ⟨hk.1.1.2.2.2.1, ⟨hk.1.1.2.2.2.2.1, ⟨hk.1.1.2.2.2.2.2.1, ⟨hk.1.1.2.2.2.2.2.2.1, ⟨hk.1.1.2.2.2.2.2.2.2, hk.1.2⟩⟩⟩⟩⟩⟩⟩⟩)⟩
          have n8_ : Aside0 (((w73.setCell ⟨gb346, 0, none⟩ (.bool t341)).setCell ⟨gb346, 1, none⟩ (.slice Ao80 t342.length co80)).heap[gb316]? = some (.cells #[.bool a0_0, .slice A0_1 l0_1.length c0_1] 33 (0, 0))) := ⟨by (with_reducible repeat (first | refine blk_drewN ?_ _ | refine blk_drew ?_ | refine blk_alloc ?_ _)); refine blk_far ?_ NB316_346.out _; (with_reducible repeat (first | refine blk_drewN ?_ _ | refine blk_drew ?_ | refine blk_alloc ?_ _)); refine blk_far ?_ NB316_346.out _; (with_reducible repeat (first | refine blk_drewN ?_ _ | refine blk_drew ?_ | refine blk_alloc ?_ _)); exact BK316.out⟩
          have n9_ : Aside0 (((w73.setCell ⟨gb346, 0, none⟩ (.bool t341)).setCell ⟨gb346, 1, none⟩ (.slice Ao80 t342.length co80)).heap[gb317]? = some (.cells #[.bool a1_0, .slice A1_1 l1_1.length c1_1] 33 (0, 0))) := ⟨by (with_reducible repeat (first | refine blk_drewN ?_ _ | refine blk_drew ?_ | refine blk_alloc ?_ _)); refine blk_far ?_ NB317_346.out _; (with_reducible repeat (first | refine blk_drewN ?_ _ | refine blk_drew ?_ | refine blk_alloc ?_ _)); refine blk_far ?_ NB317_346.out _; (with_reducible repeat (first | refine blk_drewN ?_ _ | refine blk_drew ?_ | refine blk_alloc ?_ _)); exact BK317.out⟩
          have n10_ : Aside0 (((w73.setCell ⟨gb346, 0, none⟩ (.bool t341)).setCell ⟨gb346, 1, none⟩ (.slice Ao80 t342.length co80)).heap[gb318]? = some (.cells #[.bool false, .slice none 0 0] 33 (0, 0))) := ⟨by (with_reducible repeat (first | refine blk_drewN ?_ _ | refine blk_drew ?_ | refine blk_alloc ?_ _)); refine blk_far ?_ NB318_346.out _; (with_reducible repeat (first | refine blk_drewN ?_ _ | refine blk_drew ?_ | refine blk_alloc ?_ _)); refine blk_far ?_ NB318_346.out _; (with_reducible repeat (first | refine blk_drewN ?_ _ | refine blk_drew ?_ | refine blk_alloc ?_ _)); exact BK318.out⟩
          have n11_ : Aside0 (((w73.setCell ⟨gb346, 0, none⟩ (.bool t341)).setCell ⟨gb346, 1, none⟩ (.slice Ao80 t342.length co80)).heap[gb319]? = some (.cells #[.bool false, .slice none 0 0] 33 (0, 0))) := ⟨by (with_reducible repeat (first | refine blk_drewN ?_ _ | refine blk_drew ?_ | refine blk_alloc ?_ _)); refine blk_far ?_ NB319_346.out _; (with_reducible repeat (first | refine blk_drewN ?_ _ | refine blk_drew ?_ | refine blk_alloc ?_ _)); refine blk_far ?_ NB319_346.out _; (with_reducible repeat (first | refine blk_drewN ?_ _ | refine blk_drew ?_ | refine blk_alloc ?_ _)); exact BK319.out⟩
          have n12_ : Aside0 (((w73.setCell ⟨gb346, 0, none⟩ (.bool t341)).setCell ⟨gb346, 1, none⟩ (.slice Ao80 t342.length co80)).heap[gb340]? = some (.cells #[.bool t335, .slice Ao69 t336.length co69] 33 (0, 0))) := ⟨by (with_reducible repeat (first | refine blk_drewN ?_ _ | refine blk_drew ?_ | refine blk_alloc ?_ _)); refine blk_far ?_ NB340_346.out _; (with_reducible repeat (first | refine blk_drewN ?_ _ | refine blk_drew ?_ | refine blk_alloc ?_ _)); refine blk_far ?_ NB340_346.out _; (with_reducible repeat (first | refine blk_drewN ?_ _ | refine blk_drew ?_ | refine blk_alloc ?_ _)); exact BK340.out⟩
          have n13_ : Aside0 (((w73.setCell ⟨gb346, 0, none⟩ (.bool t341)).setCell ⟨gb346, 1, none⟩ (.slice Ao80 t342.length co80)).heap[gb346]? = some (.cells #[.bool t341, .slice Ao80 t342.length co80] 33 (0, 0))) := ⟨by (with_reducible repeat (first | refine blk_drewN ?_ _ | refine blk_drew ?_ | refine blk_alloc ?_ _)); refine blk_put (cs := #[.bool t341, .slice none 0 0]) ?_ 1 _ rfl; (with_reducible repeat (first | refine blk_drewN ?_ _ | refine blk_drew ?_ | refine blk_alloc ?_ _)); refine blk_put (cs := #[.bool false, .slice none 0 0]) ?_ 0 _ rfl; (with_reducible repeat (first | refine blk_drewN ?_ _ | refine blk_drew ?_ | refine blk_alloc ?_ _)); exact BK346.out⟩
          have n14_ : Aside0 (Below w.heap.size w ((w73.setCell ⟨gb346, 0, none⟩ (.bool t341)).setCell ⟨gb346, 1, none⟩ (.slice Ao80 t342.length co80))) := ⟨by repeat (first | (with_reducible first | exact HB.out | apply below_alloc | apply pw_below_drewN | apply below_drew1 | refine below_set ?_ GE316.out | refine below_set ?_ GE317.out | refine below_set ?_ GE318.out | refine below_set ?_ GE319.out | refine below_set ?_ GE340.out | refine below_set ?_ GE346.out) | exact HB.out)⟩
          (try clear HO_7)
          (try clear HO_8)
          (try clear HO_317001)
          (try clear HO328)
          (try clear HO331)
          (try clear HO334)
          (try clear HO338)
          (try clear HO344)
          (try clear BK316)
          (try clear BK317)
          (try clear BK318)
          (try clear BK319)
          (try clear BK340)
          (try clear BK346)
          (try clear HB)
          generalize ((w73.setCell ⟨gb346, 0, none⟩ (.bool t341)).setCell ⟨gb346, 1, none⟩ (.slice Ao80 t342.length co80)) = w81 at n0_ n1_ n2_ n3_ n4_ n5_ n6_ n7_ n8_ n9_ n10_ n11_ n12_ n13_ n14_ ⊢
          have HO_7 := n0_
          have HO_8 := n1_
          have HO_317001 := n2_
          have HO328 := n3_
          have HO331 := n4_
          have HO334 := n5_
          have HO338 := n6_
          have HO344 := n7_
          have BK316 := n8_
          have BK317 := n9_
          have BK318 := n10_
          have BK319 := n11_
          have BK340 := n12_
          have BK346 := n13_
          have HB := n14_
          clear n0_ n1_ n2_ n3_ n4_ n5_ n6_ n7_ n8_ n9_ n10_ n11_ n12_ n13_ n14_
          have n0_ := Aside0.mk (Kd.V_drew HO_7.out)
          have n1_ := Aside0.mk (Kd.V_drew HO_8.out)
          have n2_ := Aside0.mk (Kd.V_drew HO_317001.out)
          have n3_ := Aside0.mk (Kd.R_drew HO328.out)
          have n4_ := Aside0.mk (Kd.R_drew HO331.out)
          have n5_ := Aside0.mk (Kd.R_drew HO334.out)
          have n6_ := Aside0.mk (Kd.V_drew HO338.out)
          have n7_ := Aside0.mk (Kd.V_drew HO344.out)
          have n8_ := Aside0.mk (blk_drew BK316.out)
          have n9_ := Aside0.mk (blk_drew BK317.out)
          have n10_ := Aside0.mk (blk_drew BK318.out)
          have n11_ := Aside0.mk (blk_drew BK319.out)
          have n12_ := Aside0.mk (blk_drew BK340.out)
          have n13_ := Aside0.mk (blk_drew BK346.out)
          have n14_ := Aside0.mk (below_drew1 HB.out)
          clear HO_7
          clear HO_8
          clear HO_317001
          clear HO328
          clear HO331
          clear HO334
          clear HO338
          clear HO344
          clear BK316
          clear BK317
          clear BK318
          clear BK319
          clear BK340
          clear BK346
          clear HB
          have HO_7 := n0_
          have HO_8 := n1_
          have HO_317001 := n2_
          have HO328 := n3_
          have HO331 := n4_
          have HO334 := n5_
          have HO338 := n6_
          have HO344 := n7_
          have BK316 := n8_
          have BK317 := n9_
          have BK318 := n10_
          have BK319 := n11_
          have BK340 := n12_
          have BK346 := n13_
          have HB := n14_
          clear n0_ n1_ n2_ n3_ n4_ n5_ n6_ n7_ n8_ n9_ n10_ n11_ n12_ n13_ n14_
          refine start_ (n := 5) (S := fun w' => w'.cell? ⟨gb340, 0, none⟩ = some (.bool t335) ∧ w'.cell? ⟨gb340, 1, none⟩ = some (.slice Ao69 t336.length co69) ∧ w'.cell? ⟨gb346, 0, none⟩ = some (.bool t341) ∧ w'.cell? ⟨gb346, 1, none⟩ = some (.slice Ao80 t342.length co80)) (ds := []) #[false, false, false, false, false] (by kernel_rfl) rfl rfl ⟨(blk_cell BK340.out 0).trans rfl, (blk_cell BK340.out 1).trans rfl, (blk_cell BK346.out 0).trans rfl, (blk_cell BK346.out 1).trans rfl⟩ (fun hHeld => ?_)
          generalize w81.drew = w82 at HO_7 HO_8 HO_317001 HO328 HO331 HO334 HO338 HO344 BK316 BK317 BK318 BK319 BK340 BK346 HB hHeld ⊢
          refine take_ (i := 0) (N := some 56) (v := ?_) (a' := ?_) #[true, false, false, false, false] rfl rfl (by kernel_rfl) (fun _ _ _ h => h) (Or.inl ⟨by rfl, ?_⟩) hHeld ?_ ?_
          rotate_left
          · rintro w' ⟨s0, s1, s2, s3⟩
            go_simp
            with_reducible rfl
          rotate_left
          · simp only [Act.put, List.setIfInBounds_toArray, List.set_cons_zero, List.set_cons_succ, i64_w, i32_w]
            rfl
          refine take_ (i := 1) (N := some 57) (v := ?_) (a' := ?_) #[true, true, false, false, false] rfl rfl (by kernel_rfl) (fun _ _ _ h => h) (Or.inl ⟨by rfl, ?_⟩) hHeld ?_ ?_
          rotate_left
          · rintro w' ⟨s0, s1, s2, s3⟩
            go_simp
            with_reducible rfl
          rotate_left
          · simp only [Act.put, List.setIfInBounds_toArray, List.set_cons_zero, List.set_cons_succ, i64_w, i32_w]
            rfl
          refine one_ (i := 2) (N := none) #[true, true, true, false, false] rfl rfl (by kernel_rfl) (by decide) (fun K hK => ?_)
          have hs83 : w82.cell? ⟨gb318, 0, none⟩ = some (.bool false) := (blk_cell BK318.out 0).trans rfl
          have hfs83 := blk_frozen BK318.out 0
          have hns83_0 := NB316_318.out
          have hns83_1 := NB317_318.out
          have hns83_3 := NB319_318.out
          have hns83_4 := NB340_318.out
          have hns83_5 := NB346_318.out
          have hms83_0 := NB318_316.out
          have hms83_1 := NB318_317.out
          have hms83_3 := NB318_319.out
          have hms83_4 := NB318_340.out
          have hms83_5 := NB318_346.out
          have hs84 : w82.cell? ⟨gb318, 1, none⟩ = some (.slice none 0 0) := (blk_cell BK318.out 1).trans rfl
          have hfs84 := blk_frozen BK318.out 1
          have hns84_0 := NB316_318.out
          have hns84_1 := NB317_318.out
          have hns84_3 := NB319_318.out
          have hns84_4 := NB340_318.out
          have hns84_5 := NB346_318.out
          have hms84_0 := NB318_316.out
          have hms84_1 := NB318_317.out
          have hms84_3 := NB318_319.out
          have hms84_4 := NB318_340.out
          have hms84_5 := NB318_346.out
          refine skip_ (w1 := ?_) (by rfl) rfl ?_ ?_
          rotate_left
          · go_simp
            rfl
          refine hK.out _ _ ⟨((cell_far (p := ⟨gb318, _, none⟩) NB340_318.out _).trans (((cell_far (p := ⟨gb318, _, none⟩) NB340_318.out _).trans (hHeld.1)))), ((cell_far (p := ⟨gb318, _, none⟩) NB340_318.out _).trans (((cell_far (p := ⟨gb318, _, none⟩) NB340_318.out _).trans (hHeld.2.1)))), ((cell_far (p := ⟨gb318, _, none⟩) NB346_318.out _).trans (((cell_far (p := ⟨gb318, _, none⟩) NB346_318.out _).trans (hHeld.2.2.1)))), ((cell_far (p := ⟨gb318, _, none⟩) NB346_318.out _).trans (((cell_far (p := ⟨gb318, _, none⟩) NB346_318.out _).trans (hHeld.2.2.2))))⟩ (fun hHeld => ?_)
          clear hK K
          refine one_ (i := 3) (N := none) #[true, true, true, true, false] rfl rfl (by kernel_rfl) (by decide) (fun K hK => ?_)
          have hs85 : w82.cell? ⟨gb319, 0, none⟩ = some (.bool false) := (blk_cell BK319.out 0).trans rfl
          have hfs85 := blk_frozen BK319.out 0
          have hns85_0 := NB316_319.out
          have hns85_1 := NB317_319.out
          have hns85_2 := NB318_319.out
          have hns85_4 := NB340_319.out
          have hns85_5 := NB346_319.out
          have hms85_0 := NB319_316.out
          have hms85_1 := NB319_317.out
          have hms85_2 := NB319_318.out
          have hms85_4 := NB319_340.out
          have hms85_5 := NB319_346.out
          have hs86 : w82.cell? ⟨gb319, 1, none⟩ = some (.slice none 0 0) := (blk_cell BK319.out 1).trans rfl
          have hfs86 := blk_frozen BK319.out 1
          have hns86_0 := NB316_319.out
          have hns86_1 := NB317_319.out
          have hns86_2 := NB318_319.out
          have hns86_4 := NB340_319.out
          have hns86_5 := NB346_319.out
          have hms86_0 := NB319_316.out
          have hms86_1 := NB319_317.out
          have hms86_2 := NB319_318.out
          have hms86_4 := NB319_340.out
          have hms86_5 := NB319_346.out
          refine skip_ (w1 := ?_) (by rfl) rfl ?_ ?_
          rotate_left
          · go_simp
            rfl
          refine hK.out _ _ ⟨((cell_far (p := ⟨gb319, _, none⟩) NB340_319.out _).trans (((cell_far (p := ⟨gb319, _, none⟩) NB340_319.out _).trans (hHeld.1)))), ((cell_far (p := ⟨gb319, _, none⟩) NB340_319.out _).trans (((cell_far (p := ⟨gb319, _, none⟩) NB340_319.out _).trans (hHeld.2.1)))), ((cell_far (p := ⟨gb319, _, none⟩) NB346_319.out _).trans (((cell_far (p := ⟨gb319, _, none⟩) NB346_319.out _).trans (hHeld.2.2.1)))), ((cell_far (p := ⟨gb319, _, none⟩) NB346_319.out _).trans (((cell_far (p := ⟨gb319, _, none⟩) NB346_319.out _).trans (hHeld.2.2.2))))⟩ (fun hHeld => ?_)
          clear hK K
          refine pure_ (i := 4) (N := some 6) (v := ?_) (a' := ?_) #[true, true, true, true, true] rfl rfl (by kernel_rfl) (fun _ _ _ h => h) (Or.inl ⟨by rfl, ?_⟩) ?_ ?_
          rotate_left
          · intro w'
            go_simp
            with_reducible rfl
          rotate_left
          · simp only [Act.put, List.setIfInBounds_toArray, List.set_cons_zero, List.set_cons_succ, i64_w, i32_w]
            rfl
          refine done_ (by kernel_rfl) ?_
          try go_wp2
          refine bodyPost_ret (results_list (rs := [.cell 4 33, .cell 5 33, .tmp 6]) rfl (by simp) (.cell gb318 33 #[.bool t335, .slice Ao69 t336.length co69] (0, 0) _ rfl (by (with_reducible repeat (first | refine blk_drewN ?_ _ | refine blk_drew ?_ | refine blk_alloc ?_ _)); refine blk_far ?_ NB318_319.out _; (with_reducible repeat (first | refine blk_drewN ?_ _ | refine blk_drew ?_ | refine blk_alloc ?_ _)); refine blk_far ?_ NB318_319.out _; (with_reducible repeat (first | refine blk_drewN ?_ _ | refine blk_drew ?_ | refine blk_alloc ?_ _)); refine blk_put (cs := #[.bool t335, .slice none 0 0]) ?_ 1 _ rfl; (with_reducible repeat (first | refine blk_drewN ?_ _ | refine blk_drew ?_ | refine blk_alloc ?_ _)); refine blk_put (cs := #[.bool false, .slice none 0 0]) ?_ 0 _ rfl; (with_reducible repeat (first | refine blk_drewN ?_ _ | refine blk_drew ?_ | refine blk_alloc ?_ _)); exact BK318.out) Tryz.underlying33 rfl (by kernel_rfl) (.cell gb319 33 #[.bool t341, .slice Ao80 t342.length co80] (0, 0) _ rfl (by (with_reducible repeat (first | refine blk_drewN ?_ _ | refine blk_drew ?_ | refine blk_alloc ?_ _)); refine blk_put (cs := #[.bool t341, .slice none 0 0]) ?_ 1 _ rfl; (with_reducible repeat (first | refine blk_drewN ?_ _ | refine blk_drew ?_ | refine blk_alloc ?_ _)); refine blk_put (cs := #[.bool false, .slice none 0 0]) ?_ 0 _ rfl; (with_reducible repeat (first | refine blk_drewN ?_ _ | refine blk_drew ?_ | refine blk_alloc ?_ _)); refine blk_far ?_ NB319_318.out _; (with_reducible repeat (first | refine blk_drewN ?_ _ | refine blk_drew ?_ | refine blk_alloc ?_ _)); refine blk_far ?_ NB319_318.out _; (with_reducible repeat (first | refine blk_drewN ?_ _ | refine blk_drew ?_ | refine blk_alloc ?_ _)); exact BK319.out) Tryz.underlying33 rfl (by kernel_rfl) (.tmp .nil)))) rfl ?_
          exact ⟨_, _, by first | rfl | (simp [errW_none, errW_some] <;> rfl) | (simp [*, errW_none, errW_some] <;> rfl), by (with_reducible repeat (first | apply Kd.V_alloc | apply Kd.V_drewN | apply Kd.V_drew)); exact Kd.V_mono (Kd.V_far (p := ⟨gb319, 1, none⟩) (Kd.V_far (p := ⟨gb319, 0, none⟩) (Kd.V_far (p := ⟨gb318, 1, none⟩) (Kd.V_far (p := ⟨gb318, 0, none⟩) (Kd.V_mono (Kd.V_mono HO338.out (fun k_ hk => (⟨hk, hk.2.2.2.2.2.1⟩ : _ ∧ k_ ≠ gb318))) (fun k_ hk => (⟨hk, hk.1.2.2.2.2.2.2.1⟩ : _ ∧ k_ ≠ gb319))) (fun _ hk => hk.1.2) (.bool t335)) (fun _ hk => hk.1.2) (.slice Ao69 t336.length co69)) (fun _ hk => hk.2) (.bool t341)) (fun _ hk => hk.2) (.slice Ao80 t342.length co80)) (fun _ hk => hk.1.1.1), by (with_reducible repeat (first | apply Kd.V_alloc | apply Kd.V_drewN | apply Kd.V_drew)); exact Kd.V_mono (Kd.V_far (p := ⟨gb319, 1, none⟩) (Kd.V_far (p := ⟨gb319, 0, none⟩) (Kd.V_far (p := ⟨gb318, 1, none⟩) (Kd.V_far (p := ⟨gb318, 0, none⟩) (Kd.V_mono (Kd.V_mono HO344.out (fun k_ hk => (⟨hk, hk.2.2.2.2.2.1⟩ : _ ∧ k_ ≠ gb318))) (fun k_ hk => (⟨hk, hk.1.2.2.2.2.2.2.1⟩ : _ ∧ k_ ≠ gb319))) (fun _ hk => hk.1.2) (.bool t335)) (fun _ hk => hk.1.2) (.slice Ao69 t336.length co69)) (fun _ hk => hk.2) (.bool t341)) (fun _ hk => hk.2) (.slice Ao80 t342.length co80)) (fun _ hk => hk.1.1.1), by repeat (first | (with_reducible first | exact HB.out | apply below_alloc | apply pw_below_drewN | apply below_drew1 | refine below_set ?_ GE316.out | refine below_set ?_ GE317.out | refine below_set ?_ GE318.out | refine below_set ?_ GE319.out | refine below_set ?_ GE340.out | refine below_set ?_ GE346.out) | exact HB.out)⟩
        · replace c41 := Bool.eq_false_iff.mpr c41
          subst c41
          have H1 : ((wide_signed.f kj17 (!(a0_0 == a1_0)) t320).bind fun bt347 => ((wide_signed.f kj17 false t323).bind fun bt353 => (some (bt347.1, bt347.2.1, bt353.1, bt353.2.1, 0)))) = some (r1, r2, r3, r4, r5) := by rw [if_neg (show ¬ (false = true) by decide)] at H; exact H
          clear H
          have H := H1
          clear H1
          replace H := Option.bind_eq_some_iff.mp H
          obtain ⟨⟨t347, t348, t351⟩, A870, H⟩ := H
          replace H : ((wide_signed.f kj17 false t323).bind fun bt353 => (some (t347, t348, bt353.1, bt353.2.1, 0))) = some (r1, r2, r3, r4, r5) := H
          have A87 := Aside0.mk A870
          clear A870
          replace H := Option.bind_eq_some_iff.mp H
          obtain ⟨⟨t353, t354, t357⟩, A880, H⟩ := H
          replace H : (some (t347, t348, t353, t354, 0)) = some (r1, r2, r3, r4, r5) := H
          have A88 := Aside0.mk A880
          clear A880
          simp only [Option.some.injEq, Prod.mk.injEq] at H
          obtain ⟨rfl, rfl, rfl, rfl, rfl⟩ := H
          have hnb89 := NB316_317.out
          have hnc89 := NB317_316.out
          have hnb90 := NB316_318.out
          have hnc90 := NB318_316.out
          have hnb91 := NB316_319.out
          have hnc91 := NB319_316.out
          have hcz92_0 : wc.cell? ⟨gb316, 0, none⟩ = some (.bool a0_0) := (blk_cell BK316.out 0).trans rfl
          have hcz92_1 : wc.cell? ⟨gb316, 1, none⟩ = some (.slice A0_1 l0_1.length c0_1) := (blk_cell BK316.out 1).trans rfl
          have hfz92_0 := blk_frozen BK316.out 0
          have hfz92_1 := blk_frozen BK316.out 1
          have hnb93 := NB317_318.out
          have hnc93 := NB318_317.out
          have hnb94 := NB317_319.out
          have hnc94 := NB319_317.out
          have hcz95_0 : wc.cell? ⟨gb317, 0, none⟩ = some (.bool a1_0) := (blk_cell BK317.out 0).trans rfl
          have hcz95_1 : wc.cell? ⟨gb317, 1, none⟩ = some (.slice A1_1 l1_1.length c1_1) := (blk_cell BK317.out 1).trans rfl
          have hfz95_0 := blk_frozen BK317.out 0
          have hfz95_1 := blk_frozen BK317.out 1
          obtain ⟨Ao96, co96, eo96⟩ := Kd.V_slice HO_7.out
          subst eo96
          try go_wp2_with (first | ((with_reducible refine gate_callee (f := 53) rfl ?_); refine goesL_ (some 48) rfl rfl Tryz.func53 (by kernel_rfl) rfl #[.bool (!(a0_0 == a1_0)), .slice Ao96 t320.length co96] rfl zq5 ?_; (with_reducible refine (wide_signed.calls kj17 (!(a0_0 == a1_0)) (fun k_ => ((P0_1_ k_ ∨ w.heap.size ≤ k_) ∧ (k_ ≠ gb316 ∧ (k_ ≠ gb317 ∧ (k_ ≠ gb318 ∧ k_ ≠ gb319))))) _ _ t320 t347 t348 t351 _ ?side1 A87.out).mono ?_); (case side1 => exact HO_7.out); rintro e w97 ⟨v349, rfl, ho0, hb⟩; refine ⟨_, rfl, ?_⟩; have n0_ := Aside0.mk (Kd.V_below (zq0 HO_7.out) hb); have n1_ := Aside0.mk (Kd.V_below (zq0 HO_8.out) hb); have n2_ := Aside0.mk (Kd.V_below (zq0 HO_317001.out) hb); have n3_ := Aside0.mk (Kd.V_lower (Kd.V_mono (ok' := fun k_ => (P0_1_ k_ ∨ w.heap.size ≤ k_) ∧ k_ ≠ gb316 ∧ k_ ≠ gb317 ∧ k_ ≠ gb318 ∧ k_ ≠ gb319) ho0 (fun k_ hk_ => ⟨Or.elim hk_ (fun hs_ => hs_.1) (fun hn_ => (.inr (Nat.le_trans (below_size zq38) hn_))), Or.elim hk_ (fun hs_ => hs_.2.1) (fun hn_ => (Kd.freshB (g := gb316) (o := .cells #[.bool a0_0, .slice A0_1 l0_1.length c0_1] 33 (0, 0)) (zq8 BK316.out) k_ hn_)), Or.elim hk_ (fun hs_ => hs_.2.2.1) (fun hn_ => (Kd.freshB (g := gb317) (o := .cells #[.bool a1_0, .slice A1_1 l1_1.length c1_1] 33 (0, 0)) (zq8 BK317.out) k_ hn_)), Or.elim hk_ (fun hs_ => hs_.2.2.2.1) (fun hn_ => (Kd.freshB (g := gb318) (o := .cells #[.bool false, .slice none 0 0] 33 (0, 0)) (zq8 BK318.out) k_ hn_)), Or.elim hk_ (fun hs_ => hs_.2.2.2.2) (fun hn_ => (Kd.freshB (g := gb319) (o := .cells #[.bool false, .slice none 0 0] 33 (0, 0)) (zq8 BK319.out) k_ hn_))⟩)) (below_size zq38)); have n4_ := Aside0.mk (blk_below (g := gb316) (o := .cells #[.bool a0_0, .slice A0_1 l0_1.length c0_1] 33 (0, 0)) (zq8 BK316.out) hb); have n5_ := Aside0.mk (blk_below (g := gb317) (o := .cells #[.bool a1_0, .slice A1_1 l1_1.length c1_1] 33 (0, 0)) (zq8 BK317.out) hb); have n6_ := Aside0.mk (blk_below (g := gb318) (o := .cells #[.bool false, .slice none 0 0] 33 (0, 0)) (zq8 BK318.out) hb); have n7_ := Aside0.mk (blk_below (g := gb319) (o := .cells #[.bool false, .slice none 0 0] 33 (0, 0)) (zq8 BK319.out) hb); have n8_ := Aside0.mk (below_step zq38 hb); clear HO_7; clear HO_8; clear HO_317001; clear BK316; clear BK317; clear BK318; clear BK319; clear HB; have HO_7 := n0_; have HO_8 := n1_; have HO_317001 := n2_; have HO350 := n3_; have BK316 := n4_; have BK317 := n5_; have BK318 := n6_; have BK319 := n7_; have HB := n8_; clear n0_ n1_ n2_ n3_ n4_ n5_ n6_ n7_ n8_; (try clear hb); (try clear hb2); (try clear hk); (try clear hi); (try clear ho0)) | ((with_reducible refine gate_dst (N := 9) rfl ?_); (try (refine gate_guard (by rfl) ?_; dsimp only)); refine box_event ?hg (N := 9) ?hd (cs := #[.bool false, .slice none 0 0]) (t := 33) ?hr ?_; (case hd => rfl); (case hg => rfl); (case hr => first | (go_simp; done) | (go_simp; rfl)); intro gb352 hg w98 hbox hb; have n0_ := Aside0.mk (Kd.V_below (Kd.V_elderB (zq0 HO_7.out) gb352 (Nat.le_of_eq hg.symm)) hb); have n1_ := Aside0.mk (Kd.V_below (Kd.V_elderB (zq0 HO_8.out) gb352 (Nat.le_of_eq hg.symm)) hb); have n2_ := Aside0.mk (Kd.V_below (Kd.V_elderB (zq0 HO_317001.out) gb352 (Nat.le_of_eq hg.symm)) hb); have n3_ := Aside0.mk (Kd.V_below (Kd.V_elderB (zq0 HO350.out) gb352 (Nat.le_of_eq hg.symm)) hb); have n4_ := Aside0.mk (blk_below (g := gb316) (o := .cells #[.bool a0_0, .slice A0_1 l0_1.length c0_1] 33 (0, 0)) (zq8 BK316.out) hb); have n5_ := Aside0.mk (blk_below (g := gb317) (o := .cells #[.bool a1_0, .slice A1_1 l1_1.length c1_1] 33 (0, 0)) (zq8 BK317.out) hb); have n6_ := Aside0.mk (blk_below (g := gb318) (o := .cells #[.bool false, .slice none 0 0] 33 (0, 0)) (zq8 BK318.out) hb); have n7_ := Aside0.mk (blk_below (g := gb319) (o := .cells #[.bool false, .slice none 0 0] 33 (0, 0)) (zq8 BK319.out) hb); have n8_ := Aside0.mk (below_step zq38 hb); have n9_ := Aside0.mk (hbox); have n10_ := Aside0.mk ((by rw [hg]; exact (below_size zq38) : w.heap.size ≤ gb352)); have n11_ := Aside0.mk ((by rw [hg]; exact (below_size zq38) : w.heap.size ≤ gb352)); have n12_ := Aside0.mk ((by rw [hg]; exact Nat.ne_of_lt (blk_lt (g := gb316) (o := .cells #[.bool a0_0, .slice A0_1 l0_1.length c0_1] 33 (0, 0)) (zq8 BK316.out)) : gb316 ≠ gb352)); have n13_ := Aside0.mk ((by rw [hg]; exact Nat.ne_of_gt (blk_lt (g := gb316) (o := .cells #[.bool a0_0, .slice A0_1 l0_1.length c0_1] 33 (0, 0)) (zq8 BK316.out)) : gb352 ≠ gb316)); have n14_ := Aside0.mk ((by rw [hg]; exact Nat.ne_of_lt (blk_lt (g := gb317) (o := .cells #[.bool a1_0, .slice A1_1 l1_1.length c1_1] 33 (0, 0)) (zq8 BK317.out)) : gb317 ≠ gb352)); have n15_ := Aside0.mk ((by rw [hg]; exact Nat.ne_of_gt (blk_lt (g := gb317) (o := .cells #[.bool a1_0, .slice A1_1 l1_1.length c1_1] 33 (0, 0)) (zq8 BK317.out)) : gb352 ≠ gb317)); have n16_ := Aside0.mk ((by rw [hg]; exact Nat.ne_of_lt (blk_lt (g := gb318) (o := .cells #[.bool false, .slice none 0 0] 33 (0, 0)) (zq8 BK318.out)) : gb318 ≠ gb352)); have n17_ := Aside0.mk ((by rw [hg]; exact Nat.ne_of_gt (blk_lt (g := gb318) (o := .cells #[.bool false, .slice none 0 0] 33 (0, 0)) (zq8 BK318.out)) : gb352 ≠ gb318)); have n18_ := Aside0.mk ((by rw [hg]; exact Nat.ne_of_lt (blk_lt (g := gb319) (o := .cells #[.bool false, .slice none 0 0] 33 (0, 0)) (zq8 BK319.out)) : gb319 ≠ gb352)); have n19_ := Aside0.mk ((by rw [hg]; exact Nat.ne_of_gt (blk_lt (g := gb319) (o := .cells #[.bool false, .slice none 0 0] 33 (0, 0)) (zq8 BK319.out)) : gb352 ≠ gb319)); clear HO_7; clear HO_8; clear HO_317001; clear HO350; clear BK316; clear BK317; clear BK318; clear BK319; clear HB; have HO_7 := n0_; have HO_8 := n1_; have HO_317001 := n2_; have HO350 := n3_; have BK316 := n4_; have BK317 := n5_; have BK318 := n6_; have BK319 := n7_; have HB := n8_; have BK352 := n9_; have GW352 := n10_; have GE352 := n11_; have NB316_352 := n12_; have NB352_316 := n13_; have NB317_352 := n14_; have NB352_317 := n15_; have NB318_352 := n16_; have NB352_318 := n17_; have NB319_352 := n18_; have NB352_319 := n19_; clear n0_ n1_ n2_ n3_ n4_ n5_ n6_ n7_ n8_ n9_ n10_ n11_ n12_ n13_ n14_ n15_ n16_ n17_ n18_ n19_; clear hb hbox hg; have hnb99 := NB352_316.out; have hnc99 := NB316_352.out; have hnb100 := NB352_317.out; have hnc100 := NB317_352.out; have hnb101 := NB352_318.out; have hnc101 := NB318_352.out; have hnb102 := NB352_319.out; have hnc102 := NB319_352.out; have hcz103_0 : w98.cell? ⟨gb352, 0, none⟩ = some (.bool false) := (blk_cell BK352.out 0).trans rfl; have hcz103_1 : w98.cell? ⟨gb352, 1, none⟩ = some (.slice none 0 0) := (blk_cell BK352.out 1).trans rfl; have hfz103_0 := blk_frozen BK352.out 0; have hfz103_1 := blk_frozen BK352.out 1; obtain ⟨Ao104, co104, eo104⟩ := Kd.V_slice HO350.out; subst eo104) | ((with_reducible refine gate_store (t := 33) (p := 9) rfl ?_); refine store_event (t := 33) (p := 9) (v := ?vo_w105) (w1 := ((w98.setCell ⟨gb352, 0, none⟩ (.bool t347)).setCell ⟨gb352, 1, none⟩ (.slice Ao104 t348.length co104))) ?hg ?ho ?hn ?hr ?_; (case ho => rfl); (case hg => rfl); (case hn => rfl); (case hr => first | (go_simp; done) | (go_simp; rfl)); intro w105 hw; have n0_ : Aside0 (Kd.V (Kd.int .u32) 81 w105 w.heap.size (fun k_ => (P0_1_ k_ ∨ w.heap.size ≤ k_) ∧ k_ ≠ gb316 ∧ k_ ≠ gb317 ∧ k_ ≠ gb318 ∧ k_ ≠ gb319 ∧ k_ ≠ gb352) (.slice Ao96 t320.length co96) t320) := ⟨(zq41 HO_7.out)⟩; have n1_ : Aside0 (Kd.V (Kd.int .u32) 81 w105 w.heap.size (fun k_ => (P0_1_ k_ ∨ w.heap.size ≤ k_) ∧ k_ ≠ gb316 ∧ k_ ≠ gb317 ∧ k_ ≠ gb318 ∧ k_ ≠ gb319 ∧ k_ ≠ gb352) v324 t323) := ⟨(zq41 HO_8.out)⟩; have n2_ : Aside0 (Kd.V (Kd.int .u32) 81 w105 w.heap.size (fun k_ => (P0_1_ k_ ∨ w.heap.size ≤ k_) ∧ k_ ≠ gb316 ∧ k_ ≠ gb317 ∧ k_ ≠ gb318 ∧ k_ ≠ gb319 ∧ k_ ≠ gb352) (.slice A0_1 l0_1.length c0_1) l0_1) := ⟨(zq41 HO_317001.out)⟩; have n3_ : Aside0 (Kd.V (Kd.int .u32) 81 w105 w.heap.size (fun k_ => (P0_1_ k_ ∨ w.heap.size ≤ k_) ∧ k_ ≠ gb316 ∧ k_ ≠ gb317 ∧ k_ ≠ gb318 ∧ k_ ≠ gb319 ∧ k_ ≠ gb352) (.slice Ao104 t348.length co104) t348) := ⟨(zq41 HO350.out)⟩; have n4_ : Aside0 (w105.heap[gb316]? = some (.cells #[.bool a0_0, .slice A0_1 l0_1.length c0_1] 33 (0, 0))) := ⟨(by rw [hw]; exact (by (with_reducible repeat (first | refine blk_drewN ?_ _ | refine blk_drew ?_ | refine blk_alloc ?_ _)); refine blk_far ?_ NB316_352.out _; (with_reducible repeat (first | refine blk_drewN ?_ _ | refine blk_drew ?_ | refine blk_alloc ?_ _)); refine blk_far ?_ NB316_352.out _; (with_reducible repeat (first | refine blk_drewN ?_ _ | refine blk_drew ?_ | refine blk_alloc ?_ _)); exact BK316.out))⟩; have n5_ : Aside0 (w105.heap[gb317]? = some (.cells #[.bool a1_0, .slice A1_1 l1_1.length c1_1] 33 (0, 0))) := ⟨(by rw [hw]; exact (by (with_reducible repeat (first | refine blk_drewN ?_ _ | refine blk_drew ?_ | refine blk_alloc ?_ _)); refine blk_far ?_ NB317_352.out _; (with_reducible repeat (first | refine blk_drewN ?_ _ | refine blk_drew ?_ | refine blk_alloc ?_ _)); refine blk_far ?_ NB317_352.out _; (with_reducible repeat (first | refine blk_drewN ?_ _ | refine blk_drew ?_ | refine blk_alloc ?_ _)); exact BK317.out))⟩; have n6_ : Aside0 (w105.heap[gb318]? = some (.cells #[.bool false, .slice none 0 0] 33 (0, 0))) := ⟨(by rw [hw]; exact (by (with_reducible repeat (first | refine blk_drewN ?_ _ | refine blk_drew ?_ | refine blk_alloc ?_ _)); refine blk_far ?_ NB318_352.out _; (with_reducible repeat (first | refine blk_drewN ?_ _ | refine blk_drew ?_ | refine blk_alloc ?_ _)); refine blk_far ?_ NB318_352.out _; (with_reducible repeat (first | refine blk_drewN ?_ _ | refine blk_drew ?_ | refine blk_alloc ?_ _)); exact BK318.out))⟩; have n7_ : Aside0 (w105.heap[gb319]? = some (.cells #[.bool false, .slice none 0 0] 33 (0, 0))) := ⟨(by rw [hw]; exact (by (with_reducible repeat (first | refine blk_drewN ?_ _ | refine blk_drew ?_ | refine blk_alloc ?_ _)); refine blk_far ?_ NB319_352.out _; (with_reducible repeat (first | refine blk_drewN ?_ _ | refine blk_drew ?_ | refine blk_alloc ?_ _)); refine blk_far ?_ NB319_352.out _; (with_reducible repeat (first | refine blk_drewN ?_ _ | refine blk_drew ?_ | refine blk_alloc ?_ _)); exact BK319.out))⟩; have n8_ : Aside0 (w105.heap[gb352]? = some (.cells #[.bool t347, .slice Ao104 t348.length co104] 33 (0, 0))) := ⟨(by rw [hw]; exact (by (with_reducible repeat (first | refine blk_drewN ?_ _ | refine blk_drew ?_ | refine blk_alloc ?_ _)); refine blk_put (cs := #[.bool t347, .slice none 0 0]) ?_ 1 _ rfl; (with_reducible repeat (first | refine blk_drewN ?_ _ | refine blk_drew ?_ | refine blk_alloc ?_ _)); refine blk_put (cs := #[.bool false, .slice none 0 0]) ?_ 0 _ rfl; (with_reducible repeat (first | refine blk_drewN ?_ _ | refine blk_drew ?_ | refine blk_alloc ?_ _)); exact BK352.out))⟩; have n9_ : Aside0 (Below w.heap.size w w105) := ⟨(by rw [hw]; exact zq42)⟩; clear hw; clear HO_7; clear HO_8; clear HO_317001; clear HO350; clear BK316; clear BK317; clear BK318; clear BK319; clear BK352; clear HB; have HO_7 := n0_; have HO_8 := n1_; have HO_317001 := n2_; have HO350 := n3_; have BK316 := n4_; have BK317 := n5_; have BK318 := n6_; have BK319 := n7_; have BK352 := n8_; have HB := n9_; clear n0_ n1_ n2_ n3_ n4_ n5_ n6_ n7_ n8_ n9_; obtain ⟨Ao106, co106, eo106⟩ := Kd.V_slice HO_8.out; subst eo106) | ((with_reducible refine gate_callee (f := 53) rfl ?_); refine goesL_ (some 53) rfl rfl Tryz.func53 (by kernel_rfl) rfl #[.bool false, .slice Ao106 t323.length co106] rfl zq5 ?_; (with_reducible refine (wide_signed.calls kj17 false (fun k_ => ((P0_1_ k_ ∨ w.heap.size ≤ k_) ∧ (k_ ≠ gb316 ∧ (k_ ≠ gb317 ∧ (k_ ≠ gb318 ∧ (k_ ≠ gb319 ∧ k_ ≠ gb352)))))) _ _ t323 t353 t354 t357 _ ?side1 A88.out).mono ?_); (case side1 => exact HO_8.out); rintro e w107 ⟨v355, rfl, ho0, hb⟩; refine ⟨_, rfl, ?_⟩; have n0_ := Aside0.mk (Kd.V_below (zq0 HO_7.out) hb); have n1_ := Aside0.mk (Kd.V_below (zq0 HO_8.out) hb); have n2_ := Aside0.mk (Kd.V_below (zq0 HO_317001.out) hb); have n3_ := Aside0.mk (Kd.V_below (zq0 HO350.out) hb); have n4_ := Aside0.mk (Kd.V_lower (Kd.V_mono (ok' := fun k_ => (P0_1_ k_ ∨ w.heap.size ≤ k_) ∧ k_ ≠ gb316 ∧ k_ ≠ gb317 ∧ k_ ≠ gb318 ∧ k_ ≠ gb319 ∧ k_ ≠ gb352) ho0 (fun k_ hk_ => ⟨Or.elim hk_ (fun hs_ => hs_.1) (fun hn_ => (.inr (Nat.le_trans (below_size zq42) hn_))), Or.elim hk_ (fun hs_ => hs_.2.1) (fun hn_ => (Kd.freshB (g := gb316) (o := .cells #[.bool a0_0, .slice A0_1 l0_1.length c0_1] 33 (0, 0)) (zq8 BK316.out) k_ hn_)), Or.elim hk_ (fun hs_ => hs_.2.2.1) (fun hn_ => (Kd.freshB (g := gb317) (o := .cells #[.bool a1_0, .slice A1_1 l1_1.length c1_1] 33 (0, 0)) (zq8 BK317.out) k_ hn_)), Or.elim hk_ (fun hs_ => hs_.2.2.2.1) (fun hn_ => (Kd.freshB (g := gb318) (o := .cells #[.bool false, .slice none 0 0] 33 (0, 0)) (zq8 BK318.out) k_ hn_)), Or.elim hk_ (fun hs_ => hs_.2.2.2.2.1) (fun hn_ => (Kd.freshB (g := gb319) (o := .cells #[.bool false, .slice none 0 0] 33 (0, 0)) (zq8 BK319.out) k_ hn_)), Or.elim hk_ (fun hs_ => hs_.2.2.2.2.2) (fun hn_ => (Kd.freshB (g := gb352) (o := .cells #[.bool t347, .slice Ao104 t348.length co104] 33 (0, 0)) (zq8 BK352.out) k_ hn_))⟩)) (below_size zq42)); have n5_ := Aside0.mk (blk_below (g := gb316) (o := .cells #[.bool a0_0, .slice A0_1 l0_1.length c0_1] 33 (0, 0)) (zq8 BK316.out) hb); have n6_ := Aside0.mk (blk_below (g := gb317) (o := .cells #[.bool a1_0, .slice A1_1 l1_1.length c1_1] 33 (0, 0)) (zq8 BK317.out) hb); have n7_ := Aside0.mk (blk_below (g := gb318) (o := .cells #[.bool false, .slice none 0 0] 33 (0, 0)) (zq8 BK318.out) hb); have n8_ := Aside0.mk (blk_below (g := gb319) (o := .cells #[.bool false, .slice none 0 0] 33 (0, 0)) (zq8 BK319.out) hb); have n9_ := Aside0.mk (blk_below (g := gb352) (o := .cells #[.bool t347, .slice Ao104 t348.length co104] 33 (0, 0)) (zq8 BK352.out) hb); have n10_ := Aside0.mk (below_step zq42 hb); clear HO_7; clear HO_8; clear HO_317001; clear HO350; clear BK316; clear BK317; clear BK318; clear BK319; clear BK352; clear HB; have HO_7 := n0_; have HO_8 := n1_; have HO_317001 := n2_; have HO350 := n3_; have HO356 := n4_; have BK316 := n5_; have BK317 := n6_; have BK318 := n7_; have BK319 := n8_; have BK352 := n9_; have HB := n10_; clear n0_ n1_ n2_ n3_ n4_ n5_ n6_ n7_ n8_ n9_ n10_; (try clear hb); (try clear hb2); (try clear hk); (try clear hi); (try clear ho0)) | ((with_reducible refine gate_dst (N := 11) rfl ?_); (try (refine gate_guard (by rfl) ?_; dsimp only)); refine box_event ?hg (N := 11) ?hd (cs := #[.bool false, .slice none 0 0]) (t := 33) ?hr ?_; (case hd => rfl); (case hg => rfl); (case hr => first | (go_simp; done) | (go_simp; rfl)); intro gb358 hg w108 hbox hb; have n0_ := Aside0.mk (Kd.V_below (Kd.V_elderB (zq0 HO_7.out) gb358 (Nat.le_of_eq hg.symm)) hb); have n1_ := Aside0.mk (Kd.V_below (Kd.V_elderB (zq0 HO_8.out) gb358 (Nat.le_of_eq hg.symm)) hb); have n2_ := Aside0.mk (Kd.V_below (Kd.V_elderB (zq0 HO_317001.out) gb358 (Nat.le_of_eq hg.symm)) hb); have n3_ := Aside0.mk (Kd.V_below (Kd.V_elderB (zq0 HO350.out) gb358 (Nat.le_of_eq hg.symm)) hb); have n4_ := Aside0.mk (Kd.V_below (Kd.V_elderB (zq0 HO356.out) gb358 (Nat.le_of_eq hg.symm)) hb); have n5_ := Aside0.mk (blk_below (g := gb316) (o := .cells #[.bool a0_0, .slice A0_1 l0_1.length c0_1] 33 (0, 0)) (zq8 BK316.out) hb); have n6_ := Aside0.mk (blk_below (g := gb317) (o := .cells #[.bool a1_0, .slice A1_1 l1_1.length c1_1] 33 (0, 0)) (zq8 BK317.out) hb); have n7_ := Aside0.mk (blk_below (g := gb318) (o := .cells #[.bool false, .slice none 0 0] 33 (0, 0)) (zq8 BK318.out) hb); have n8_ := Aside0.mk (blk_below (g := gb319) (o := .cells #[.bool false, .slice none 0 0] 33 (0, 0)) (zq8 BK319.out) hb); have n9_ := Aside0.mk (blk_below (g := gb352) (o := .cells #[.bool t347, .slice Ao104 t348.length co104] 33 (0, 0)) (zq8 BK352.out) hb); have n10_ := Aside0.mk (below_step zq42 hb); have n11_ := Aside0.mk (hbox); have n12_ := Aside0.mk ((by rw [hg]; exact (below_size zq42) : w.heap.size ≤ gb358)); have n13_ := Aside0.mk ((by rw [hg]; exact (below_size zq42) : w.heap.size ≤ gb358)); have n14_ := Aside0.mk ((by rw [hg]; exact Nat.ne_of_lt (blk_lt (g := gb316) (o := .cells #[.bool a0_0, .slice A0_1 l0_1.length c0_1] 33 (0, 0)) (zq8 BK316.out)) : gb316 ≠ gb358)); have n15_ := Aside0.mk ((by rw [hg]; exact Nat.ne_of_gt (blk_lt (g := gb316) (o := .cells #[.bool a0_0, .slice A0_1 l0_1.length c0_1] 33 (0, 0)) (zq8 BK316.out)) : gb358 ≠ gb316)); have n16_ := Aside0.mk ((by rw [hg]; exact Nat.ne_of_lt (blk_lt (g := gb317) (o := .cells #[.bool a1_0, .slice A1_1 l1_1.length c1_1] 33 (0, 0)) (zq8 BK317.out)) : gb317 ≠ gb358)); have n17_ := Aside0.mk ((by rw [hg]; exact Nat.ne_of_gt (blk_lt (g := gb317) (o := .cells #[.bool a1_0, .slice A1_1 l1_1.length c1_1] 33 (0, 0)) (zq8 BK317.out)) : gb358 ≠ gb317)); have n18_ := Aside0.mk ((by rw [hg]; exact Nat.ne_of_lt (blk_lt (g := gb318) (o := .cells #[.bool false, .slice none 0 0] 33 (0, 0)) (zq8 BK318.out)) : gb318 ≠ gb358)); have n19_ := Aside0.mk ((by rw [hg]; exact Nat.ne_of_gt (blk_lt (g := gb318) (o := .cells #[.bool false, .slice none 0 0] 33 (0, 0)) (zq8 BK318.out)) : gb358 ≠ gb318)); have n20_ := Aside0.mk ((by rw [hg]; exact Nat.ne_of_lt (blk_lt (g := gb319) (o := .cells #[.bool false, .slice none 0 0] 33 (0, 0)) (zq8 BK319.out)) : gb319 ≠ gb358)); have n21_ := Aside0.mk ((by rw [hg]; exact Nat.ne_of_gt (blk_lt (g := gb319) (o := .cells #[.bool false, .slice none 0 0] 33 (0, 0)) (zq8 BK319.out)) : gb358 ≠ gb319)); have n22_ := Aside0.mk ((by rw [hg]; exact Nat.ne_of_lt (blk_lt (g := gb352) (o := .cells #[.bool t347, .slice Ao104 t348.length co104] 33 (0, 0)) (zq8 BK352.out)) : gb352 ≠ gb358)); have n23_ := Aside0.mk ((by rw [hg]; exact Nat.ne_of_gt (blk_lt (g := gb352) (o := .cells #[.bool t347, .slice Ao104 t348.length co104] 33 (0, 0)) (zq8 BK352.out)) : gb358 ≠ gb352)); clear HO_7; clear HO_8; clear HO_317001; clear HO350; clear HO356; clear BK316; clear BK317; clear BK318; clear BK319; clear BK352; clear HB; have HO_7 := n0_; have HO_8 := n1_; have HO_317001 := n2_; have HO350 := n3_; have HO356 := n4_; have BK316 := n5_; have BK317 := n6_; have BK318 := n7_; have BK319 := n8_; have BK352 := n9_; have HB := n10_; have BK358 := n11_; have GW358 := n12_; have GE358 := n13_; have NB316_358 := n14_; have NB358_316 := n15_; have NB317_358 := n16_; have NB358_317 := n17_; have NB318_358 := n18_; have NB358_318 := n19_; have NB319_358 := n20_; have NB358_319 := n21_; have NB352_358 := n22_; have NB358_352 := n23_; clear n0_ n1_ n2_ n3_ n4_ n5_ n6_ n7_ n8_ n9_ n10_ n11_ n12_ n13_ n14_ n15_ n16_ n17_ n18_ n19_ n20_ n21_ n22_ n23_; clear hb hbox hg; have hnb109 := NB358_316.out; have hnc109 := NB316_358.out; have hnb110 := NB358_317.out; have hnc110 := NB317_358.out; have hnb111 := NB358_318.out; have hnc111 := NB318_358.out; have hnb112 := NB358_319.out; have hnc112 := NB319_358.out; have hnb113 := NB358_352.out; have hnc113 := NB352_358.out; have hcz114_0 : w108.cell? ⟨gb358, 0, none⟩ = some (.bool false) := (blk_cell BK358.out 0).trans rfl; have hcz114_1 : w108.cell? ⟨gb358, 1, none⟩ = some (.slice none 0 0) := (blk_cell BK358.out 1).trans rfl; have hfz114_0 := blk_frozen BK358.out 0; have hfz114_1 := blk_frozen BK358.out 1; obtain ⟨Ao115, co115, eo115⟩ := Kd.V_slice HO356.out; subst eo115))
          have n0_ : Aside0 (Kd.V (Kd.int .u32) 81 ((w108.setCell ⟨gb358, 0, none⟩ (.bool t353)).setCell ⟨gb358, 1, none⟩ (.slice Ao115 t354.length co115)) w.heap.size (fun k_ => (P0_1_ k_ ∨ w.heap.size ≤ k_) ∧ k_ ≠ gb316 ∧ k_ ≠ gb317 ∧ k_ ≠ gb318 ∧ k_ ≠ gb319 ∧ k_ ≠ gb352 ∧ k_ ≠ gb358) (.slice Ao96 t320.length co96) t320) := ⟨by (with_reducible repeat (first | apply Kd.V_alloc | apply Kd.V_drewN | apply Kd.V_drew)); exact Kd.V_mono (Kd.V_far (p := ⟨gb358, 1, none⟩) (Kd.V_far (p := ⟨gb358, 0, none⟩) (Kd.V_mono HO_7.out (fun k_ hk => (⟨hk, hk.2⟩ : _ ∧ k_ ≠ gb358))) (fun _ hk => hk.2) (.bool t353)) (fun _ hk => hk.2) (.slice Ao115 t354.length co115)) (fun _ hk => ⟨hk.1.1.1, ⟨hk.1.1.2.1, ⟨hk.1.1.2.2.1, ⟨hk.1.1.2.2.2.1, ⟨hk.1.1.2.2.2.2.1, ⟨hk.1.1.2.2.2.2.2, hk.1.2⟩⟩⟩⟩⟩⟩)⟩
          have n1_ : Aside0 (Kd.V (Kd.int .u32) 81 ((w108.setCell ⟨gb358, 0, none⟩ (.bool t353)).setCell ⟨gb358, 1, none⟩ (.slice Ao115 t354.length co115)) w.heap.size (fun k_ => (P0_1_ k_ ∨ w.heap.size ≤ k_) ∧ k_ ≠ gb316 ∧ k_ ≠ gb317 ∧ k_ ≠ gb318 ∧ k_ ≠ gb319 ∧ k_ ≠ gb352 ∧ k_ ≠ gb358) (.slice Ao106 t323.length co106) t323) := ⟨by (with_reducible repeat (first | apply Kd.V_alloc | apply Kd.V_drewN | apply Kd.V_drew)); exact Kd.V_mono (Kd.V_far (p := ⟨gb358, 1, none⟩) (Kd.V_far (p := ⟨gb358, 0, none⟩) (Kd.V_mono HO_8.out (fun k_ hk => (⟨hk, hk.2⟩ : _ ∧ k_ ≠ gb358))) (fun _ hk => hk.2) (.bool t353)) (fun _ hk => hk.2) (.slice Ao115 t354.length co115)) (fun _ hk => ⟨hk.1.1.1, ⟨hk.1.1.2.1, ⟨hk.1.1.2.2.1, ⟨hk.1.1.2.2.2.1, ⟨hk.1.1.2.2.2.2.1, ⟨hk.1.1.2.2.2.2.2, hk.1.2⟩⟩⟩⟩⟩⟩)⟩
          have n2_ : Aside0 (Kd.V (Kd.int .u32) 81 ((w108.setCell ⟨gb358, 0, none⟩ (.bool t353)).setCell ⟨gb358, 1, none⟩ (.slice Ao115 t354.length co115)) w.heap.size (fun k_ => (P0_1_ k_ ∨ w.heap.size ≤ k_) ∧ k_ ≠ gb316 ∧ k_ ≠ gb317 ∧ k_ ≠ gb318 ∧ k_ ≠ gb319 ∧ k_ ≠ gb352 ∧ k_ ≠ gb358) (.slice A0_1 l0_1.length c0_1) l0_1) := ⟨by (with_reducible repeat (first | apply Kd.V_alloc | apply Kd.V_drewN | apply Kd.V_drew)); exact Kd.V_mono (Kd.V_far (p := ⟨gb358, 1, none⟩) (Kd.V_far (p := ⟨gb358, 0, none⟩) (Kd.V_mono HO_317001.out (fun k_ hk => (⟨hk, hk.2⟩ : _ ∧ k_ ≠ gb358))) (fun _ hk => hk.2) (.bool t353)) (fun _ hk => hk.2) (.slice Ao115 t354.length co115)) (fun _ hk => ⟨hk.1.1.1, ⟨hk.1.1.2.1, ⟨hk.1.1.2.2.1, ⟨hk.1.1.2.2.2.1, ⟨hk.1.1.2.2.2.2.1, ⟨hk.1.1.2.2.2.2.2, hk.1.2⟩⟩⟩⟩⟩⟩)⟩
          have n3_ : Aside0 (Kd.V (Kd.int .u32) 81 ((w108.setCell ⟨gb358, 0, none⟩ (.bool t353)).setCell ⟨gb358, 1, none⟩ (.slice Ao115 t354.length co115)) w.heap.size (fun k_ => (P0_1_ k_ ∨ w.heap.size ≤ k_) ∧ k_ ≠ gb316 ∧ k_ ≠ gb317 ∧ k_ ≠ gb318 ∧ k_ ≠ gb319 ∧ k_ ≠ gb352 ∧ k_ ≠ gb358) (.slice Ao104 t348.length co104) t348) := ⟨by (with_reducible repeat (first | apply Kd.V_alloc | apply Kd.V_drewN | apply Kd.V_drew)); exact Kd.V_mono (Kd.V_far (p := ⟨gb358, 1, none⟩) (Kd.V_far (p := ⟨gb358, 0, none⟩) (Kd.V_mono HO350.out (fun k_ hk => (⟨hk, hk.2⟩ : _ ∧ k_ ≠ gb358))) (fun _ hk => hk.2) (.bool t353)) (fun _ hk => hk.2) (.slice Ao115 t354.length co115)) (fun _ hk => ⟨hk.1.1.1, ⟨hk.1.1.2.1, ⟨hk.1.1.2.2.1, ⟨hk.1.1.2.2.2.1, ⟨hk.1.1.2.2.2.2.1, ⟨hk.1.1.2.2.2.2.2, hk.1.2⟩⟩⟩⟩⟩⟩)⟩
          have n4_ : Aside0 (Kd.V (Kd.int .u32) 81 ((w108.setCell ⟨gb358, 0, none⟩ (.bool t353)).setCell ⟨gb358, 1, none⟩ (.slice Ao115 t354.length co115)) w.heap.size (fun k_ => (P0_1_ k_ ∨ w.heap.size ≤ k_) ∧ k_ ≠ gb316 ∧ k_ ≠ gb317 ∧ k_ ≠ gb318 ∧ k_ ≠ gb319 ∧ k_ ≠ gb352 ∧ k_ ≠ gb358) (.slice Ao115 t354.length co115) t354) := ⟨by (with_reducible repeat (first | apply Kd.V_alloc | apply Kd.V_drewN | apply Kd.V_drew)); exact Kd.V_mono (Kd.V_far (p := ⟨gb358, 1, none⟩) (Kd.V_far (p := ⟨gb358, 0, none⟩) (Kd.V_mono HO356.out (fun k_ hk => (⟨hk, hk.2⟩ : _ ∧ k_ ≠ gb358))) (fun _ hk => hk.2) (.bool t353)) (fun _ hk => hk.2) (.slice Ao115 t354.length co115)) (fun _ hk => ⟨hk.1.1.1, ⟨hk.1.1.2.1, ⟨hk.1.1.2.2.1, ⟨hk.1.1.2.2.2.1, ⟨hk.1.1.2.2.2.2.1, ⟨hk.1.1.2.2.2.2.2, hk.1.2⟩⟩⟩⟩⟩⟩)⟩
          have n5_ : Aside0 (((w108.setCell ⟨gb358, 0, none⟩ (.bool t353)).setCell ⟨gb358, 1, none⟩ (.slice Ao115 t354.length co115)).heap[gb316]? = some (.cells #[.bool a0_0, .slice A0_1 l0_1.length c0_1] 33 (0, 0))) := ⟨by (with_reducible repeat (first | refine blk_drewN ?_ _ | refine blk_drew ?_ | refine blk_alloc ?_ _)); refine blk_far ?_ NB316_358.out _; (with_reducible repeat (first | refine blk_drewN ?_ _ | refine blk_drew ?_ | refine blk_alloc ?_ _)); refine blk_far ?_ NB316_358.out _; (with_reducible repeat (first | refine blk_drewN ?_ _ | refine blk_drew ?_ | refine blk_alloc ?_ _)); exact BK316.out⟩
          have n6_ : Aside0 (((w108.setCell ⟨gb358, 0, none⟩ (.bool t353)).setCell ⟨gb358, 1, none⟩ (.slice Ao115 t354.length co115)).heap[gb317]? = some (.cells #[.bool a1_0, .slice A1_1 l1_1.length c1_1] 33 (0, 0))) := ⟨by (with_reducible repeat (first | refine blk_drewN ?_ _ | refine blk_drew ?_ | refine blk_alloc ?_ _)); refine blk_far ?_ NB317_358.out _; (with_reducible repeat (first | refine blk_drewN ?_ _ | refine blk_drew ?_ | refine blk_alloc ?_ _)); refine blk_far ?_ NB317_358.out _; (with_reducible repeat (first | refine blk_drewN ?_ _ | refine blk_drew ?_ | refine blk_alloc ?_ _)); exact BK317.out⟩
          have n7_ : Aside0 (((w108.setCell ⟨gb358, 0, none⟩ (.bool t353)).setCell ⟨gb358, 1, none⟩ (.slice Ao115 t354.length co115)).heap[gb318]? = some (.cells #[.bool false, .slice none 0 0] 33 (0, 0))) := ⟨by (with_reducible repeat (first | refine blk_drewN ?_ _ | refine blk_drew ?_ | refine blk_alloc ?_ _)); refine blk_far ?_ NB318_358.out _; (with_reducible repeat (first | refine blk_drewN ?_ _ | refine blk_drew ?_ | refine blk_alloc ?_ _)); refine blk_far ?_ NB318_358.out _; (with_reducible repeat (first | refine blk_drewN ?_ _ | refine blk_drew ?_ | refine blk_alloc ?_ _)); exact BK318.out⟩
          have n8_ : Aside0 (((w108.setCell ⟨gb358, 0, none⟩ (.bool t353)).setCell ⟨gb358, 1, none⟩ (.slice Ao115 t354.length co115)).heap[gb319]? = some (.cells #[.bool false, .slice none 0 0] 33 (0, 0))) := ⟨by (with_reducible repeat (first | refine blk_drewN ?_ _ | refine blk_drew ?_ | refine blk_alloc ?_ _)); refine blk_far ?_ NB319_358.out _; (with_reducible repeat (first | refine blk_drewN ?_ _ | refine blk_drew ?_ | refine blk_alloc ?_ _)); refine blk_far ?_ NB319_358.out _; (with_reducible repeat (first | refine blk_drewN ?_ _ | refine blk_drew ?_ | refine blk_alloc ?_ _)); exact BK319.out⟩
          have n9_ : Aside0 (((w108.setCell ⟨gb358, 0, none⟩ (.bool t353)).setCell ⟨gb358, 1, none⟩ (.slice Ao115 t354.length co115)).heap[gb352]? = some (.cells #[.bool t347, .slice Ao104 t348.length co104] 33 (0, 0))) := ⟨by (with_reducible repeat (first | refine blk_drewN ?_ _ | refine blk_drew ?_ | refine blk_alloc ?_ _)); refine blk_far ?_ NB352_358.out _; (with_reducible repeat (first | refine blk_drewN ?_ _ | refine blk_drew ?_ | refine blk_alloc ?_ _)); refine blk_far ?_ NB352_358.out _; (with_reducible repeat (first | refine blk_drewN ?_ _ | refine blk_drew ?_ | refine blk_alloc ?_ _)); exact BK352.out⟩
          have n10_ : Aside0 (((w108.setCell ⟨gb358, 0, none⟩ (.bool t353)).setCell ⟨gb358, 1, none⟩ (.slice Ao115 t354.length co115)).heap[gb358]? = some (.cells #[.bool t353, .slice Ao115 t354.length co115] 33 (0, 0))) := ⟨by (with_reducible repeat (first | refine blk_drewN ?_ _ | refine blk_drew ?_ | refine blk_alloc ?_ _)); refine blk_put (cs := #[.bool t353, .slice none 0 0]) ?_ 1 _ rfl; (with_reducible repeat (first | refine blk_drewN ?_ _ | refine blk_drew ?_ | refine blk_alloc ?_ _)); refine blk_put (cs := #[.bool false, .slice none 0 0]) ?_ 0 _ rfl; (with_reducible repeat (first | refine blk_drewN ?_ _ | refine blk_drew ?_ | refine blk_alloc ?_ _)); exact BK358.out⟩
          have n11_ : Aside0 (Below w.heap.size w ((w108.setCell ⟨gb358, 0, none⟩ (.bool t353)).setCell ⟨gb358, 1, none⟩ (.slice Ao115 t354.length co115))) := ⟨by repeat (first | (with_reducible first | exact HB.out | apply below_alloc | apply pw_below_drewN | apply below_drew1 | refine below_set ?_ GE316.out | refine below_set ?_ GE317.out | refine below_set ?_ GE318.out | refine below_set ?_ GE319.out | refine below_set ?_ GE352.out | refine below_set ?_ GE358.out) | exact HB.out)⟩
          (try clear HO_7)
          (try clear HO_8)
          (try clear HO_317001)
          (try clear HO350)
          (try clear HO356)
          (try clear BK316)
          (try clear BK317)
          (try clear BK318)
          (try clear BK319)
          (try clear BK352)
          (try clear BK358)
          (try clear HB)
          generalize ((w108.setCell ⟨gb358, 0, none⟩ (.bool t353)).setCell ⟨gb358, 1, none⟩ (.slice Ao115 t354.length co115)) = w116 at n0_ n1_ n2_ n3_ n4_ n5_ n6_ n7_ n8_ n9_ n10_ n11_ ⊢
          have HO_7 := n0_
          have HO_8 := n1_
          have HO_317001 := n2_
          have HO350 := n3_
          have HO356 := n4_
          have BK316 := n5_
          have BK317 := n6_
          have BK318 := n7_
          have BK319 := n8_
          have BK352 := n9_
          have BK358 := n10_
          have HB := n11_
          clear n0_ n1_ n2_ n3_ n4_ n5_ n6_ n7_ n8_ n9_ n10_ n11_
          have n0_ := Aside0.mk (Kd.V_drew HO_7.out)
          have n1_ := Aside0.mk (Kd.V_drew HO_8.out)
          have n2_ := Aside0.mk (Kd.V_drew HO_317001.out)
          have n3_ := Aside0.mk (Kd.V_drew HO350.out)
          have n4_ := Aside0.mk (Kd.V_drew HO356.out)
          have n5_ := Aside0.mk (blk_drew BK316.out)
          have n6_ := Aside0.mk (blk_drew BK317.out)
          have n7_ := Aside0.mk (blk_drew BK318.out)
          have n8_ := Aside0.mk (blk_drew BK319.out)
          have n9_ := Aside0.mk (blk_drew BK352.out)
          have n10_ := Aside0.mk (blk_drew BK358.out)
          have n11_ := Aside0.mk (below_drew1 HB.out)
          clear HO_7
          clear HO_8
          clear HO_317001
          clear HO350
          clear HO356
          clear BK316
          clear BK317
          clear BK318
          clear BK319
          clear BK352
          clear BK358
          clear HB
          have HO_7 := n0_
          have HO_8 := n1_
          have HO_317001 := n2_
          have HO350 := n3_
          have HO356 := n4_
          have BK316 := n5_
          have BK317 := n6_
          have BK318 := n7_
          have BK319 := n8_
          have BK352 := n9_
          have BK358 := n10_
          have HB := n11_
          clear n0_ n1_ n2_ n3_ n4_ n5_ n6_ n7_ n8_ n9_ n10_ n11_
          refine start_ (n := 5) (S := fun w' => w'.cell? ⟨gb352, 0, none⟩ = some (.bool t347) ∧ w'.cell? ⟨gb352, 1, none⟩ = some (.slice Ao104 t348.length co104) ∧ w'.cell? ⟨gb358, 0, none⟩ = some (.bool t353) ∧ w'.cell? ⟨gb358, 1, none⟩ = some (.slice Ao115 t354.length co115)) (ds := []) #[false, false, false, false, false] (by kernel_rfl) rfl rfl ⟨(blk_cell BK352.out 0).trans rfl, (blk_cell BK352.out 1).trans rfl, (blk_cell BK358.out 0).trans rfl, (blk_cell BK358.out 1).trans rfl⟩ (fun hHeld => ?_)
          generalize w116.drew = w117 at HO_7 HO_8 HO_317001 HO350 HO356 BK316 BK317 BK318 BK319 BK352 BK358 HB hHeld ⊢
          refine take_ (i := 0) (N := some 56) (v := ?_) (a' := ?_) #[true, false, false, false, false] rfl rfl (by kernel_rfl) (fun _ _ _ h => h) (Or.inl ⟨by rfl, ?_⟩) hHeld ?_ ?_
          rotate_left
          · rintro w' ⟨s0, s1, s2, s3⟩
            go_simp
            with_reducible rfl
          rotate_left
          · simp only [Act.put, List.setIfInBounds_toArray, List.set_cons_zero, List.set_cons_succ, i64_w, i32_w]
            rfl
          refine take_ (i := 1) (N := some 57) (v := ?_) (a' := ?_) #[true, true, false, false, false] rfl rfl (by kernel_rfl) (fun _ _ _ h => h) (Or.inl ⟨by rfl, ?_⟩) hHeld ?_ ?_
          rotate_left
          · rintro w' ⟨s0, s1, s2, s3⟩
            go_simp
            with_reducible rfl
          rotate_left
          · simp only [Act.put, List.setIfInBounds_toArray, List.set_cons_zero, List.set_cons_succ, i64_w, i32_w]
            rfl
          refine one_ (i := 2) (N := none) #[true, true, true, false, false] rfl rfl (by kernel_rfl) (by decide) (fun K hK => ?_)
          have hs118 : w117.cell? ⟨gb318, 0, none⟩ = some (.bool false) := (blk_cell BK318.out 0).trans rfl
          have hfs118 := blk_frozen BK318.out 0
          have hns118_0 := NB316_318.out
          have hns118_1 := NB317_318.out
          have hns118_3 := NB319_318.out
          have hns118_4 := NB352_318.out
          have hns118_5 := NB358_318.out
          have hms118_0 := NB318_316.out
          have hms118_1 := NB318_317.out
          have hms118_3 := NB318_319.out
          have hms118_4 := NB318_352.out
          have hms118_5 := NB318_358.out
          have hs119 : w117.cell? ⟨gb318, 1, none⟩ = some (.slice none 0 0) := (blk_cell BK318.out 1).trans rfl
          have hfs119 := blk_frozen BK318.out 1
          have hns119_0 := NB316_318.out
          have hns119_1 := NB317_318.out
          have hns119_3 := NB319_318.out
          have hns119_4 := NB352_318.out
          have hns119_5 := NB358_318.out
          have hms119_0 := NB318_316.out
          have hms119_1 := NB318_317.out
          have hms119_3 := NB318_319.out
          have hms119_4 := NB318_352.out
          have hms119_5 := NB318_358.out
          refine skip_ (w1 := ?_) (by rfl) rfl ?_ ?_
          rotate_left
          · go_simp
            rfl
          refine hK.out _ _ ⟨((cell_far (p := ⟨gb318, _, none⟩) NB352_318.out _).trans (((cell_far (p := ⟨gb318, _, none⟩) NB352_318.out _).trans (hHeld.1)))), ((cell_far (p := ⟨gb318, _, none⟩) NB352_318.out _).trans (((cell_far (p := ⟨gb318, _, none⟩) NB352_318.out _).trans (hHeld.2.1)))), ((cell_far (p := ⟨gb318, _, none⟩) NB358_318.out _).trans (((cell_far (p := ⟨gb318, _, none⟩) NB358_318.out _).trans (hHeld.2.2.1)))), ((cell_far (p := ⟨gb318, _, none⟩) NB358_318.out _).trans (((cell_far (p := ⟨gb318, _, none⟩) NB358_318.out _).trans (hHeld.2.2.2))))⟩ (fun hHeld => ?_)
          clear hK K
          refine one_ (i := 3) (N := none) #[true, true, true, true, false] rfl rfl (by kernel_rfl) (by decide) (fun K hK => ?_)
          have hs120 : w117.cell? ⟨gb319, 0, none⟩ = some (.bool false) := (blk_cell BK319.out 0).trans rfl
          have hfs120 := blk_frozen BK319.out 0
          have hns120_0 := NB316_319.out
          have hns120_1 := NB317_319.out
          have hns120_2 := NB318_319.out
          have hns120_4 := NB352_319.out
          have hns120_5 := NB358_319.out
          have hms120_0 := NB319_316.out
          have hms120_1 := NB319_317.out
          have hms120_2 := NB319_318.out
          have hms120_4 := NB319_352.out
          have hms120_5 := NB319_358.out
          have hs121 : w117.cell? ⟨gb319, 1, none⟩ = some (.slice none 0 0) := (blk_cell BK319.out 1).trans rfl
          have hfs121 := blk_frozen BK319.out 1
          have hns121_0 := NB316_319.out
          have hns121_1 := NB317_319.out
          have hns121_2 := NB318_319.out
          have hns121_4 := NB352_319.out
          have hns121_5 := NB358_319.out
          have hms121_0 := NB319_316.out
          have hms121_1 := NB319_317.out
          have hms121_2 := NB319_318.out
          have hms121_4 := NB319_352.out
          have hms121_5 := NB319_358.out
          refine skip_ (w1 := ?_) (by rfl) rfl ?_ ?_
          rotate_left
          · go_simp
            rfl
          refine hK.out _ _ ⟨((cell_far (p := ⟨gb319, _, none⟩) NB352_319.out _).trans (((cell_far (p := ⟨gb319, _, none⟩) NB352_319.out _).trans (hHeld.1)))), ((cell_far (p := ⟨gb319, _, none⟩) NB352_319.out _).trans (((cell_far (p := ⟨gb319, _, none⟩) NB352_319.out _).trans (hHeld.2.1)))), ((cell_far (p := ⟨gb319, _, none⟩) NB358_319.out _).trans (((cell_far (p := ⟨gb319, _, none⟩) NB358_319.out _).trans (hHeld.2.2.1)))), ((cell_far (p := ⟨gb319, _, none⟩) NB358_319.out _).trans (((cell_far (p := ⟨gb319, _, none⟩) NB358_319.out _).trans (hHeld.2.2.2))))⟩ (fun hHeld => ?_)
          clear hK K
          refine pure_ (i := 4) (N := some 6) (v := ?_) (a' := ?_) #[true, true, true, true, true] rfl rfl (by kernel_rfl) (fun _ _ _ h => h) (Or.inl ⟨by rfl, ?_⟩) ?_ ?_
          rotate_left
          · intro w'
            go_simp
            with_reducible rfl
          rotate_left
          · simp only [Act.put, List.setIfInBounds_toArray, List.set_cons_zero, List.set_cons_succ, i64_w, i32_w]
            rfl
          refine done_ (by kernel_rfl) ?_
          try go_wp2
          refine bodyPost_ret (results_list (rs := [.cell 4 33, .cell 5 33, .tmp 6]) rfl (by simp) (.cell gb318 33 #[.bool t347, .slice Ao104 t348.length co104] (0, 0) _ rfl (by (with_reducible repeat (first | refine blk_drewN ?_ _ | refine blk_drew ?_ | refine blk_alloc ?_ _)); refine blk_far ?_ NB318_319.out _; (with_reducible repeat (first | refine blk_drewN ?_ _ | refine blk_drew ?_ | refine blk_alloc ?_ _)); refine blk_far ?_ NB318_319.out _; (with_reducible repeat (first | refine blk_drewN ?_ _ | refine blk_drew ?_ | refine blk_alloc ?_ _)); refine blk_put (cs := #[.bool t347, .slice none 0 0]) ?_ 1 _ rfl; (with_reducible repeat (first | refine blk_drewN ?_ _ | refine blk_drew ?_ | refine blk_alloc ?_ _)); refine blk_put (cs := #[.bool false, .slice none 0 0]) ?_ 0 _ rfl; (with_reducible repeat (first | refine blk_drewN ?_ _ | refine blk_drew ?_ | refine blk_alloc ?_ _)); exact BK318.out) Tryz.underlying33 rfl (by kernel_rfl) (.cell gb319 33 #[.bool t353, .slice Ao115 t354.length co115] (0, 0) _ rfl (by (with_reducible repeat (first | refine blk_drewN ?_ _ | refine blk_drew ?_ | refine blk_alloc ?_ _)); refine blk_put (cs := #[.bool t353, .slice none 0 0]) ?_ 1 _ rfl; (with_reducible repeat (first | refine blk_drewN ?_ _ | refine blk_drew ?_ | refine blk_alloc ?_ _)); refine blk_put (cs := #[.bool false, .slice none 0 0]) ?_ 0 _ rfl; (with_reducible repeat (first | refine blk_drewN ?_ _ | refine blk_drew ?_ | refine blk_alloc ?_ _)); refine blk_far ?_ NB319_318.out _; (with_reducible repeat (first | refine blk_drewN ?_ _ | refine blk_drew ?_ | refine blk_alloc ?_ _)); refine blk_far ?_ NB319_318.out _; (with_reducible repeat (first | refine blk_drewN ?_ _ | refine blk_drew ?_ | refine blk_alloc ?_ _)); exact BK319.out) Tryz.underlying33 rfl (by kernel_rfl) (.tmp .nil)))) rfl ?_
          exact ⟨_, _, by first | rfl | (simp [errW_none, errW_some] <;> rfl) | (simp [*, errW_none, errW_some] <;> rfl), by (with_reducible repeat (first | apply Kd.V_alloc | apply Kd.V_drewN | apply Kd.V_drew)); exact Kd.V_mono (Kd.V_far (p := ⟨gb319, 1, none⟩) (Kd.V_far (p := ⟨gb319, 0, none⟩) (Kd.V_far (p := ⟨gb318, 1, none⟩) (Kd.V_far (p := ⟨gb318, 0, none⟩) (Kd.V_mono (Kd.V_mono HO350.out (fun k_ hk => (⟨hk, hk.2.2.2.1⟩ : _ ∧ k_ ≠ gb318))) (fun k_ hk => (⟨hk, hk.1.2.2.2.2.1⟩ : _ ∧ k_ ≠ gb319))) (fun _ hk => hk.1.2) (.bool t347)) (fun _ hk => hk.1.2) (.slice Ao104 t348.length co104)) (fun _ hk => hk.2) (.bool t353)) (fun _ hk => hk.2) (.slice Ao115 t354.length co115)) (fun _ hk => hk.1.1.1), by (with_reducible repeat (first | apply Kd.V_alloc | apply Kd.V_drewN | apply Kd.V_drew)); exact Kd.V_mono (Kd.V_far (p := ⟨gb319, 1, none⟩) (Kd.V_far (p := ⟨gb319, 0, none⟩) (Kd.V_far (p := ⟨gb318, 1, none⟩) (Kd.V_far (p := ⟨gb318, 0, none⟩) (Kd.V_mono (Kd.V_mono HO356.out (fun k_ hk => (⟨hk, hk.2.2.2.1⟩ : _ ∧ k_ ≠ gb318))) (fun k_ hk => (⟨hk, hk.1.2.2.2.2.1⟩ : _ ∧ k_ ≠ gb319))) (fun _ hk => hk.1.2) (.bool t347)) (fun _ hk => hk.1.2) (.slice Ao104 t348.length co104)) (fun _ hk => hk.2) (.bool t353)) (fun _ hk => hk.2) (.slice Ao115 t354.length co115)) (fun _ hk => hk.1.1.1), by repeat (first | (with_reducible first | exact HB.out | apply below_alloc | apply pw_below_drewN | apply below_drew1 | refine below_set ?_ GE316.out | refine below_set ?_ GE317.out | refine below_set ?_ GE318.out | refine below_set ?_ GE319.out | refine below_set ?_ GE352.out | refine below_set ?_ GE358.out) | exact HB.out)⟩

end Go.Proofs.YtlceokefdihdkaaGreatDoor.X
