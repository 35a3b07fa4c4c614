-- Written by a program of this session (xprint) out of the translation: Lean checks it.
import Derived.Test.YtlceokefdihdkaaGreatDoorXx0
import Derived.Test.YtlceokefdihdkaaGreatDoorXx6
import Derived.Test.YtlceokefdihdkaaGreatDoorXx8
import Derived.Test.YtlceokefdihdkaaGreatDoorExa
import Derived.Test.YtlceokefdihdkaaGreatDoorExc
import Derived.Test.YtlceokefdihdkaaGreatDoorExn
namespace Go.Proofs.YtlceokefdihdkaaGreatDoor.X
open Go.RowKit Go.Proofs.YtlceokefdihdkaaGreatDoorW.PrintWords Go.Proofs.YtlceokefdihdkaaGreatDoorW.PrintLast Go.Proofs.YtlceokefdihdkaaGreatDoorW.PrintMore
attribute [local go_sem] max2_int min2_int max_two min_two max_three min_three max_four min_four   -- for this text's walks alone
set_option linter.unusedVariables false
set_option linter.unusedSimpArgs false

/-! ### wide_Add: function 32 -/
def wide_Add.f (k : Nat) (a0_0 : Bool) (l0_1 : List Int) (a1_0 : Bool) (l1_1 : List Int) : Option (Bool × List Int × Int) := if (a0_0 == a1_0) = true then ((wide_sum.f l0_1 l1_1).bind fun t450 => ((wide_signed.f k a0_0 t450).bind fun bt453 => (some (bt453.1, bt453.2.1, bt453.2.2)))) else ((wide_compare.f k l0_1 l1_1).bind fun t458 => (if t458 < 0 then ((wide_difference.f l1_1 l0_1).bind fun t459 => ((wide_signed.f k a1_0 t459).bind fun bt462 => (some (bt462.1, bt462.2.1, bt462.2.2)))) else ((wide_difference.f l0_1 l1_1).bind fun t467 => ((wide_signed.f k a0_0 t467).bind fun bt470 => (some (bt470.1, bt470.2.1, bt470.2.2))))))
theorem wide_Add.mono : ∀ a0 a1 a2 a3 k, LeO (wide_Add.f k a0 a1 a2 a3) (wide_Add.f (k + 1) a0 a1 a2 a3) := by
 intro a0 a1 a2 a3 k
 unfold wide_Add.f
 repeat' first
   | (with_reducible exact wide_compare.mono _ _ _)
   | (with_reducible exact wide_signed.mono _ _ _)
   | (with_reducible exact LeO.refl _)
   | (with_reducible exact LeO.none _)
   | (with_reducible refine LeO.ite ?_ ?_)
   | (with_reducible refine LeO.bind ?_ (fun _ => ?_))
   | exact wide_compare.mono _ _ _
   | exact wide_signed.mono _ _ _
   | exact LeO.none _
   | refine LeO.ite ?_ ?_
   | refine LeO.bind ?_ (fun _ => ?_)
def wide_Add.T2 : Bool × List (List Nat × List Nat) := (true, [([], []), ([0], [0]), ([], []), ([2], [2]), ([], []), ([4], [4]), ([3, 5], [3, 5]), ([1, 6, 6], [1, 6]), ([7], [7]), ([7], [7]), ([8, 7, 0, 1, 2, 3, 4, 5, 6, 7, 8, 9], [8]), ([9, 10, 0, 1, 2, 3, 4, 5, 6, 7, 8, 9, 10], [9])])
def wide_Add.B2 : List Nat := [0, 1, 0, 4, 0, 16, 60, 127, 255, 255, 1023, 2047]
theorem wide_Add.tab2 : rtab .any (opsOf Tryz.f32 2) = wide_Add.T2 := by kernel_rfl
theorem wide_Add.bits2 : waitsOk wide_Add.T2.2 wide_Add.B2 = true := by kernel_rfl
def wide_Add.T5 : Bool × List (List Nat × List Nat) := (true, [([], []), ([0], [0]), ([], []), ([2], [2]), ([], []), ([4], [4]), ([3, 5], [3, 5]), ([1, 6, 6], [1, 6]), ([7], [7]), ([7], [7]), ([8, 7, 0, 1, 2, 3, 4, 5, 6, 7, 8, 9], [8]), ([9, 10, 0, 1, 2, 3, 4, 5, 6, 7, 8, 9, 10], [9])])
def wide_Add.B5 : List Nat := [0, 1, 0, 4, 0, 16, 60, 127, 255, 255, 1023, 2047]
theorem wide_Add.tab5 : rtab .any (opsOf Tryz.f32 5) = wide_Add.T5 := by kernel_rfl
theorem wide_Add.bits5 : waitsOk wide_Add.T5.2 wide_Add.B5 = true := by kernel_rfl
set_option maxHeartbeats 8000000 in
set_option maxRecDepth 100000 in
theorem wide_Add.calls (k : Nat) (a0_0 : Bool) (A0_1 : Option Addr) (c0_1 : Nat) (l0_1 : List Int) (a1_0 : Bool) (A1_1 : Option Addr) (c1_1 : Nat) (l1_1 : List Int) (r1 : Bool) (r2 : List Int) (r3 : Int) (w : World) (hr0_1 : Kd.C (Kd.int .u32) w A0_1 l0_1.length l0_1) (hc0_1 : l0_1.length ≤ c0_1) (hr1_1 : Kd.C (Kd.int .u32) w A1_1 l1_1.length l1_1) (hc1_1 : l1_1.length ≤ c1_1) (h : wide_Add.f k a0_0 l0_1 a1_0 l1_1 = some (r1, r2, r3)) :
  Calls Tryz.prog 32 #[.agg #[.bool a0_0, .slice A0_1 l0_1.length c0_1], .agg #[.bool a1_0, .slice A1_1 l1_1.length c1_1]] w fun e w' => ∃ v1_ : Value, e = .returned (.tuple #[.agg #[.bool r1, v1_], .int .i64 r3]) ∧ Kd.V (Kd.int .u32) 81 w' w.heap.size (fun k_ => (w.heap.size ≤ k_)) v1_ r2 ∧ Below w.heap.size w w' := by
 have hu33 := Tryz.underlying33
 have HR0_1 := am_ hr0_1
 have HC0_1 := am_ hc0_1
 clear hr0_1 hc0_1
 have HR1_1 := am_ hr1_1
 have HC1_1 := am_ hc1_1
 clear hr1_1 hc1_1
 have HB := am_ (Below.refl w.heap.size w)
 have H : (if (a0_0 == a1_0) = true then ((wide_sum.f l0_1 l1_1).bind fun t450 => ((wide_signed.f k a0_0 t450).bind fun bt453 => (some (bt453.1, bt453.2.1, bt453.2.2)))) else ((wide_compare.f k l0_1 l1_1).bind fun t458 => (if t458 < 0 then ((wide_difference.f l1_1 l0_1).bind fun t459 => ((wide_signed.f k a1_0 t459).bind fun bt462 => (some (bt462.1, bt462.2.1, bt462.2.2)))) else ((wide_difference.f l0_1 l1_1).bind fun t467 => ((wide_signed.f k a0_0 t467).bind fun bt470 => (some (bt470.1, bt470.2.1, bt470.2.2))))))) = some (r1, r2, r3) := h
 clear h
 by_cases c3 : (a0_0 == a1_0) = true
 ·rw [if_pos c3] at H
  have c3b0 : (a0_0 == a1_0) = true := c3
  (try (have c3b1 : decide (a0_0 = a1_0) = true := by simpa using c3))
  (try (have c3b2 : (a0_0 == a1_0) = true := by simpa using c3))
  clear c3
  replace H := Option.bind_eq_some_iff.mp H
  obtain ⟨t450, A40, H⟩ := H
  replace H : ((wide_signed.f k a0_0 t450).bind fun bt453 => (some (bt453.1, bt453.2.1, bt453.2.2))) = some (r1, r2, r3) := H
  have A4 := am_ A40
  clear A40
  replace H := Option.bind_eq_some_iff.mp H
  obtain ⟨⟨t453, t454, t457⟩, A50, H⟩ := H
  replace H : (some (t453, t454, t457)) = some (r1, r2, r3) := H
  have A5 := am_ A50
  clear A50
  simp only [Option.some.injEq, Prod.mk.injEq] at H
  obtain ⟨rfl, rfl, rfl⟩ := H
  go_enter Tryz.func32, Tryz.ntmps32
  try go_wp2_with (first | ((with_reducible refine gate_dst (N := 2) rfl ?_); refine box_event ?hg (N := 2) ?hd (cs := #[.bool a0_0, .slice A0_1 l0_1.length c0_1]) (t := 33) ?hr ?_; (case hd => rfl); (case hg => rfl); (case hr => exact zq0); intro gb447 hg w6 hbox hb; have n0_ := am_ (below_step zq2 hb); have n1_ := am_ (hbox); have n2_ := am_ ((by rw [hg]; exact (below_size zq2) : w.heap.size ≤ gb447)); clear HB; have HB := n0_; have BK447 := n1_; have GE447 := n2_; clear n0_ n1_ n2_; clear hb hbox hg) | ((with_reducible refine gate_dst (N := 3) rfl ?_); refine box_event ?hg (N := 3) ?hd (cs := #[.bool a1_0, .slice A1_1 l1_1.length c1_1]) (t := 33) ?hr ?_; (case hd => rfl); (case hg => rfl); (case hr => exact zq0); intro gb448 hg w7 hbox hb; have n0_ := am_ (blk_below (g := gb447) (o := .cells #[.bool a0_0, .slice A0_1 l0_1.length c0_1] 33 (0, 0)) (zq9 BK447.out) hb); have n1_ := am_ (below_step zq85 hb); have n2_ := am_ (hbox); have n3_ := am_ ((by rw [hg]; exact (below_size zq85) : w.heap.size ≤ gb448)); have n4_ := am_ ((by rw [hg]; exact Nat.ne_of_lt (blk_lt (g := gb447) (zq9 BK447.out)) : gb447 ≠ gb448)); have n5_ := am_ ((by rw [hg]; exact Nat.ne_of_gt (blk_lt (g := gb447) (zq9 BK447.out)) : gb448 ≠ gb447)); clear BK447 HB; have BK447 := n0_; have HB := n1_; have BK448 := n2_; have GE448 := n3_; have NB447_448 := n4_; have NB448_447 := n5_; clear n0_ n1_ n2_ n3_ n4_ n5_; clear hb hbox hg) | ((with_reducible refine gate_dst (N := 4) rfl ?_); refine box_event ?hg (N := 4) ?hd (cs := #[.bool false, .slice none 0 0]) (t := 33) ?hr ?_; (case hd => rfl); (case hg => rfl); (case hr => exact zq0); intro gb449 hg w8 hbox hb; have n0_ := am_ (blk_below (g := gb447) (o := .cells #[.bool a0_0, .slice A0_1 l0_1.length c0_1] 33 (0, 0)) (zq9 BK447.out) hb); have n1_ := am_ (blk_below (g := gb448) (o := .cells #[.bool a1_0, .slice A1_1 l1_1.length c1_1] 33 (0, 0)) (zq9 BK448.out) hb); have n2_ := am_ (below_step zq86 hb); have n3_ := am_ (hbox); have n4_ := am_ ((by rw [hg]; exact (below_size zq86) : w.heap.size ≤ gb449)); have n5_ := am_ ((by rw [hg]; exact Nat.ne_of_lt (blk_lt (g := gb447) (zq9 BK447.out)) : gb447 ≠ gb449)); have n6_ := am_ ((by rw [hg]; exact Nat.ne_of_gt (blk_lt (g := gb447) (zq9 BK447.out)) : gb449 ≠ gb447)); have n7_ := am_ ((by rw [hg]; exact Nat.ne_of_lt (blk_lt (g := gb448) (zq9 BK448.out)) : gb448 ≠ gb449)); have n8_ := am_ ((by rw [hg]; exact Nat.ne_of_gt (blk_lt (g := gb448) (zq9 BK448.out)) : gb449 ≠ gb448)); clear BK447 BK448 HB; have BK447 := n0_; have BK448 := n1_; have HB := n2_; have BK449 := n3_; have GE449 := n4_; have NB447_449 := n5_; have NB449_447 := n6_; have NB448_449 := n7_; have NB449_448 := n8_; clear n0_ n1_ n2_ n3_ n4_ n5_ n6_ n7_ n8_; clear hb hbox hg; have hnb9 := NB447_448.out; have hnc9 := NB448_447.out; have hnb10 := NB447_449.out; have hnc10 := NB449_447.out; have hcz11_0 : w8.cell? ⟨gb447, 0, none⟩ = some (.bool a0_0) := (blk_cell BK447.out 0).trans rfl; have hcz11_1 : w8.cell? ⟨gb447, 1, none⟩ = some (.slice A0_1 l0_1.length c0_1) := (blk_cell BK447.out 1).trans rfl; have hfz11_0 := blk_frozen BK447.out 0; have hfz11_1 := blk_frozen BK447.out 1; have hnb12 := NB448_449.out; have hnc12 := NB449_448.out; have hcz13_0 : w8.cell? ⟨gb448, 0, none⟩ = some (.bool a1_0) := (blk_cell BK448.out 0).trans rfl; have hcz13_1 : w8.cell? ⟨gb448, 1, none⟩ = some (.slice A1_1 l1_1.length c1_1) := (blk_cell BK448.out 1).trans rfl; have hfz13_0 := blk_frozen BK448.out 0; have hfz13_1 := blk_frozen BK448.out 1))
  replace BK447 := am_ (blk_drew BK447.out); replace BK448 := am_ (blk_drew BK448.out); replace BK449 := am_ (blk_drew BK449.out); replace HB := am_ (below_drew1 HB.out)
  refine start_ (n := 12) (S := fun w' => w'.cell? ⟨gb447, 0, none⟩ = some (.bool a0_0) ∧ w'.cell? ⟨gb447, 1, none⟩ = some (.slice A0_1 l0_1.length c0_1) ∧ w'.cell? ⟨gb448, 0, none⟩ = some (.bool a1_0) ∧ w'.cell? ⟨gb448, 1, none⟩ = some (.slice A1_1 l1_1.length c1_1)) (ds := []) #[false, false, false, false, false, false, false, false, false, false, false, false] (by kernel_rfl) rfl rfl ⟨(blk_cell BK447.out 0).trans rfl, (blk_cell BK447.out 1).trans rfl, (blk_cell BK448.out 0).trans rfl, (blk_cell BK448.out 1).trans rfl⟩ (fun hHeld => ?_); refine with_tabW wide_Add.tab2 wide_Add.bits2 (fun HT_ HW_ => ?_)
  generalize w8.drew = w14 at BK447 BK448 BK449 HB hHeld ⊢
  refine pure_ (i := 0) (N := some 11) (v := ?_) (a' := ?_) #[true, false, false, false, false, false, false, false, false, false, false, false] rfl rfl (any_of HT_.out (by kernel_rfl)) (fun _ _ _ h => h) (Or.inl ⟨by rfl, ?_⟩) ?_ ?_
  rotate_left
  ·intro w'
   go_simp
   with_reducible rfl
  rotate_left
  ·exact za_
  refine pure_ (i := 2) (N := some 13) (v := ?_) (a' := ?_) #[true, false, true, false, false, false, false, false, false, false, false, false] rfl rfl (any_of HT_.out (by kernel_rfl)) (fun _ _ _ h => h) (Or.inl ⟨by rfl, ?_⟩) ?_ ?_
  rotate_left
  ·intro w'
   go_simp
   with_reducible rfl
  rotate_left
  ·exact za_
  refine pure_ (i := 4) (N := some 15) (v := ?_) (a' := ?_) #[true, false, true, false, true, false, false, false, false, false, false, false] rfl rfl (any_of HT_.out (by kernel_rfl)) (fun _ _ _ h => h) (Or.inl ⟨by rfl, ?_⟩) ?_ ?_
  rotate_left
  ·intro w'
   go_simp
   with_reducible rfl
  rotate_left
  ·exact za_
  refine take_ (i := 1) (N := some 12) (v := ?_) (a' := ?_) #[true, true, true, false, true, false, false, false, false, false, false, false] rfl rfl (take_ofW HT_.out HW_.out (by kernel_rfl)) (fun _ _ _ h => h) (Or.inl ⟨by rfl, ?_⟩) hHeld ?_ ?_
  rotate_left
  ·rintro w' ⟨s0, s1, s2, s3⟩
   go_simp
   with_reducible rfl
  rotate_left
  ·exact za_
  refine take_ (i := 3) (N := some 14) (v := ?_) (a' := ?_) #[true, true, true, true, true, false, false, false, false, false, false, false] rfl rfl (take_ofW HT_.out HW_.out (by kernel_rfl)) (fun _ _ _ h => h) (Or.inl ⟨by rfl, ?_⟩) hHeld ?_ ?_
  rotate_left
  ·rintro w' ⟨s0, s1, s2, s3⟩
   go_simp
   with_reducible rfl
  rotate_left
  ·exact za_
  refine take_ (i := 5) (N := some 16) (v := ?_) (a' := ?_) #[true, true, true, true, true, true, false, false, false, false, false, false] rfl rfl (take_ofW HT_.out HW_.out (by kernel_rfl)) (fun _ _ _ h => h) (Or.inl ⟨by rfl, ?_⟩) hHeld ?_ ?_
  rotate_left
  ·rintro w' ⟨s0, s1, s2, s3⟩
   go_simp
   with_reducible rfl
  rotate_left
  ·exact za_
  refine one_ (i := 6) (N := some 17) #[true, true, true, true, true, true, true, false, false, false, false, false] rfl rfl (one_of HT_.out (by kernel_rfl)) (by decide) (fun K hK => ?_)
  refine goes_ Tryz.func51 (by kernel_rfl) rfl #[.slice A0_1 l0_1.length c0_1, .slice A1_1 l1_1.length c1_1] (by rfl) rfl rfl zq6 ?_
  with_reducible refine (wide_sum.calls _ _ l0_1 _ _ l1_1 t450 _ ?side1 ?side2 ?side3 ?side4 A4.out).mono ?_
  (case side1 => exact zq24)
  (case side2 => exact HC0_1.out)
  (case side3 => exact zq25)
  (case side4 => exact HC1_1.out)
  rintro e w15 ⟨v451, rfl, ho0, hb⟩
  refine ⟨_, rfl, ?_⟩
  have HO452 := am_ (Kd.R_lower (Kd.R_newM (M := fun k_ => (w.heap.size ≤ k_)) ho0 (below_size zq87) (fun k_ h_ => h_)) (below_size zq87)); replace BK447 := am_ (blk_below (g := gb447) (o := .cells #[.bool a0_0, .slice A0_1 l0_1.length c0_1] 33 (0, 0)) (zq9 BK447.out) hb); replace BK448 := am_ (blk_below (g := gb448) (o := .cells #[.bool a1_0, .slice A1_1 l1_1.length c1_1] 33 (0, 0)) (zq9 BK448.out) hb); replace BK449 := am_ (blk_below (g := gb449) (o := .cells #[.bool false, .slice none 0 0] 33 (0, 0)) (zq9 BK449.out) hb); replace HB := am_ (below_step zq87 hb); (try clear hb); (try clear ho0)
  obtain ⟨Ao16, co16, eo16⟩ := Kd.R_slice HO452.out
  (first | subst eo16 | (injection eo16 with f1_ f2_ f3_; have f4_ := f1_.symm; have f5_ := f3_.symm; clear f1_ f2_ f3_; subst f4_; subst f5_))
  refine hK.out _ _ ⟨(blk_cell BK447.out 0).trans rfl, (blk_cell BK447.out 1).trans rfl, (blk_cell BK448.out 0).trans rfl, (blk_cell BK448.out 1).trans rfl⟩ (fun hHeld => ?_)
  clear hK K
  refine norm_ (a' := ?_) ?_ ?_
  rotate_left
  ·show Act.put _ (some 17) _ = _
   exact za_
  refine one_ (i := 7) (N := some 18) #[true, true, true, true, true, true, true, true, false, false, false, false] rfl rfl (one_of HT_.out (by kernel_rfl)) (by decide) (fun K hK => ?_)
  refine goes_ Tryz.func53 (by kernel_rfl) rfl #[.bool a0_0, .slice Ao16 t450.length co16] (by rfl) rfl rfl zq6 ?_
  with_reducible refine (wide_signed.calls k a0_0 (fun k_ => some k_ = (.slice Ao16 t450.length co16 : Value).ownBlock) _ _ t450 t453 t454 t457 _ ?side1 A5.out).mono ?_
  (case side1 => exact Kd.R_V (Kd.R_tight rfl (Kd.R_types (Kd.R_types (Kd.R_types (HO452.out) BK447.out (by decide)) BK448.out (by decide)) BK449.out (by decide))))
  rintro e w17 ⟨v455, rfl, ho0, hb⟩
  refine ⟨_, rfl, ?_⟩
  have n0_ := am_ (Kd.R_below (zq7 HO452.out) hb); have n1_ := am_ (Kd.V_lower (Kd.V_mono (ok' := fun k_ => (w.heap.size ≤ k_) ∧ k_ ≠ gb447 ∧ k_ ≠ gb448 ∧ k_ ≠ gb449) ho0 (fun k_ hk_ => ⟨Or.elim hk_ (fun hs_ => ((Kd.R_types (Kd.R_types (Kd.R_types (HO452.out) BK447.out (by decide)) BK448.out (by decide)) BK449.out (by decide)).1 k_ hs_.symm).1.1.1.1) (fun hn_ => (Nat.le_trans (below_size zq87) hn_)), Or.elim hk_ (fun hs_ => ((Kd.R_types (Kd.R_types (Kd.R_types (HO452.out) BK447.out (by decide)) BK448.out (by decide)) BK449.out (by decide)).1 k_ hs_.symm).1.1.2) (fun hn_ => (Kd.freshB (g := gb447) (o := .cells #[.bool a0_0, .slice A0_1 l0_1.length c0_1] 33 (0, 0)) (zq9 BK447.out) k_ hn_)), Or.elim hk_ (fun hs_ => ((Kd.R_types (Kd.R_types (Kd.R_types (HO452.out) BK447.out (by decide)) BK448.out (by decide)) BK449.out (by decide)).1 k_ hs_.symm).1.2) (fun hn_ => (Kd.freshB (g := gb448) (o := .cells #[.bool a1_0, .slice A1_1 l1_1.length c1_1] 33 (0, 0)) (zq9 BK448.out) k_ hn_)), Or.elim hk_ (fun hs_ => ((Kd.R_types (Kd.R_types (Kd.R_types (HO452.out) BK447.out (by decide)) BK448.out (by decide)) BK449.out (by decide)).1 k_ hs_.symm).2) (fun hn_ => (Kd.freshB (g := gb449) (o := .cells #[.bool false, .slice none 0 0] 33 (0, 0)) (zq9 BK449.out) k_ hn_))⟩)) (below_size zq87)); have n2_ := am_ (blk_below (g := gb447) (o := .cells #[.bool a0_0, .slice A0_1 l0_1.length c0_1] 33 (0, 0)) (zq9 BK447.out) hb); have n3_ := am_ (blk_below (g := gb448) (o := .cells #[.bool a1_0, .slice A1_1 l1_1.length c1_1] 33 (0, 0)) (zq9 BK448.out) hb); have n4_ := am_ (blk_below (g := gb449) (o := .cells #[.bool false, .slice none 0 0] 33 (0, 0)) (zq9 BK449.out) hb); have n5_ := am_ (below_step zq87 hb); clear HO452 BK447 BK448 BK449 HB; have HO452 := n0_; have HO456 := n1_; have BK447 := n2_; have BK448 := n3_; have BK449 := n4_; have HB := n5_; clear n0_ n1_ n2_ n3_ n4_ n5_; (try clear hb); (try clear ho0)
  obtain ⟨Ao19, co19, eo19⟩ := Kd.V_slice HO456.out
  (first | subst eo19 | (injection eo19 with f1_ f2_ f3_; have f4_ := f1_.symm; have f5_ := f3_.symm; clear f1_ f2_ f3_; subst f4_; subst f5_))
  refine hK.out _ _ ⟨(blk_cell BK447.out 0).trans rfl, (blk_cell BK447.out 1).trans rfl, (blk_cell BK448.out 0).trans rfl, (blk_cell BK448.out 1).trans rfl⟩ (fun hHeld => ?_)
  clear hK K
  refine norm_ (a' := ?_) ?_ ?_
  rotate_left
  ·show Act.put _ (some 18) _ = _
   exact za_
  refine pure_ (i := 8) (N := some 19) (v := ?_) (a' := ?_) #[true, true, true, true, true, true, true, true, true, false, false, false] rfl rfl (any_of HT_.out (by kernel_rfl)) (fun _ _ _ h => h) (Or.inl ⟨by rfl, ?_⟩) ?_ ?_
  rotate_left
  ·intro w'
   go_simp
   with_reducible rfl
  rotate_left
  ·exact za_
  refine pure_ (i := 9) (N := some 20) (v := ?_) (a' := ?_) #[true, true, true, true, true, true, true, true, true, true, false, false] rfl rfl (any_of HT_.out (by kernel_rfl)) (fun _ _ _ h => h) (Or.inl ⟨by rfl, ?_⟩) ?_ ?_
  rotate_left
  ·intro w'
   go_simp
   with_reducible rfl
  rotate_left
  ·exact za_
  refine one_ (i := 10) (N := none) #[true, true, true, true, true, true, true, true, true, true, true, false] rfl rfl (one_of HT_.out (by kernel_rfl)) (by decide) (fun K hK => ?_)
  have hs18 : w17.cell? ⟨gb449, 0, none⟩ = some (.bool false) := (blk_cell BK449.out 0).trans rfl
  have hfs18 := blk_frozen BK449.out 0
  have hns18_0 := NB447_449.out
  have hns18_1 := NB448_449.out
  have hms18_0 := NB449_447.out
  have hms18_1 := NB449_448.out
  have hs20 : w17.cell? ⟨gb449, 1, none⟩ = some (.slice none 0 0) := (blk_cell BK449.out 1).trans rfl
  have hfs20 := blk_frozen BK449.out 1
  have hns20_0 := NB447_449.out
  have hns20_1 := NB448_449.out
  have hms20_0 := NB449_447.out
  have hms20_1 := NB449_448.out
  refine skip_ (w1 := ?_) (by rfl) rfl ?_ ?_
  rotate_left
  ·go_simp
   rfl
  refine hK.out _ _ ⟨((cell_far (p := ⟨gb449, _, none⟩) NB447_449.out _).trans (((cell_far (p := ⟨gb449, _, none⟩) NB447_449.out _).trans (hHeld.1)))), ((cell_far (p := ⟨gb449, _, none⟩) NB447_449.out _).trans (((cell_far (p := ⟨gb449, _, none⟩) NB447_449.out _).trans (hHeld.2.1)))), ((cell_far (p := ⟨gb449, _, none⟩) NB448_449.out _).trans (((cell_far (p := ⟨gb449, _, none⟩) NB448_449.out _).trans (hHeld.2.2.1)))), ((cell_far (p := ⟨gb449, _, none⟩) NB448_449.out _).trans (((cell_far (p := ⟨gb449, _, none⟩) NB448_449.out _).trans (hHeld.2.2.2))))⟩ (fun hHeld => ?_)
  clear hK K
  refine pure_ (i := 11) (N := some 5) (v := ?_) (a' := ?_) #[true, true, true, true, true, true, true, true, true, true, true, true] rfl rfl (any_of HT_.out (by kernel_rfl)) (fun _ _ _ h => h) (Or.inl ⟨by rfl, ?_⟩) ?_ ?_
  rotate_left
  ·intro w'
   go_simp
   with_reducible rfl
  rotate_left
  ·exact za_
  refine done_ (done_of HT_.out (by kernel_rfl)) ?_
  try go_wp2
  refine bodyPost_ret (results_ct rfl _ _ gb449 33 #[.bool t453, .slice Ao19 t454.length co19] (0, 0) _ rfl (by (with_reducible repeat (first | refine blk_drewN ?_ _ | refine blk_drew ?_ | refine blk_alloc ?_ _)); refine blk_put (cs := #[.bool t453, .slice none 0 0]) ?_ 1 _ rfl; (with_reducible repeat (first | refine blk_drewN ?_ _ | refine blk_drew ?_ | refine blk_alloc ?_ _)); refine blk_put (cs := #[.bool false, .slice none 0 0]) ?_ 0 _ rfl; (with_reducible repeat (first | refine blk_drewN ?_ _ | refine blk_drew ?_ | refine blk_alloc ?_ _)); exact BK449.out) Tryz.underlying33 rfl (by kernel_rfl)) rfl ?_
  exact ⟨_, by first | rfl | (simp [errW_none, errW_some] <;> rfl) | (simp [*, errW_none, errW_some] <;> rfl), by (with_reducible repeat (first | apply Kd.V_alloc | apply Kd.V_drewN | apply Kd.V_drew)); exact Kd.V_mono (Kd.V_far (p := ⟨gb449, 1, none⟩) (Kd.V_far (p := ⟨gb449, 0, none⟩) (Kd.V_mono HO456.out (fun k_ hk => (⟨hk, hk.2.2.2⟩ : _ ∧ k_ ≠ gb449))) (fun _ hk => hk.2) (.bool t453)) (fun _ hk => hk.2) (.slice Ao19 t454.length co19)) (fun _ hk => hk.1.1), by repeat (first | (with_reducible first | exact HB.out | apply below_alloc | apply pw_below_drewN | apply below_drew1 | refine below_set ?_ GE447.out | refine below_set ?_ GE448.out | refine below_set ?_ GE449.out) | exact HB.out)⟩
 ·rw [if_neg c3] at H
  have c3b0 : (a0_0 == a1_0) = false := by simpa using c3
  (try (have c3b1 : decide (a0_0 = a1_0) = false := by simpa using c3))
  (try (have c3b2 : (a0_0 == a1_0) = false := by simpa using c3))
  (try (have c3b3 : ¬ (a0_0 = a1_0) := by simpa using c3))
  clear c3
  replace H := Option.bind_eq_some_iff.mp H
  obtain ⟨t458, A210, H⟩ := H
  replace H : (if t458 < 0 then ((wide_difference.f l1_1 l0_1).bind fun t459 => ((wide_signed.f k a1_0 t459).bind fun bt462 => (some (bt462.1, bt462.2.1, bt462.2.2)))) else ((wide_difference.f l0_1 l1_1).bind fun t467 => ((wide_signed.f k a0_0 t467).bind fun bt470 => (some (bt470.1, bt470.2.1, bt470.2.2))))) = some (r1, r2, r3) := H
  have A21 := am_ A210
  clear A210
  by_cases c22 : t458 < 0
  ·rw [if_pos c22] at H
   have c22b0 : decide (t458 < 0) = true := decide_eq_true c22
   clear c22
   replace H := Option.bind_eq_some_iff.mp H
   obtain ⟨t459, A230, H⟩ := H
   replace H : ((wide_signed.f k a1_0 t459).bind fun bt462 => (some (bt462.1, bt462.2.1, bt462.2.2))) = some (r1, r2, r3) := H
   have A23 := am_ A230
   clear A230
   replace H := Option.bind_eq_some_iff.mp H
   obtain ⟨⟨t462, t463, t466⟩, A240, H⟩ := H
   replace H : (some (t462, t463, t466)) = some (r1, r2, r3) := H
   have A24 := am_ A240
   clear A240
   simp only [Option.some.injEq, Prod.mk.injEq] at H
   obtain ⟨rfl, rfl, rfl⟩ := H
   go_enter Tryz.func32, Tryz.ntmps32
   try go_wp2_with (first | ((with_reducible refine gate_dst (N := 2) rfl ?_); refine box_event ?hg (N := 2) ?hd (cs := #[.bool a0_0, .slice A0_1 l0_1.length c0_1]) (t := 33) ?hr ?_; (case hd => rfl); (case hg => rfl); (case hr => exact zq0); intro gb447 hg w25 hbox hb; have n0_ := am_ (below_step zq2 hb); have n1_ := am_ (hbox); have n2_ := am_ ((by rw [hg]; exact (below_size zq2) : w.heap.size ≤ gb447)); clear HB; have HB := n0_; have BK447 := n1_; have GE447 := n2_; clear n0_ n1_ n2_; clear hb hbox hg) | ((with_reducible refine gate_dst (N := 3) rfl ?_); refine box_event ?hg (N := 3) ?hd (cs := #[.bool a1_0, .slice A1_1 l1_1.length c1_1]) (t := 33) ?hr ?_; (case hd => rfl); (case hg => rfl); (case hr => exact zq0); intro gb448 hg w26 hbox hb; have n0_ := am_ (blk_below (g := gb447) (o := .cells #[.bool a0_0, .slice A0_1 l0_1.length c0_1] 33 (0, 0)) (zq9 BK447.out) hb); have n1_ := am_ (below_step zq85 hb); have n2_ := am_ (hbox); have n3_ := am_ ((by rw [hg]; exact (below_size zq85) : w.heap.size ≤ gb448)); have n4_ := am_ ((by rw [hg]; exact Nat.ne_of_lt (blk_lt (g := gb447) (zq9 BK447.out)) : gb447 ≠ gb448)); have n5_ := am_ ((by rw [hg]; exact Nat.ne_of_gt (blk_lt (g := gb447) (zq9 BK447.out)) : gb448 ≠ gb447)); clear BK447 HB; have BK447 := n0_; have HB := n1_; have BK448 := n2_; have GE448 := n3_; have NB447_448 := n4_; have NB448_447 := n5_; clear n0_ n1_ n2_ n3_ n4_ n5_; clear hb hbox hg) | ((with_reducible refine gate_dst (N := 4) rfl ?_); refine box_event ?hg (N := 4) ?hd (cs := #[.bool false, .slice none 0 0]) (t := 33) ?hr ?_; (case hd => rfl); (case hg => rfl); (case hr => exact zq0); intro gb449 hg w27 hbox hb; have n0_ := am_ (blk_below (g := gb447) (o := .cells #[.bool a0_0, .slice A0_1 l0_1.length c0_1] 33 (0, 0)) (zq9 BK447.out) hb); have n1_ := am_ (blk_below (g := gb448) (o := .cells #[.bool a1_0, .slice A1_1 l1_1.length c1_1] 33 (0, 0)) (zq9 BK448.out) hb); have n2_ := am_ (below_step zq86 hb); have n3_ := am_ (hbox); have n4_ := am_ ((by rw [hg]; exact (below_size zq86) : w.heap.size ≤ gb449)); have n5_ := am_ ((by rw [hg]; exact Nat.ne_of_lt (blk_lt (g := gb447) (zq9 BK447.out)) : gb447 ≠ gb449)); have n6_ := am_ ((by rw [hg]; exact Nat.ne_of_gt (blk_lt (g := gb447) (zq9 BK447.out)) : gb449 ≠ gb447)); have n7_ := am_ ((by rw [hg]; exact Nat.ne_of_lt (blk_lt (g := gb448) (zq9 BK448.out)) : gb448 ≠ gb449)); have n8_ := am_ ((by rw [hg]; exact Nat.ne_of_gt (blk_lt (g := gb448) (zq9 BK448.out)) : gb449 ≠ gb448)); clear BK447 BK448 HB; have BK447 := n0_; have BK448 := n1_; have HB := n2_; have BK449 := n3_; have GE449 := n4_; have NB447_449 := n5_; have NB449_447 := n6_; have NB448_449 := n7_; have NB449_448 := n8_; clear n0_ n1_ n2_ n3_ n4_ n5_ n6_ n7_ n8_; clear hb hbox hg; have hnb28 := NB447_448.out; have hnc28 := NB448_447.out; have hnb29 := NB447_449.out; have hnc29 := NB449_447.out; have hcz30_0 : w27.cell? ⟨gb447, 0, none⟩ = some (.bool a0_0) := (blk_cell BK447.out 0).trans rfl; have hcz30_1 : w27.cell? ⟨gb447, 1, none⟩ = some (.slice A0_1 l0_1.length c0_1) := (blk_cell BK447.out 1).trans rfl; have hfz30_0 := blk_frozen BK447.out 0; have hfz30_1 := blk_frozen BK447.out 1; have hnb31 := NB448_449.out; have hnc31 := NB449_448.out; have hcz32_0 : w27.cell? ⟨gb448, 0, none⟩ = some (.bool a1_0) := (blk_cell BK448.out 0).trans rfl; have hcz32_1 : w27.cell? ⟨gb448, 1, none⟩ = some (.slice A1_1 l1_1.length c1_1) := (blk_cell BK448.out 1).trans rfl; have hfz32_0 := blk_frozen BK448.out 0; have hfz32_1 := blk_frozen BK448.out 1) | ((with_reducible refine gate_callee (f := 67) rfl ?_); refine goesL_ (some 25) rfl rfl Tryz.func67 (by kernel_rfl) rfl #[.slice A0_1 l0_1.length c0_1, .slice A1_1 l1_1.length c1_1] rfl zq6 ?_; (with_reducible refine (wide_compare.calls k _ _ l0_1 _ _ l1_1 t458 _ ?side1 ?side2 ?side3 ?side4 A21.out).mono ?_); (case side1 => exact zq24); (case side2 => exact HC0_1.out); (case side3 => exact zq25); (case side4 => exact HC1_1.out); rintro e w' ⟨rfl, ⟨nd, rfl⟩⟩; refine ⟨_, rfl, ?_⟩; (try (rw [drewN_self w27]; generalize hq_ : World.drewN w27 _ = w27; have n0_ : Aside0 (w27.heap[gb447]? = some (.cells #[.bool a0_0, .slice A0_1 l0_1.length c0_1] 33 (0, 0))) := ⟨by rw [← hq_]; exact (zq9 BK447.out)⟩; have n1_ : Aside0 (w27.heap[gb448]? = some (.cells #[.bool a1_0, .slice A1_1 l1_1.length c1_1] 33 (0, 0))) := ⟨by rw [← hq_]; exact (zq9 BK448.out)⟩; have n2_ : Aside0 (w27.heap[gb449]? = some (.cells #[.bool false, .slice none 0 0] 33 (0, 0))) := ⟨by rw [← hq_]; exact (zq9 BK449.out)⟩; have n3_ : Aside0 (Below w.heap.size w w27) := ⟨by rw [← hq_]; exact zq87⟩; clear BK447 BK448 BK449 HB hq_; have BK447 := n0_; have BK448 := n1_; have BK449 := n2_; have HB := n3_; clear n0_ n1_ n2_ n3_; have hqzBK447_0 := (blk_cell BK447.out 0).trans (show _ = some _ from rfl); have hqfBK447_0 := blk_frozen BK447.out 0; have hqzBK447_1 := (blk_cell BK447.out 1).trans (show _ = some _ from rfl); have hqfBK447_1 := blk_frozen BK447.out 1; have hqzBK448_0 := (blk_cell BK448.out 0).trans (show _ = some _ from rfl); have hqfBK448_0 := blk_frozen BK448.out 0; have hqzBK448_1 := (blk_cell BK448.out 1).trans (show _ = some _ from rfl); have hqfBK448_1 := blk_frozen BK448.out 1; have hqzBK449_0 := (blk_cell BK449.out 0).trans (show _ = some _ from rfl); have hqfBK449_0 := blk_frozen BK449.out 0; have hqzBK449_1 := (blk_cell BK449.out 1).trans (show _ = some _ from rfl); have hqfBK449_1 := blk_frozen BK449.out 1))))
   have n0_ : Aside0 (((((w27.setCell ⟨gb447, 0, none⟩ (.bool a1_0)).setCell ⟨gb447, 1, none⟩ (.slice A1_1 l1_1.length c1_1)).setCell ⟨gb448, 0, none⟩ (.bool a0_0)).setCell ⟨gb448, 1, none⟩ (.slice A0_1 l0_1.length c0_1)).heap[gb447]? = some (.cells #[.bool a1_0, .slice A1_1 l1_1.length c1_1] 33 (0, 0))) := ⟨by (with_reducible repeat (first | refine blk_drewN ?_ _ | refine blk_drew ?_ | refine blk_alloc ?_ _)); refine blk_far ?_ NB447_448.out _; (with_reducible repeat (first | refine blk_drewN ?_ _ | refine blk_drew ?_ | refine blk_alloc ?_ _)); refine blk_far ?_ NB447_448.out _; (with_reducible repeat (first | refine blk_drewN ?_ _ | refine blk_drew ?_ | refine blk_alloc ?_ _)); refine blk_put (cs := #[.bool a1_0, .slice A0_1 l0_1.length c0_1]) ?_ 1 _ rfl; (with_reducible repeat (first | refine blk_drewN ?_ _ | refine blk_drew ?_ | refine blk_alloc ?_ _)); refine blk_put (cs := #[.bool a0_0, .slice A0_1 l0_1.length c0_1]) ?_ 0 _ rfl; (with_reducible repeat (first | refine blk_drewN ?_ _ | refine blk_drew ?_ | refine blk_alloc ?_ _)); exact BK447.out⟩
   have n1_ : Aside0 (((((w27.setCell ⟨gb447, 0, none⟩ (.bool a1_0)).setCell ⟨gb447, 1, none⟩ (.slice A1_1 l1_1.length c1_1)).setCell ⟨gb448, 0, none⟩ (.bool a0_0)).setCell ⟨gb448, 1, none⟩ (.slice A0_1 l0_1.length c0_1)).heap[gb448]? = some (.cells #[.bool a0_0, .slice A0_1 l0_1.length c0_1] 33 (0, 0))) := ⟨by (with_reducible repeat (first | refine blk_drewN ?_ _ | refine blk_drew ?_ | refine blk_alloc ?_ _)); refine blk_put (cs := #[.bool a0_0, .slice A1_1 l1_1.length c1_1]) ?_ 1 _ rfl; (with_reducible repeat (first | refine blk_drewN ?_ _ | refine blk_drew ?_ | refine blk_alloc ?_ _)); refine blk_put (cs := #[.bool a1_0, .slice A1_1 l1_1.length c1_1]) ?_ 0 _ rfl; (with_reducible repeat (first | refine blk_drewN ?_ _ | refine blk_drew ?_ | refine blk_alloc ?_ _)); refine blk_far ?_ NB448_447.out _; (with_reducible repeat (first | refine blk_drewN ?_ _ | refine blk_drew ?_ | refine blk_alloc ?_ _)); refine blk_far ?_ NB448_447.out _; (with_reducible repeat (first | refine blk_drewN ?_ _ | refine blk_drew ?_ | refine blk_alloc ?_ _)); exact BK448.out⟩
   have n2_ : Aside0 (((((w27.setCell ⟨gb447, 0, none⟩ (.bool a1_0)).setCell ⟨gb447, 1, none⟩ (.slice A1_1 l1_1.length c1_1)).setCell ⟨gb448, 0, none⟩ (.bool a0_0)).setCell ⟨gb448, 1, none⟩ (.slice A0_1 l0_1.length c0_1)).heap[gb449]? = some (.cells #[.bool false, .slice none 0 0] 33 (0, 0))) := ⟨by (with_reducible repeat (first | refine blk_drewN ?_ _ | refine blk_drew ?_ | refine blk_alloc ?_ _)); refine blk_far ?_ NB449_448.out _; (with_reducible repeat (first | refine blk_drewN ?_ _ | refine blk_drew ?_ | refine blk_alloc ?_ _)); refine blk_far ?_ NB449_448.out _; (with_reducible repeat (first | refine blk_drewN ?_ _ | refine blk_drew ?_ | refine blk_alloc ?_ _)); refine blk_far ?_ NB449_447.out _; (with_reducible repeat (first | refine blk_drewN ?_ _ | refine blk_drew ?_ | refine blk_alloc ?_ _)); refine blk_far ?_ NB449_447.out _; (with_reducible repeat (first | refine blk_drewN ?_ _ | refine blk_drew ?_ | refine blk_alloc ?_ _)); exact BK449.out⟩
   have n3_ : Aside0 (Below w.heap.size w ((((w27.setCell ⟨gb447, 0, none⟩ (.bool a1_0)).setCell ⟨gb447, 1, none⟩ (.slice A1_1 l1_1.length c1_1)).setCell ⟨gb448, 0, none⟩ (.bool a0_0)).setCell ⟨gb448, 1, none⟩ (.slice A0_1 l0_1.length c0_1))) := ⟨by repeat (first | (with_reducible first | exact HB.out | apply below_alloc | apply pw_below_drewN | apply below_drew1 | refine below_set ?_ GE447.out | refine below_set ?_ GE448.out | refine below_set ?_ GE449.out) | exact HB.out)⟩
   (try clear BK447); (try clear BK448); (try clear BK449); (try clear HB)
   generalize ((((w27.setCell ⟨gb447, 0, none⟩ (.bool a1_0)).setCell ⟨gb447, 1, none⟩ (.slice A1_1 l1_1.length c1_1)).setCell ⟨gb448, 0, none⟩ (.bool a0_0)).setCell ⟨gb448, 1, none⟩ (.slice A0_1 l0_1.length c0_1)) = w33 at n0_ n1_ n2_ n3_ ⊢
   have BK447 := n0_; have BK448 := n1_; have BK449 := n2_; have HB := n3_; clear n0_ n1_ n2_ n3_; replace BK447 := am_ (blk_drew BK447.out); replace BK448 := am_ (blk_drew BK448.out); replace BK449 := am_ (blk_drew BK449.out); replace HB := am_ (below_drew1 HB.out)
   refine start_ (n := 12) (S := fun w' => w'.cell? ⟨gb447, 0, none⟩ = some (.bool a1_0) ∧ w'.cell? ⟨gb447, 1, none⟩ = some (.slice A1_1 l1_1.length c1_1) ∧ w'.cell? ⟨gb448, 0, none⟩ = some (.bool a0_0) ∧ w'.cell? ⟨gb448, 1, none⟩ = some (.slice A0_1 l0_1.length c0_1)) (ds := []) #[false, false, false, false, false, false, false, false, false, false, false, false] (by kernel_rfl) rfl rfl ⟨(blk_cell BK447.out 0).trans rfl, (blk_cell BK447.out 1).trans rfl, (blk_cell BK448.out 0).trans rfl, (blk_cell BK448.out 1).trans rfl⟩ (fun hHeld => ?_); refine with_tabW wide_Add.tab5 wide_Add.bits5 (fun HT_ HW_ => ?_)
   generalize w33.drew = w34 at BK447 BK448 BK449 HB hHeld ⊢
   refine pure_ (i := 0) (N := some 29) (v := ?_) (a' := ?_) #[true, false, false, false, false, false, false, false, false, false, false, false] rfl rfl (any_of HT_.out (by kernel_rfl)) (fun _ _ _ h => h) (Or.inl ⟨by rfl, ?_⟩) ?_ ?_
   rotate_left
   ·intro w'
    go_simp
    with_reducible rfl
   rotate_left
   ·exact za_
   refine pure_ (i := 2) (N := some 31) (v := ?_) (a' := ?_) #[true, false, true, false, false, false, false, false, false, false, false, false] rfl rfl (any_of HT_.out (by kernel_rfl)) (fun _ _ _ h => h) (Or.inl ⟨by rfl, ?_⟩) ?_ ?_
   rotate_left
   ·intro w'
    go_simp
    with_reducible rfl
   rotate_left
   ·exact za_
   refine pure_ (i := 4) (N := some 33) (v := ?_) (a' := ?_) #[true, false, true, false, true, false, false, false, false, false, false, false] rfl rfl (any_of HT_.out (by kernel_rfl)) (fun _ _ _ h => h) (Or.inl ⟨by rfl, ?_⟩) ?_ ?_
   rotate_left
   ·intro w'
    go_simp
    with_reducible rfl
   rotate_left
   ·exact za_
   refine take_ (i := 1) (N := some 30) (v := ?_) (a' := ?_) #[true, true, true, false, true, false, false, false, false, false, false, false] rfl rfl (take_ofW HT_.out HW_.out (by kernel_rfl)) (fun _ _ _ h => h) (Or.inl ⟨by rfl, ?_⟩) hHeld ?_ ?_
   rotate_left
   ·rintro w' ⟨s0, s1, s2, s3⟩
    go_simp
    with_reducible rfl
   rotate_left
   ·exact za_
   refine take_ (i := 3) (N := some 32) (v := ?_) (a' := ?_) #[true, true, true, true, true, false, false, false, false, false, false, false] rfl rfl (take_ofW HT_.out HW_.out (by kernel_rfl)) (fun _ _ _ h => h) (Or.inl ⟨by rfl, ?_⟩) hHeld ?_ ?_
   rotate_left
   ·rintro w' ⟨s0, s1, s2, s3⟩
    go_simp
    with_reducible rfl
   rotate_left
   ·exact za_
   refine take_ (i := 5) (N := some 34) (v := ?_) (a' := ?_) #[true, true, true, true, true, true, false, false, false, false, false, false] rfl rfl (take_ofW HT_.out HW_.out (by kernel_rfl)) (fun _ _ _ h => h) (Or.inl ⟨by rfl, ?_⟩) hHeld ?_ ?_
   rotate_left
   ·rintro w' ⟨s0, s1, s2, s3⟩
    go_simp
    with_reducible rfl
   rotate_left
   ·exact za_
   refine one_ (i := 6) (N := some 35) #[true, true, true, true, true, true, true, false, false, false, false, false] rfl rfl (one_of HT_.out (by kernel_rfl)) (by decide) (fun K hK => ?_)
   refine goes_ Tryz.func65 (by kernel_rfl) rfl #[.slice A1_1 l1_1.length c1_1, .slice A0_1 l0_1.length c0_1] (by rfl) rfl rfl zq6 ?_
   with_reducible refine (wide_difference.calls _ _ l1_1 _ _ l0_1 t459 _ ?side1 ?side2 ?side3 ?side4 A23.out).mono ?_
   (case side1 => exact zq25)
   (case side2 => exact HC1_1.out)
   (case side3 => exact zq24)
   (case side4 => exact HC0_1.out)
   rintro e w35 ⟨v460, rfl, ho0, hb⟩
   refine ⟨_, rfl, ?_⟩
   have HO461 := am_ (Kd.R_lower (Kd.R_newM (M := fun k_ => (w.heap.size ≤ k_)) ho0 (below_size zq87) (fun k_ h_ => h_)) (below_size zq87)); replace BK447 := am_ (blk_below (g := gb447) (o := .cells #[.bool a1_0, .slice A1_1 l1_1.length c1_1] 33 (0, 0)) (zq9 BK447.out) hb); replace BK448 := am_ (blk_below (g := gb448) (o := .cells #[.bool a0_0, .slice A0_1 l0_1.length c0_1] 33 (0, 0)) (zq9 BK448.out) hb); replace BK449 := am_ (blk_below (g := gb449) (o := .cells #[.bool false, .slice none 0 0] 33 (0, 0)) (zq9 BK449.out) hb); replace HB := am_ (below_step zq87 hb); (try clear hb); (try clear ho0)
   obtain ⟨Ao36, co36, eo36⟩ := Kd.R_slice HO461.out
   (first | subst eo36 | (injection eo36 with f1_ f2_ f3_; have f4_ := f1_.symm; have f5_ := f3_.symm; clear f1_ f2_ f3_; subst f4_; subst f5_))
   refine hK.out _ _ ⟨(blk_cell BK447.out 0).trans rfl, (blk_cell BK447.out 1).trans rfl, (blk_cell BK448.out 0).trans rfl, (blk_cell BK448.out 1).trans rfl⟩ (fun hHeld => ?_)
   clear hK K
   refine norm_ (a' := ?_) ?_ ?_
   rotate_left
   ·show Act.put _ (some 35) _ = _
    exact za_
   refine one_ (i := 7) (N := some 36) #[true, true, true, true, true, true, true, true, false, false, false, false] rfl rfl (one_of HT_.out (by kernel_rfl)) (by decide) (fun K hK => ?_)
   refine goes_ Tryz.func53 (by kernel_rfl) rfl #[.bool a1_0, .slice Ao36 t459.length co36] (by rfl) rfl rfl zq6 ?_
   with_reducible refine (wide_signed.calls k a1_0 (fun k_ => some k_ = (.slice Ao36 t459.length co36 : Value).ownBlock) _ _ t459 t462 t463 t466 _ ?side1 A24.out).mono ?_
   (case side1 => exact Kd.R_V (Kd.R_tight rfl (Kd.R_types (Kd.R_types (Kd.R_types (HO461.out) BK447.out (by decide)) BK448.out (by decide)) BK449.out (by decide))))
   rintro e w37 ⟨v464, rfl, ho0, hb⟩
   refine ⟨_, rfl, ?_⟩
   have n0_ := am_ (Kd.R_below (zq7 HO461.out) hb); have n1_ := am_ (Kd.V_lower (Kd.V_mono (ok' := fun k_ => (w.heap.size ≤ k_) ∧ k_ ≠ gb447 ∧ k_ ≠ gb448 ∧ k_ ≠ gb449) ho0 (fun k_ hk_ => ⟨Or.elim hk_ (fun hs_ => ((Kd.R_types (Kd.R_types (Kd.R_types (HO461.out) BK447.out (by decide)) BK448.out (by decide)) BK449.out (by decide)).1 k_ hs_.symm).1.1.1.1) (fun hn_ => (Nat.le_trans (below_size zq87) hn_)), Or.elim hk_ (fun hs_ => ((Kd.R_types (Kd.R_types (Kd.R_types (HO461.out) BK447.out (by decide)) BK448.out (by decide)) BK449.out (by decide)).1 k_ hs_.symm).1.1.2) (fun hn_ => (Kd.freshB (g := gb447) (o := .cells #[.bool a1_0, .slice A1_1 l1_1.length c1_1] 33 (0, 0)) (zq9 BK447.out) k_ hn_)), Or.elim hk_ (fun hs_ => ((Kd.R_types (Kd.R_types (Kd.R_types (HO461.out) BK447.out (by decide)) BK448.out (by decide)) BK449.out (by decide)).1 k_ hs_.symm).1.2) (fun hn_ => (Kd.freshB (g := gb448) (o := .cells #[.bool a0_0, .slice A0_1 l0_1.length c0_1] 33 (0, 0)) (zq9 BK448.out) k_ hn_)), Or.elim hk_ (fun hs_ => ((Kd.R_types (Kd.R_types (Kd.R_types (HO461.out) BK447.out (by decide)) BK448.out (by decide)) BK449.out (by decide)).1 k_ hs_.symm).2) (fun hn_ => (Kd.freshB (g := gb449) (o := .cells #[.bool false, .slice none 0 0] 33 (0, 0)) (zq9 BK449.out) k_ hn_))⟩)) (below_size zq87)); have n2_ := am_ (blk_below (g := gb447) (o := .cells #[.bool a1_0, .slice A1_1 l1_1.length c1_1] 33 (0, 0)) (zq9 BK447.out) hb); have n3_ := am_ (blk_below (g := gb448) (o := .cells #[.bool a0_0, .slice A0_1 l0_1.length c0_1] 33 (0, 0)) (zq9 BK448.out) hb); have n4_ := am_ (blk_below (g := gb449) (o := .cells #[.bool false, .slice none 0 0] 33 (0, 0)) (zq9 BK449.out) hb); have n5_ := am_ (below_step zq87 hb); clear HO461 BK447 BK448 BK449 HB; have HO461 := n0_; have HO465 := n1_; have BK447 := n2_; have BK448 := n3_; have BK449 := n4_; have HB := n5_; clear n0_ n1_ n2_ n3_ n4_ n5_; (try clear hb); (try clear ho0)
   obtain ⟨Ao39, co39, eo39⟩ := Kd.V_slice HO465.out
   (first | subst eo39 | (injection eo39 with f1_ f2_ f3_; have f4_ := f1_.symm; have f5_ := f3_.symm; clear f1_ f2_ f3_; subst f4_; subst f5_))
   refine hK.out _ _ ⟨(blk_cell BK447.out 0).trans rfl, (blk_cell BK447.out 1).trans rfl, (blk_cell BK448.out 0).trans rfl, (blk_cell BK448.out 1).trans rfl⟩ (fun hHeld => ?_)
   clear hK K
   refine norm_ (a' := ?_) ?_ ?_
   rotate_left
   ·show Act.put _ (some 36) _ = _
    exact za_
   refine pure_ (i := 8) (N := some 37) (v := ?_) (a' := ?_) #[true, true, true, true, true, true, true, true, true, false, false, false] rfl rfl (any_of HT_.out (by kernel_rfl)) (fun _ _ _ h => h) (Or.inl ⟨by rfl, ?_⟩) ?_ ?_
   rotate_left
   ·intro w'
    go_simp
    with_reducible rfl
   rotate_left
   ·exact za_
   refine pure_ (i := 9) (N := some 38) (v := ?_) (a' := ?_) #[true, true, true, true, true, true, true, true, true, true, false, false] rfl rfl (any_of HT_.out (by kernel_rfl)) (fun _ _ _ h => h) (Or.inl ⟨by rfl, ?_⟩) ?_ ?_
   rotate_left
   ·intro w'
    go_simp
    with_reducible rfl
   rotate_left
   ·exact za_
   refine one_ (i := 10) (N := none) #[true, true, true, true, true, true, true, true, true, true, true, false] rfl rfl (one_of HT_.out (by kernel_rfl)) (by decide) (fun K hK => ?_)
   have hs38 : w37.cell? ⟨gb449, 0, none⟩ = some (.bool false) := (blk_cell BK449.out 0).trans rfl
   have hfs38 := blk_frozen BK449.out 0
   have hns38_0 := NB447_449.out
   have hns38_1 := NB448_449.out
   have hms38_0 := NB449_447.out
   have hms38_1 := NB449_448.out
   have hs40 : w37.cell? ⟨gb449, 1, none⟩ = some (.slice none 0 0) := (blk_cell BK449.out 1).trans rfl
   have hfs40 := blk_frozen BK449.out 1
   have hns40_0 := NB447_449.out
   have hns40_1 := NB448_449.out
   have hms40_0 := NB449_447.out
   have hms40_1 := NB449_448.out
   refine skip_ (w1 := ?_) (by rfl) rfl ?_ ?_
   rotate_left
   ·go_simp
    rfl
   refine hK.out _ _ ⟨((cell_far (p := ⟨gb449, _, none⟩) NB447_449.out _).trans (((cell_far (p := ⟨gb449, _, none⟩) NB447_449.out _).trans (hHeld.1)))), ((cell_far (p := ⟨gb449, _, none⟩) NB447_449.out _).trans (((cell_far (p := ⟨gb449, _, none⟩) NB447_449.out _).trans (hHeld.2.1)))), ((cell_far (p := ⟨gb449, _, none⟩) NB448_449.out _).trans (((cell_far (p := ⟨gb449, _, none⟩) NB448_449.out _).trans (hHeld.2.2.1)))), ((cell_far (p := ⟨gb449, _, none⟩) NB448_449.out _).trans (((cell_far (p := ⟨gb449, _, none⟩) NB448_449.out _).trans (hHeld.2.2.2))))⟩ (fun hHeld => ?_)
   clear hK K
   refine pure_ (i := 11) (N := some 5) (v := ?_) (a' := ?_) #[true, true, true, true, true, true, true, true, true, true, true, true] rfl rfl (any_of HT_.out (by kernel_rfl)) (fun _ _ _ h => h) (Or.inl ⟨by rfl, ?_⟩) ?_ ?_
   rotate_left
   ·intro w'
    go_simp
    with_reducible rfl
   rotate_left
   ·exact za_
   refine done_ (done_of HT_.out (by kernel_rfl)) ?_
   try go_wp2
   refine bodyPost_ret (results_ct rfl _ _ gb449 33 #[.bool t462, .slice Ao39 t463.length co39] (0, 0) _ rfl (by (with_reducible repeat (first | refine blk_drewN ?_ _ | refine blk_drew ?_ | refine blk_alloc ?_ _)); refine blk_put (cs := #[.bool t462, .slice none 0 0]) ?_ 1 _ rfl; (with_reducible repeat (first | refine blk_drewN ?_ _ | refine blk_drew ?_ | refine blk_alloc ?_ _)); refine blk_put (cs := #[.bool false, .slice none 0 0]) ?_ 0 _ rfl; (with_reducible repeat (first | refine blk_drewN ?_ _ | refine blk_drew ?_ | refine blk_alloc ?_ _)); exact BK449.out) Tryz.underlying33 rfl (by kernel_rfl)) rfl ?_
   exact ⟨_, by first | rfl | (simp [errW_none, errW_some] <;> rfl) | (simp [*, errW_none, errW_some] <;> rfl), by (with_reducible repeat (first | apply Kd.V_alloc | apply Kd.V_drewN | apply Kd.V_drew)); exact Kd.V_mono (Kd.V_far (p := ⟨gb449, 1, none⟩) (Kd.V_far (p := ⟨gb449, 0, none⟩) (Kd.V_mono HO465.out (fun k_ hk => (⟨hk, hk.2.2.2⟩ : _ ∧ k_ ≠ gb449))) (fun _ hk => hk.2) (.bool t462)) (fun _ hk => hk.2) (.slice Ao39 t463.length co39)) (fun _ hk => hk.1.1), by repeat (first | (with_reducible first | exact HB.out | apply below_alloc | apply pw_below_drewN | apply below_drew1 | refine below_set ?_ GE447.out | refine below_set ?_ GE448.out | refine below_set ?_ GE449.out) | exact HB.out)⟩
  ·rw [if_neg c22] at H
   have c22b0 : decide (t458 < 0) = false := decide_eq_false c22
   clear c22
   replace H := Option.bind_eq_some_iff.mp H
   obtain ⟨t467, A410, H⟩ := H
   replace H : ((wide_signed.f k a0_0 t467).bind fun bt470 => (some (bt470.1, bt470.2.1, bt470.2.2))) = some (r1, r2, r3) := H
   have A41 := am_ A410
   clear A410
   replace H := Option.bind_eq_some_iff.mp H
   obtain ⟨⟨t470, t471, t474⟩, A420, H⟩ := H
   replace H : (some (t470, t471, t474)) = some (r1, r2, r3) := H
   have A42 := am_ A420
   clear A420
   simp only [Option.some.injEq, Prod.mk.injEq] at H
   obtain ⟨rfl, rfl, rfl⟩ := H
   go_enter Tryz.func32, Tryz.ntmps32
   try go_wp2_with (first | ((with_reducible refine gate_dst (N := 2) rfl ?_); refine box_event ?hg (N := 2) ?hd (cs := #[.bool a0_0, .slice A0_1 l0_1.length c0_1]) (t := 33) ?hr ?_; (case hd => rfl); (case hg => rfl); (case hr => exact zq0); intro gb447 hg w43 hbox hb; have n0_ := am_ (below_step zq2 hb); have n1_ := am_ (hbox); have n2_ := am_ ((by rw [hg]; exact (below_size zq2) : w.heap.size ≤ gb447)); clear HB; have HB := n0_; have BK447 := n1_; have GE447 := n2_; clear n0_ n1_ n2_; clear hb hbox hg) | ((with_reducible refine gate_dst (N := 3) rfl ?_); refine box_event ?hg (N := 3) ?hd (cs := #[.bool a1_0, .slice A1_1 l1_1.length c1_1]) (t := 33) ?hr ?_; (case hd => rfl); (case hg => rfl); (case hr => exact zq0); intro gb448 hg w44 hbox hb; have n0_ := am_ (blk_below (g := gb447) (o := .cells #[.bool a0_0, .slice A0_1 l0_1.length c0_1] 33 (0, 0)) (zq9 BK447.out) hb); have n1_ := am_ (below_step zq85 hb); have n2_ := am_ (hbox); have n3_ := am_ ((by rw [hg]; exact (below_size zq85) : w.heap.size ≤ gb448)); have n4_ := am_ ((by rw [hg]; exact Nat.ne_of_lt (blk_lt (g := gb447) (zq9 BK447.out)) : gb447 ≠ gb448)); have n5_ := am_ ((by rw [hg]; exact Nat.ne_of_gt (blk_lt (g := gb447) (zq9 BK447.out)) : gb448 ≠ gb447)); clear BK447 HB; have BK447 := n0_; have HB := n1_; have BK448 := n2_; have GE448 := n3_; have NB447_448 := n4_; have NB448_447 := n5_; clear n0_ n1_ n2_ n3_ n4_ n5_; clear hb hbox hg) | ((with_reducible refine gate_dst (N := 4) rfl ?_); refine box_event ?hg (N := 4) ?hd (cs := #[.bool false, .slice none 0 0]) (t := 33) ?hr ?_; (case hd => rfl); (case hg => rfl); (case hr => exact zq0); intro gb449 hg w45 hbox hb; have n0_ := am_ (blk_below (g := gb447) (o := .cells #[.bool a0_0, .slice A0_1 l0_1.length c0_1] 33 (0, 0)) (zq9 BK447.out) hb); have n1_ := am_ (blk_below (g := gb448) (o := .cells #[.bool a1_0, .slice A1_1 l1_1.length c1_1] 33 (0, 0)) (zq9 BK448.out) hb); have n2_ := am_ (below_step zq86 hb); have n3_ := am_ (hbox); have n4_ := am_ ((by rw [hg]; exact (below_size zq86) : w.heap.size ≤ gb449)); have n5_ := am_ ((by rw [hg]; exact Nat.ne_of_lt (blk_lt (g := gb447) (zq9 BK447.out)) : gb447 ≠ gb449)); have n6_ := am_ ((by rw [hg]; exact Nat.ne_of_gt (blk_lt (g := gb447) (zq9 BK447.out)) : gb449 ≠ gb447)); have n7_ := am_ ((by rw [hg]; exact Nat.ne_of_lt (blk_lt (g := gb448) (zq9 BK448.out)) : gb448 ≠ gb449)); have n8_ := am_ ((by rw [hg]; exact Nat.ne_of_gt (blk_lt (g := gb448) (zq9 BK448.out)) : gb449 ≠ gb448)); clear BK447 BK448 HB; have BK447 := n0_; have BK448 := n1_; have HB := n2_; have BK449 := n3_; have GE449 := n4_; have NB447_449 := n5_; have NB449_447 := n6_; have NB448_449 := n7_; have NB449_448 := n8_; clear n0_ n1_ n2_ n3_ n4_ n5_ n6_ n7_ n8_; clear hb hbox hg; have hnb46 := NB447_448.out; have hnc46 := NB448_447.out; have hnb47 := NB447_449.out; have hnc47 := NB449_447.out; have hcz48_0 : w45.cell? ⟨gb447, 0, none⟩ = some (.bool a0_0) := (blk_cell BK447.out 0).trans rfl; have hcz48_1 : w45.cell? ⟨gb447, 1, none⟩ = some (.slice A0_1 l0_1.length c0_1) := (blk_cell BK447.out 1).trans rfl; have hfz48_0 := blk_frozen BK447.out 0; have hfz48_1 := blk_frozen BK447.out 1; have hnb49 := NB448_449.out; have hnc49 := NB449_448.out; have hcz50_0 : w45.cell? ⟨gb448, 0, none⟩ = some (.bool a1_0) := (blk_cell BK448.out 0).trans rfl; have hcz50_1 : w45.cell? ⟨gb448, 1, none⟩ = some (.slice A1_1 l1_1.length c1_1) := (blk_cell BK448.out 1).trans rfl; have hfz50_0 := blk_frozen BK448.out 0; have hfz50_1 := blk_frozen BK448.out 1) | ((with_reducible refine gate_callee (f := 67) rfl ?_); refine goesL_ (some 25) rfl rfl Tryz.func67 (by kernel_rfl) rfl #[.slice A0_1 l0_1.length c0_1, .slice A1_1 l1_1.length c1_1] rfl zq6 ?_; (with_reducible refine (wide_compare.calls k _ _ l0_1 _ _ l1_1 t458 _ ?side1 ?side2 ?side3 ?side4 A21.out).mono ?_); (case side1 => exact zq24); (case side2 => exact HC0_1.out); (case side3 => exact zq25); (case side4 => exact HC1_1.out); rintro e w' ⟨rfl, ⟨nd, rfl⟩⟩; refine ⟨_, rfl, ?_⟩; (try (rw [drewN_self w45]; generalize hq_ : World.drewN w45 _ = w45; have n0_ : Aside0 (w45.heap[gb447]? = some (.cells #[.bool a0_0, .slice A0_1 l0_1.length c0_1] 33 (0, 0))) := ⟨by rw [← hq_]; exact (zq9 BK447.out)⟩; have n1_ : Aside0 (w45.heap[gb448]? = some (.cells #[.bool a1_0, .slice A1_1 l1_1.length c1_1] 33 (0, 0))) := ⟨by rw [← hq_]; exact (zq9 BK448.out)⟩; have n2_ : Aside0 (w45.heap[gb449]? = some (.cells #[.bool false, .slice none 0 0] 33 (0, 0))) := ⟨by rw [← hq_]; exact (zq9 BK449.out)⟩; have n3_ : Aside0 (Below w.heap.size w w45) := ⟨by rw [← hq_]; exact zq87⟩; clear BK447 BK448 BK449 HB hq_; have BK447 := n0_; have BK448 := n1_; have BK449 := n2_; have HB := n3_; clear n0_ n1_ n2_ n3_; have hqzBK447_0 := (blk_cell BK447.out 0).trans (show _ = some _ from rfl); have hqfBK447_0 := blk_frozen BK447.out 0; have hqzBK447_1 := (blk_cell BK447.out 1).trans (show _ = some _ from rfl); have hqfBK447_1 := blk_frozen BK447.out 1; have hqzBK448_0 := (blk_cell BK448.out 0).trans (show _ = some _ from rfl); have hqfBK448_0 := blk_frozen BK448.out 0; have hqzBK448_1 := (blk_cell BK448.out 1).trans (show _ = some _ from rfl); have hqfBK448_1 := blk_frozen BK448.out 1; have hqzBK449_0 := (blk_cell BK449.out 0).trans (show _ = some _ from rfl); have hqfBK449_0 := blk_frozen BK449.out 0; have hqzBK449_1 := (blk_cell BK449.out 1).trans (show _ = some _ from rfl); have hqfBK449_1 := blk_frozen BK449.out 1))))
   replace BK447 := am_ (blk_drew BK447.out); replace BK448 := am_ (blk_drew BK448.out); replace BK449 := am_ (blk_drew BK449.out); replace HB := am_ (below_drew1 HB.out)
   refine start_ (n := 12) (S := fun w' => w'.cell? ⟨gb447, 0, none⟩ = some (.bool a0_0) ∧ w'.cell? ⟨gb447, 1, none⟩ = some (.slice A0_1 l0_1.length c0_1) ∧ w'.cell? ⟨gb448, 0, none⟩ = some (.bool a1_0) ∧ w'.cell? ⟨gb448, 1, none⟩ = some (.slice A1_1 l1_1.length c1_1)) (ds := []) #[false, false, false, false, false, false, false, false, false, false, false, false] (by kernel_rfl) rfl rfl ⟨(blk_cell BK447.out 0).trans rfl, (blk_cell BK447.out 1).trans rfl, (blk_cell BK448.out 0).trans rfl, (blk_cell BK448.out 1).trans rfl⟩ (fun hHeld => ?_); refine with_tabW wide_Add.tab5 wide_Add.bits5 (fun HT_ HW_ => ?_)
   generalize w45.drew = w51 at BK447 BK448 BK449 HB hHeld ⊢
   refine pure_ (i := 0) (N := some 29) (v := ?_) (a' := ?_) #[true, false, false, false, false, false, false, false, false, false, false, false] rfl rfl (any_of HT_.out (by kernel_rfl)) (fun _ _ _ h => h) (Or.inl ⟨by rfl, ?_⟩) ?_ ?_
   rotate_left
   ·intro w'
    go_simp
    with_reducible rfl
   rotate_left
   ·exact za_
   refine pure_ (i := 2) (N := some 31) (v := ?_) (a' := ?_) #[true, false, true, false, false, false, false, false, false, false, false, false] rfl rfl (any_of HT_.out (by kernel_rfl)) (fun _ _ _ h => h) (Or.inl ⟨by rfl, ?_⟩) ?_ ?_
   rotate_left
   ·intro w'
    go_simp
    with_reducible rfl
   rotate_left
   ·exact za_
   refine pure_ (i := 4) (N := some 33) (v := ?_) (a' := ?_) #[true, false, true, false, true, false, false, false, false, false, false, false] rfl rfl (any_of HT_.out (by kernel_rfl)) (fun _ _ _ h => h) (Or.inl ⟨by rfl, ?_⟩) ?_ ?_
   rotate_left
   ·intro w'
    go_simp
    with_reducible rfl
   rotate_left
   ·exact za_
   refine take_ (i := 1) (N := some 30) (v := ?_) (a' := ?_) #[true, true, true, false, true, false, false, false, false, false, false, false] rfl rfl (take_ofW HT_.out HW_.out (by kernel_rfl)) (fun _ _ _ h => h) (Or.inl ⟨by rfl, ?_⟩) hHeld ?_ ?_
   rotate_left
   ·rintro w' ⟨s0, s1, s2, s3⟩
    go_simp
    with_reducible rfl
   rotate_left
   ·exact za_
   refine take_ (i := 3) (N := some 32) (v := ?_) (a' := ?_) #[true, true, true, true, true, false, false, false, false, false, false, false] rfl rfl (take_ofW HT_.out HW_.out (by kernel_rfl)) (fun _ _ _ h => h) (Or.inl ⟨by rfl, ?_⟩) hHeld ?_ ?_
   rotate_left
   ·rintro w' ⟨s0, s1, s2, s3⟩
    go_simp
    with_reducible rfl
   rotate_left
   ·exact za_
   refine take_ (i := 5) (N := some 34) (v := ?_) (a' := ?_) #[true, true, true, true, true, true, false, false, false, false, false, false] rfl rfl (take_ofW HT_.out HW_.out (by kernel_rfl)) (fun _ _ _ h => h) (Or.inl ⟨by rfl, ?_⟩) hHeld ?_ ?_
   rotate_left
   ·rintro w' ⟨s0, s1, s2, s3⟩
    go_simp
    with_reducible rfl
   rotate_left
   ·exact za_
   refine one_ (i := 6) (N := some 35) #[true, true, true, true, true, true, true, false, false, false, false, false] rfl rfl (one_of HT_.out (by kernel_rfl)) (by decide) (fun K hK => ?_)
   refine goes_ Tryz.func65 (by kernel_rfl) rfl #[.slice A0_1 l0_1.length c0_1, .slice A1_1 l1_1.length c1_1] (by rfl) rfl rfl zq6 ?_
   with_reducible refine (wide_difference.calls _ _ l0_1 _ _ l1_1 t467 _ ?side1 ?side2 ?side3 ?side4 A41.out).mono ?_
   (case side1 => exact zq24)
   (case side2 => exact HC0_1.out)
   (case side3 => exact zq25)
   (case side4 => exact HC1_1.out)
   rintro e w52 ⟨v468, rfl, ho0, hb⟩
   refine ⟨_, rfl, ?_⟩
   have HO469 := am_ (Kd.R_lower (Kd.R_newM (M := fun k_ => (w.heap.size ≤ k_)) ho0 (below_size zq87) (fun k_ h_ => h_)) (below_size zq87)); replace BK447 := am_ (blk_below (g := gb447) (o := .cells #[.bool a0_0, .slice A0_1 l0_1.length c0_1] 33 (0, 0)) (zq9 BK447.out) hb); replace BK448 := am_ (blk_below (g := gb448) (o := .cells #[.bool a1_0, .slice A1_1 l1_1.length c1_1] 33 (0, 0)) (zq9 BK448.out) hb); replace BK449 := am_ (blk_below (g := gb449) (o := .cells #[.bool false, .slice none 0 0] 33 (0, 0)) (zq9 BK449.out) hb); replace HB := am_ (below_step zq87 hb); (try clear hb); (try clear ho0)
   obtain ⟨Ao53, co53, eo53⟩ := Kd.R_slice HO469.out
   (first | subst eo53 | (injection eo53 with f1_ f2_ f3_; have f4_ := f1_.symm; have f5_ := f3_.symm; clear f1_ f2_ f3_; subst f4_; subst f5_))
   refine hK.out _ _ ⟨(blk_cell BK447.out 0).trans rfl, (blk_cell BK447.out 1).trans rfl, (blk_cell BK448.out 0).trans rfl, (blk_cell BK448.out 1).trans rfl⟩ (fun hHeld => ?_)
   clear hK K
   refine norm_ (a' := ?_) ?_ ?_
   rotate_left
   ·show Act.put _ (some 35) _ = _
    exact za_
   refine one_ (i := 7) (N := some 36) #[true, true, true, true, true, true, true, true, false, false, false, false] rfl rfl (one_of HT_.out (by kernel_rfl)) (by decide) (fun K hK => ?_)
   refine goes_ Tryz.func53 (by kernel_rfl) rfl #[.bool a0_0, .slice Ao53 t467.length co53] (by rfl) rfl rfl zq6 ?_
   with_reducible refine (wide_signed.calls k a0_0 (fun k_ => some k_ = (.slice Ao53 t467.length co53 : Value).ownBlock) _ _ t467 t470 t471 t474 _ ?side1 A42.out).mono ?_
   (case side1 => exact Kd.R_V (Kd.R_tight rfl (Kd.R_types (Kd.R_types (Kd.R_types (HO469.out) BK447.out (by decide)) BK448.out (by decide)) BK449.out (by decide))))
   rintro e w54 ⟨v472, rfl, ho0, hb⟩
   refine ⟨_, rfl, ?_⟩
   have n0_ := am_ (Kd.R_below (zq7 HO469.out) hb); have n1_ := am_ (Kd.V_lower (Kd.V_mono (ok' := fun k_ => (w.heap.size ≤ k_) ∧ k_ ≠ gb447 ∧ k_ ≠ gb448 ∧ k_ ≠ gb449) ho0 (fun k_ hk_ => ⟨Or.elim hk_ (fun hs_ => ((Kd.R_types (Kd.R_types (Kd.R_types (HO469.out) BK447.out (by decide)) BK448.out (by decide)) BK449.out (by decide)).1 k_ hs_.symm).1.1.1.1) (fun hn_ => (Nat.le_trans (below_size zq87) hn_)), Or.elim hk_ (fun hs_ => ((Kd.R_types (Kd.R_types (Kd.R_types (HO469.out) BK447.out (by decide)) BK448.out (by decide)) BK449.out (by decide)).1 k_ hs_.symm).1.1.2) (fun hn_ => (Kd.freshB (g := gb447) (o := .cells #[.bool a0_0, .slice A0_1 l0_1.length c0_1] 33 (0, 0)) (zq9 BK447.out) k_ hn_)), Or.elim hk_ (fun hs_ => ((Kd.R_types (Kd.R_types (Kd.R_types (HO469.out) BK447.out (by decide)) BK448.out (by decide)) BK449.out (by decide)).1 k_ hs_.symm).1.2) (fun hn_ => (Kd.freshB (g := gb448) (o := .cells #[.bool a1_0, .slice A1_1 l1_1.length c1_1] 33 (0, 0)) (zq9 BK448.out) k_ hn_)), Or.elim hk_ (fun hs_ => ((Kd.R_types (Kd.R_types (Kd.R_types (HO469.out) BK447.out (by decide)) BK448.out (by decide)) BK449.out (by decide)).1 k_ hs_.symm).2) (fun hn_ => (Kd.freshB (g := gb449) (o := .cells #[.bool false, .slice none 0 0] 33 (0, 0)) (zq9 BK449.out) k_ hn_))⟩)) (below_size zq87)); have n2_ := am_ (blk_below (g := gb447) (o := .cells #[.bool a0_0, .slice A0_1 l0_1.length c0_1] 33 (0, 0)) (zq9 BK447.out) hb); have n3_ := am_ (blk_below (g := gb448) (o := .cells #[.bool a1_0, .slice A1_1 l1_1.length c1_1] 33 (0, 0)) (zq9 BK448.out) hb); have n4_ := am_ (blk_below (g := gb449) (o := .cells #[.bool false, .slice none 0 0] 33 (0, 0)) (zq9 BK449.out) hb); have n5_ := am_ (below_step zq87 hb); clear HO469 BK447 BK448 BK449 HB; have HO469 := n0_; have HO473 := n1_; have BK447 := n2_; have BK448 := n3_; have BK449 := n4_; have HB := n5_; clear n0_ n1_ n2_ n3_ n4_ n5_; (try clear hb); (try clear ho0)
   obtain ⟨Ao56, co56, eo56⟩ := Kd.V_slice HO473.out
   (first | subst eo56 | (injection eo56 with f1_ f2_ f3_; have f4_ := f1_.symm; have f5_ := f3_.symm; clear f1_ f2_ f3_; subst f4_; subst f5_))
   refine hK.out _ _ ⟨(blk_cell BK447.out 0).trans rfl, (blk_cell BK447.out 1).trans rfl, (blk_cell BK448.out 0).trans rfl, (blk_cell BK448.out 1).trans rfl⟩ (fun hHeld => ?_)
   clear hK K
   refine norm_ (a' := ?_) ?_ ?_
   rotate_left
   ·show Act.put _ (some 36) _ = _
    exact za_
   refine pure_ (i := 8) (N := some 37) (v := ?_) (a' := ?_) #[true, true, true, true, true, true, true, true, true, false, false, false] rfl rfl (any_of HT_.out (by kernel_rfl)) (fun _ _ _ h => h) (Or.inl ⟨by rfl, ?_⟩) ?_ ?_
   rotate_left
   ·intro w'
    go_simp
    with_reducible rfl
   rotate_left
   ·exact za_
   refine pure_ (i := 9) (N := some 38) (v := ?_) (a' := ?_) #[true, true, true, true, true, true, true, true, true, true, false, false] rfl rfl (any_of HT_.out (by kernel_rfl)) (fun _ _ _ h => h) (Or.inl ⟨by rfl, ?_⟩) ?_ ?_
   rotate_left
   ·intro w'
    go_simp
    with_reducible rfl
   rotate_left
   ·exact za_
   refine one_ (i := 10) (N := none) #[true, true, true, true, true, true, true, true, true, true, true, false] rfl rfl (one_of HT_.out (by kernel_rfl)) (by decide) (fun K hK => ?_)
   have hs55 : w54.cell? ⟨gb449, 0, none⟩ = some (.bool false) := (blk_cell BK449.out 0).trans rfl
   have hfs55 := blk_frozen BK449.out 0
   have hns55_0 := NB447_449.out
   have hns55_1 := NB448_449.out
   have hms55_0 := NB449_447.out
   have hms55_1 := NB449_448.out
   have hs57 : w54.cell? ⟨gb449, 1, none⟩ = some (.slice none 0 0) := (blk_cell BK449.out 1).trans rfl
   have hfs57 := blk_frozen BK449.out 1
   have hns57_0 := NB447_449.out
   have hns57_1 := NB448_449.out
   have hms57_0 := NB449_447.out
   have hms57_1 := NB449_448.out
   refine skip_ (w1 := ?_) (by rfl) rfl ?_ ?_
   rotate_left
   ·go_simp
    rfl
   refine hK.out _ _ ⟨((cell_far (p := ⟨gb449, _, none⟩) NB447_449.out _).trans (((cell_far (p := ⟨gb449, _, none⟩) NB447_449.out _).trans (hHeld.1)))), ((cell_far (p := ⟨gb449, _, none⟩) NB447_449.out _).trans (((cell_far (p := ⟨gb449, _, none⟩) NB447_449.out _).trans (hHeld.2.1)))), ((cell_far (p := ⟨gb449, _, none⟩) NB448_449.out _).trans (((cell_far (p := ⟨gb449, _, none⟩) NB448_449.out _).trans (hHeld.2.2.1)))), ((cell_far (p := ⟨gb449, _, none⟩) NB448_449.out _).trans (((cell_far (p := ⟨gb449, _, none⟩) NB448_449.out _).trans (hHeld.2.2.2))))⟩ (fun hHeld => ?_)
   clear hK K
   refine pure_ (i := 11) (N := some 5) (v := ?_) (a' := ?_) #[true, true, true, true, true, true, true, true, true, true, true, true] rfl rfl (any_of HT_.out (by kernel_rfl)) (fun _ _ _ h => h) (Or.inl ⟨by rfl, ?_⟩) ?_ ?_
   rotate_left
   ·intro w'
    go_simp
    with_reducible rfl
   rotate_left
   ·exact za_
   refine done_ (done_of HT_.out (by kernel_rfl)) ?_
   try go_wp2
   refine bodyPost_ret (results_ct rfl _ _ gb449 33 #[.bool t470, .slice Ao56 t471.length co56] (0, 0) _ rfl (by (with_reducible repeat (first | refine blk_drewN ?_ _ | refine blk_drew ?_ | refine blk_alloc ?_ _)); refine blk_put (cs := #[.bool t470, .slice none 0 0]) ?_ 1 _ rfl; (with_reducible repeat (first | refine blk_drewN ?_ _ | refine blk_drew ?_ | refine blk_alloc ?_ _)); refine blk_put (cs := #[.bool false, .slice none 0 0]) ?_ 0 _ rfl; (with_reducible repeat (first | refine blk_drewN ?_ _ | refine blk_drew ?_ | refine blk_alloc ?_ _)); exact BK449.out) Tryz.underlying33 rfl (by kernel_rfl)) rfl ?_
   exact ⟨_, by first | rfl | (simp [errW_none, errW_some] <;> rfl) | (simp [*, errW_none, errW_some] <;> rfl), by (with_reducible repeat (first | apply Kd.V_alloc | apply Kd.V_drewN | apply Kd.V_drew)); exact Kd.V_mono (Kd.V_far (p := ⟨gb449, 1, none⟩) (Kd.V_far (p := ⟨gb449, 0, none⟩) (Kd.V_mono HO473.out (fun k_ hk => (⟨hk, hk.2.2.2⟩ : _ ∧ k_ ≠ gb449))) (fun _ hk => hk.2) (.bool t470)) (fun _ hk => hk.2) (.slice Ao56 t471.length co56)) (fun _ hk => hk.1.1), by repeat (first | (with_reducible first | exact HB.out | apply below_alloc | apply pw_below_drewN | apply below_drew1 | refine below_set ?_ GE447.out | refine below_set ?_ GE448.out | refine below_set ?_ GE449.out) | exact HB.out)⟩

/-! ### wide_Sub: function 33 -/
def wide_Sub.f (k : Nat) (a0_0 : Bool) (l0_1 : List Int) (a1_0 : Bool) (l1_1 : List Int) : Option (Bool × List Int × Int) := (wide_Neg.f a1_0 l1_1).bind fun bt478 => ((wide_Add.f k a0_0 l0_1 bt478.1 bt478.2).bind fun bt482 => (some (bt482.1, bt482.2.1, bt482.2.2)))
theorem wide_Sub.mono : ∀ a0 a1 a2 a3 k, LeO (wide_Sub.f k a0 a1 a2 a3) (wide_Sub.f (k + 1) a0 a1 a2 a3) := by
 intro a0 a1 a2 a3 k
 unfold wide_Sub.f
 repeat' first
   | (with_reducible exact wide_Add.mono _ _ _ _ _)
   | (with_reducible exact LeO.refl _)
   | (with_reducible exact LeO.none _)
   | (with_reducible refine LeO.ite ?_ ?_)
   | (with_reducible refine LeO.bind ?_ (fun _ => ?_))
   | exact wide_Add.mono _ _ _ _ _
   | exact LeO.none _
   | refine LeO.ite ?_ ?_
   | refine LeO.bind ?_ (fun _ => ?_)
def wide_Sub.T1 : Bool × List (List Nat × List Nat) := (true, [([], []), ([], []), ([1], [1]), ([0, 2, 2], [0, 2]), ([3], [3]), ([3], [3]), ([4, 3, 0, 1, 2, 3, 4, 5], [4]), ([5, 6, 0, 1, 2, 3, 4, 5, 6], [5])])
def wide_Sub.B1 : List Nat := [0, 0, 2, 7, 15, 15, 63, 127]
theorem wide_Sub.tab1 : rtab .any (opsOf Tryz.f33 1) = wide_Sub.T1 := by kernel_rfl
theorem wide_Sub.bits1 : waitsOk wide_Sub.T1.2 wide_Sub.B1 = true := by kernel_rfl
set_option maxHeartbeats 8000000 in
set_option maxRecDepth 100000 in
theorem wide_Sub.calls (k : Nat) (a0_0 : Bool) (A0_1 : Option Addr) (c0_1 : Nat) (l0_1 : List Int) (a1_0 : Bool) (P1_1_ : Nat → Prop) (A1_1 : Option Addr) (c1_1 : Nat) (l1_1 : List Int) (r1 : Bool) (r2 : List Int) (r3 : Int) (w : World) (hr0_1 : Kd.C (Kd.int .u32) w A0_1 l0_1.length l0_1) (hc0_1 : l0_1.length ≤ c0_1) (hs1_1 : Kd.V (Kd.int .u32) 81 w w.heap.size (fun k_ => P1_1_ k_) (.slice A1_1 l1_1.length c1_1) l1_1) (h : wide_Sub.f k a0_0 l0_1 a1_0 l1_1 = some (r1, r2, r3)) :
  Calls Tryz.prog 33 #[.agg #[.bool a0_0, .slice A0_1 l0_1.length c0_1], .agg #[.bool a1_0, .slice A1_1 l1_1.length c1_1]] w fun e w' => ∃ v1_ : Value, e = .returned (.tuple #[.agg #[.bool r1, v1_], .int .i64 r3]) ∧ Kd.V (Kd.int .u32) 81 w' w.heap.size (fun k_ => (P1_1_ k_ ∨ w.heap.size ≤ k_)) v1_ r2 ∧ Below w.heap.size w w' := by
 have hu33 := Tryz.underlying33
 have HR0_1 := am_ hr0_1
 have HC0_1 := am_ hc0_1
 clear hr0_1 hc0_1
 have HO1_1 := am_ (show Kd.V (Kd.int .u32) 81 w w.heap.size (fun k_ => (P1_1_ k_ ∨ w.heap.size ≤ k_)) (.slice A1_1 l1_1.length c1_1) l1_1 from Kd.V_mono hs1_1 (fun k_ hk => .inl hk))
 have HB := am_ (Below.refl w.heap.size w)
 have H : ((wide_Neg.f a1_0 l1_1).bind fun bt478 => ((wide_Add.f k a0_0 l0_1 bt478.1 bt478.2).bind fun bt482 => (some (bt482.1, bt482.2.1, bt482.2.2)))) = some (r1, r2, r3) := h
 clear h
 replace H := Option.bind_eq_some_iff.mp H
 obtain ⟨⟨t478, t479⟩, A30, H⟩ := H
 replace H : ((wide_Add.f k a0_0 l0_1 t478 t479).bind fun bt482 => (some (bt482.1, bt482.2.1, bt482.2.2))) = some (r1, r2, r3) := H
 have A3 := am_ A30
 clear A30
 replace H := Option.bind_eq_some_iff.mp H
 obtain ⟨⟨t482, t483, t486⟩, A40, H⟩ := H
 replace H : (some (t482, t483, t486)) = some (r1, r2, r3) := H
 have A4 := am_ A40
 clear A40
 simp only [Option.some.injEq, Prod.mk.injEq] at H
 obtain ⟨rfl, rfl, rfl⟩ := H
 go_enter Tryz.func33, Tryz.ntmps33
 try go_wp2_with (first | ((with_reducible refine gate_dst (N := 2) rfl ?_); refine box_event ?hg (N := 2) ?hd (cs := #[.bool a0_0, .slice A0_1 l0_1.length c0_1]) (t := 33) ?hr ?_; (case hd => rfl); (case hg => rfl); (case hr => exact zq0); intro gb475 hg w5 hbox hb; have n0_ := am_ (Kd.V_below (Kd.V_elderB (zq1 HO1_1.out) gb475 (Nat.le_of_eq hg.symm)) hb); have n1_ := am_ (below_step zq2 hb); have n2_ := am_ (hbox); have n3_ := am_ ((by rw [hg]; exact (below_size zq2) : w.heap.size ≤ gb475)); clear HO1_1 HB; have HO1_1 := n0_; have HB := n1_; have BK475 := n2_; have GE475 := n3_; clear n0_ n1_ n2_ n3_; clear hb hbox hg) | ((with_reducible refine gate_dst (N := 3) rfl ?_); refine box_event ?hg (N := 3) ?hd (cs := #[.bool a1_0, .slice A1_1 l1_1.length c1_1]) (t := 33) ?hr ?_; (case hd => rfl); (case hg => rfl); (case hr => exact zq0); intro gb476 hg w6 hbox hb; have n0_ := am_ (Kd.V_below (Kd.V_elderB (zq1 HO1_1.out) gb476 (Nat.le_of_eq hg.symm)) hb); have n1_ := am_ (blk_below (g := gb475) (o := .cells #[.bool a0_0, .slice A0_1 l0_1.length c0_1] 33 (0, 0)) (zq9 BK475.out) hb); have n2_ := am_ (below_step zq88 hb); have n3_ := am_ (hbox); have n4_ := am_ ((by rw [hg]; exact (below_size zq88) : w.heap.size ≤ gb476)); clear HO1_1 BK475 HB; have HO1_1 := n0_; have BK475 := n1_; have HB := n2_; have BK476 := n3_; have GE476 := n4_; clear n0_ n1_ n2_ n3_ n4_; clear hb hbox hg) | ((with_reducible refine gate_dst (N := 4) rfl ?_); refine box_event ?hg (N := 4) ?hd (cs := #[.bool false, .slice none 0 0]) (t := 33) ?hr ?_; (case hd => rfl); (case hg => rfl); (case hr => exact zq0); intro gb477 hg w7 hbox hb; have n0_ := am_ (Kd.V_below (Kd.V_elderB (zq1 HO1_1.out) gb477 (Nat.le_of_eq hg.symm)) hb); have n1_ := am_ (blk_below (g := gb475) (o := .cells #[.bool a0_0, .slice A0_1 l0_1.length c0_1] 33 (0, 0)) (zq9 BK475.out) hb); have n2_ := am_ (blk_below (g := gb476) (o := .cells #[.bool a1_0, .slice A1_1 l1_1.length c1_1] 33 (0, 0)) (zq9 BK476.out) hb); have n3_ := am_ (below_step zq89 hb); have n4_ := am_ (hbox); have n5_ := am_ ((by rw [hg]; exact (below_size zq89) : w.heap.size ≤ gb477)); have n6_ := am_ ((by rw [hg]; exact Nat.ne_of_lt (blk_lt (g := gb475) (zq9 BK475.out)) : gb475 ≠ gb477)); have n7_ := am_ ((by rw [hg]; exact Nat.ne_of_gt (blk_lt (g := gb475) (zq9 BK475.out)) : gb477 ≠ gb475)); have n8_ := am_ ((by rw [hg]; exact Nat.ne_of_lt (blk_lt (g := gb476) (zq9 BK476.out)) : gb476 ≠ gb477)); have n9_ := am_ ((by rw [hg]; exact Nat.ne_of_gt (blk_lt (g := gb476) (zq9 BK476.out)) : gb477 ≠ gb476)); clear HO1_1 BK475 BK476 HB; have HO1_1 := n0_; have BK475 := n1_; have BK476 := n2_; have HB := n3_; have BK477 := n4_; have GE477 := n5_; have NB475_477 := n6_; have NB477_475 := n7_; have NB476_477 := n8_; have NB477_476 := n9_; clear n0_ n1_ n2_ n3_ n4_ n5_ n6_ n7_ n8_ n9_; clear hb hbox hg))
 replace HO1_1 := am_ (Kd.V_drew HO1_1.out); replace BK475 := am_ (blk_drew BK475.out); replace BK476 := am_ (blk_drew BK476.out); replace BK477 := am_ (blk_drew BK477.out); replace HB := am_ (below_drew1 HB.out)
 refine start_ (n := 8) (S := fun w' => w'.cell? ⟨gb475, 0, none⟩ = some (.bool a0_0) ∧ w'.cell? ⟨gb475, 1, none⟩ = some (.slice A0_1 l0_1.length c0_1) ∧ w'.cell? ⟨gb476, 0, none⟩ = some (.bool a1_0) ∧ w'.cell? ⟨gb476, 1, none⟩ = some (.slice A1_1 l1_1.length c1_1)) (ds := []) #[false, false, false, false, false, false, false, false] (by kernel_rfl) rfl rfl ⟨(blk_cell BK475.out 0).trans rfl, (blk_cell BK475.out 1).trans rfl, (blk_cell BK476.out 0).trans rfl, (blk_cell BK476.out 1).trans rfl⟩ (fun hHeld => ?_); refine with_tabW wide_Sub.tab1 wide_Sub.bits1 (fun HT_ HW_ => ?_)
 generalize w7.drew = w8 at HO1_1 BK475 BK476 BK477 HB hHeld ⊢
 refine take_ (i := 0) (N := some 6) (v := ?_) (a' := ?_) #[true, false, false, false, false, false, false, false] rfl rfl (take_ofW HT_.out HW_.out (by kernel_rfl)) (fun _ _ _ h => h) (Or.inl ⟨by rfl, ?_⟩) hHeld ?_ ?_
 rotate_left
 ·rintro w' ⟨s0, s1, s2, s3⟩
  go_simp
  with_reducible rfl
 rotate_left
 ·exact za_
 refine take_ (i := 1) (N := some 7) (v := ?_) (a' := ?_) #[true, true, false, false, false, false, false, false] rfl rfl (take_ofW HT_.out HW_.out (by kernel_rfl)) (fun _ _ _ h => h) (Or.inl ⟨by rfl, ?_⟩) hHeld ?_ ?_
 rotate_left
 ·rintro w' ⟨s0, s1, s2, s3⟩
  go_simp
  with_reducible rfl
 rotate_left
 ·exact za_
 refine one_ (i := 2) (N := some 8) #[true, true, true, false, false, false, false, false] rfl rfl (one_of HT_.out (by kernel_rfl)) (by decide) (fun K hK => ?_)
 refine goes_ Tryz.func40 (by kernel_rfl) rfl #[.agg #[.bool a1_0, .slice A1_1 l1_1.length c1_1]] (by rfl) rfl rfl zq6 ?_
 with_reducible refine (wide_Neg.calls a1_0 (fun k_ => ((((P1_1_ k_ ∨ w.heap.size ≤ k_) ∧ k_ ≠ gb475) ∧ k_ ≠ gb476) ∧ k_ ≠ gb477)) _ _ l1_1 t478 t479 _ ?side1 A3.out).mono ?_
 (case side1 => exact HO1_1.out)
 rintro e w9 ⟨v480, rfl, ho0, hb⟩
 refine ⟨_, rfl, ?_⟩
 have HO481 := am_ (Kd.V_lower (Kd.V_mono (ok' := fun k_ => (P1_1_ k_ ∨ w.heap.size ≤ k_) ∧ k_ ≠ gb475 ∧ k_ ≠ gb476 ∧ k_ ≠ gb477) ho0 (fun k_ hk_ => ⟨Or.elim hk_ (fun hs_ => hs_.1.1.1) (fun hn_ => (.inr (Nat.le_trans (below_size zq90) hn_))), Or.elim hk_ (fun hs_ => hs_.1.1.2) (fun hn_ => (Kd.freshB (g := gb475) (o := .cells #[.bool a0_0, .slice A0_1 l0_1.length c0_1] 33 (0, 0)) (zq9 BK475.out) k_ hn_)), Or.elim hk_ (fun hs_ => hs_.1.2) (fun hn_ => (Kd.freshB (g := gb476) (o := .cells #[.bool a1_0, .slice A1_1 l1_1.length c1_1] 33 (0, 0)) (zq9 BK476.out) k_ hn_)), Or.elim hk_ (fun hs_ => hs_.2) (fun hn_ => (Kd.freshB (g := gb477) (o := .cells #[.bool false, .slice none 0 0] 33 (0, 0)) (zq9 BK477.out) k_ hn_))⟩)) (below_size zq90)); replace BK475 := am_ (blk_below (g := gb475) (o := .cells #[.bool a0_0, .slice A0_1 l0_1.length c0_1] 33 (0, 0)) (zq9 BK475.out) hb); replace BK476 := am_ (blk_below (g := gb476) (o := .cells #[.bool a1_0, .slice A1_1 l1_1.length c1_1] 33 (0, 0)) (zq9 BK476.out) hb); replace BK477 := am_ (blk_below (g := gb477) (o := .cells #[.bool false, .slice none 0 0] 33 (0, 0)) (zq9 BK477.out) hb); replace HB := am_ (below_step zq90 hb); (try clear hb); (try clear ho0)
 obtain ⟨Ao10, co10, eo10⟩ := Kd.V_slice HO481.out
 (first | subst eo10 | (injection eo10 with f1_ f2_ f3_; have f4_ := f1_.symm; have f5_ := f3_.symm; clear f1_ f2_ f3_; subst f4_; subst f5_))
 refine hK.out _ _ ⟨(blk_cell BK475.out 0).trans rfl, (blk_cell BK475.out 1).trans rfl, (blk_cell BK476.out 0).trans rfl, (blk_cell BK476.out 1).trans rfl⟩ (fun hHeld => ?_)
 clear hK K
 refine norm_ (a' := ?_) ?_ ?_
 rotate_left
 ·show Act.put _ (some 8) _ = _
  exact za_
 refine one_ (i := 3) (N := some 9) #[true, true, true, true, false, false, false, false] rfl rfl (one_of HT_.out (by kernel_rfl)) (by decide) (fun K hK => ?_)
 refine goes_ Tryz.func32 (by kernel_rfl) rfl #[.agg #[.bool a0_0, .slice A0_1 l0_1.length c0_1], .agg #[.bool t478, .slice Ao10 t479.length co10]] (by rfl) rfl rfl zq6 ?_
 with_reducible refine (wide_Add.calls k a0_0 _ _ l0_1 t478 _ _ t479 t482 t483 t486 _ ?side1 ?side2 ?side3 ?side4 A4.out).mono ?_
 (case side1 => exact zq24)
 (case side2 => exact HC0_1.out)
 (case side3 => exact (zq31 HO481.out))
 (case side4 => exact (Kd.V_reads' HO481.out).2.1)
 rintro e w11 ⟨v484, rfl, ho0, hb⟩
 refine ⟨_, rfl, ?_⟩
 have HO485 := am_ (Kd.V_lower (Kd.V_mono (ok' := fun k_ => (P1_1_ k_ ∨ w.heap.size ≤ k_) ∧ k_ ≠ gb475 ∧ k_ ≠ gb476 ∧ k_ ≠ gb477) ho0 (fun k_ hk_ => ⟨(.inr (Nat.le_trans (below_size zq90) hk_)), (Kd.freshB (g := gb475) (o := .cells #[.bool a0_0, .slice A0_1 l0_1.length c0_1] 33 (0, 0)) (zq9 BK475.out) k_ hk_), (Kd.freshB (g := gb476) (o := .cells #[.bool a1_0, .slice A1_1 l1_1.length c1_1] 33 (0, 0)) (zq9 BK476.out) k_ hk_), (Kd.freshB (g := gb477) (o := .cells #[.bool false, .slice none 0 0] 33 (0, 0)) (zq9 BK477.out) k_ hk_)⟩)) (below_size zq90)); replace BK475 := am_ (blk_below (g := gb475) (o := .cells #[.bool a0_0, .slice A0_1 l0_1.length c0_1] 33 (0, 0)) (zq9 BK475.out) hb); replace BK476 := am_ (blk_below (g := gb476) (o := .cells #[.bool a1_0, .slice A1_1 l1_1.length c1_1] 33 (0, 0)) (zq9 BK476.out) hb); replace BK477 := am_ (blk_below (g := gb477) (o := .cells #[.bool false, .slice none 0 0] 33 (0, 0)) (zq9 BK477.out) hb); replace HB := am_ (below_step zq90 hb); (try clear hb); (try clear ho0)
 obtain ⟨Ao13, co13, eo13⟩ := Kd.V_slice HO485.out
 (first | subst eo13 | (injection eo13 with f1_ f2_ f3_; have f4_ := f1_.symm; have f5_ := f3_.symm; clear f1_ f2_ f3_; subst f4_; subst f5_))
 refine hK.out _ _ ⟨(blk_cell BK475.out 0).trans rfl, (blk_cell BK475.out 1).trans rfl, (blk_cell BK476.out 0).trans rfl, (blk_cell BK476.out 1).trans rfl⟩ (fun hHeld => ?_)
 clear hK K
 refine norm_ (a' := ?_) ?_ ?_
 rotate_left
 ·show Act.put _ (some 9) _ = _
  exact za_
 refine pure_ (i := 4) (N := some 10) (v := ?_) (a' := ?_) #[true, true, true, true, true, false, false, false] rfl rfl (any_of HT_.out (by kernel_rfl)) (fun _ _ _ h => h) (Or.inl ⟨by rfl, ?_⟩) ?_ ?_
 rotate_left
 ·intro w'
  go_simp
  with_reducible rfl
 rotate_left
 ·exact za_
 refine pure_ (i := 5) (N := some 11) (v := ?_) (a' := ?_) #[true, true, true, true, true, true, false, false] rfl rfl (any_of HT_.out (by kernel_rfl)) (fun _ _ _ h => h) (Or.inl ⟨by rfl, ?_⟩) ?_ ?_
 rotate_left
 ·intro w'
  go_simp
  with_reducible rfl
 rotate_left
 ·exact za_
 refine one_ (i := 6) (N := none) #[true, true, true, true, true, true, true, false] rfl rfl (one_of HT_.out (by kernel_rfl)) (by decide) (fun K hK => ?_)
 have hs12 : w11.cell? ⟨gb477, 0, none⟩ = some (.bool false) := (blk_cell BK477.out 0).trans rfl
 have hfs12 := blk_frozen BK477.out 0
 have hns12_0 := NB475_477.out
 have hns12_1 := NB476_477.out
 have hms12_0 := NB477_475.out
 have hms12_1 := NB477_476.out
 have hs14 : w11.cell? ⟨gb477, 1, none⟩ = some (.slice none 0 0) := (blk_cell BK477.out 1).trans rfl
 have hfs14 := blk_frozen BK477.out 1
 have hns14_0 := NB475_477.out
 have hns14_1 := NB476_477.out
 have hms14_0 := NB477_475.out
 have hms14_1 := NB477_476.out
 refine skip_ (w1 := ?_) (by rfl) rfl ?_ ?_
 rotate_left
 ·go_simp
  rfl
 refine hK.out _ _ ⟨((cell_far (p := ⟨gb477, _, none⟩) NB475_477.out _).trans (((cell_far (p := ⟨gb477, _, none⟩) NB475_477.out _).trans (hHeld.1)))), ((cell_far (p := ⟨gb477, _, none⟩) NB475_477.out _).trans (((cell_far (p := ⟨gb477, _, none⟩) NB475_477.out _).trans (hHeld.2.1)))), ((cell_far (p := ⟨gb477, _, none⟩) NB476_477.out _).trans (((cell_far (p := ⟨gb477, _, none⟩) NB476_477.out _).trans (hHeld.2.2.1)))), ((cell_far (p := ⟨gb477, _, none⟩) NB476_477.out _).trans (((cell_far (p := ⟨gb477, _, none⟩) NB476_477.out _).trans (hHeld.2.2.2))))⟩ (fun hHeld => ?_)
 clear hK K
 refine pure_ (i := 7) (N := some 5) (v := ?_) (a' := ?_) #[true, true, true, true, true, true, true, true] rfl rfl (any_of HT_.out (by kernel_rfl)) (fun _ _ _ h => h) (Or.inl ⟨by rfl, ?_⟩) ?_ ?_
 rotate_left
 ·intro w'
  go_simp
  with_reducible rfl
 rotate_left
 ·exact za_
 refine done_ (done_of HT_.out (by kernel_rfl)) ?_
 try go_wp2
 refine bodyPost_ret (results_ct rfl _ _ gb477 33 #[.bool t482, .slice Ao13 t483.length co13] (0, 0) _ rfl (by (with_reducible repeat (first | refine blk_drewN ?_ _ | refine blk_drew ?_ | refine blk_alloc ?_ _)); refine blk_put (cs := #[.bool t482, .slice none 0 0]) ?_ 1 _ rfl; (with_reducible repeat (first | refine blk_drewN ?_ _ | refine blk_drew ?_ | refine blk_alloc ?_ _)); refine blk_put (cs := #[.bool false, .slice none 0 0]) ?_ 0 _ rfl; (with_reducible repeat (first | refine blk_drewN ?_ _ | refine blk_drew ?_ | refine blk_alloc ?_ _)); exact BK477.out) Tryz.underlying33 rfl (by kernel_rfl)) rfl ?_
 exact ⟨_, by first | rfl | (simp [errW_none, errW_some] <;> rfl) | (simp [*, errW_none, errW_some] <;> rfl), by (with_reducible repeat (first | apply Kd.V_alloc | apply Kd.V_drewN | apply Kd.V_drew)); exact Kd.V_mono (Kd.V_far (p := ⟨gb477, 1, none⟩) (Kd.V_far (p := ⟨gb477, 0, none⟩) (Kd.V_mono HO485.out (fun k_ hk => (⟨hk, hk.2.2.2⟩ : _ ∧ k_ ≠ gb477))) (fun _ hk => hk.2) (.bool t482)) (fun _ hk => hk.2) (.slice Ao13 t483.length co13)) (fun _ hk => hk.1.1), by repeat (first | (with_reducible first | exact HB.out | apply below_alloc | apply pw_below_drewN | apply below_drew1 | refine below_set ?_ GE475.out | refine below_set ?_ GE476.out | refine below_set ?_ GE477.out) | exact HB.out)⟩

end Go.Proofs.YtlceokefdihdkaaGreatDoor.X
