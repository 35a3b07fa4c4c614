-- Written by a program of this session (xprint) out of the translation: Lean checks it.
import Derived.Test.YtlceokefdihdkaaGreatDoorXx0
import Derived.Test.YtlceokefdihdkaaGreatDoorXx1
import Derived.Test.YtlceokefdihdkaaGreatDoorXx2
namespace Go.Proofs.YtlceokefdihdkaaGreatDoor.X
open Go.RowKit Go.Proofs.YtlceokefdihdkaaGreatDoorW.PrintWords Go.Proofs.YtlceokefdihdkaaGreatDoorW.PrintLast Go.Proofs.YtlceokefdihdkaaGreatDoorW.PrintMore
attribute [local go_sem] max2_int min2_int max_two min_two max_three min_three max_four min_four   -- for this text's walks alone
set_option linter.unusedVariables false
set_option linter.unusedSimpArgs false

/-! ### worldmintref05_Add: function 29 -/
def worldmintref05_Add.f (k : Nat) (a0_0 : Bool) (l0_1 : List Int) (a1_0 : Bool) (l1_1 : List Int) : Option (Bool × List Int) := if (a0_0 == a1_0) = true then ((worldmintref05_plus.f k l0_1 l1_1).bind fun t155 => ((worldmintref05_normal.f k a0_0 t155).bind fun bt158 => (some (bt158.1, bt158.2)))) else ((worldmintref05_compared.f k l0_1 l1_1).bind fun t162 => (if t162 < 0 then ((worldmintref05_minus.f k l1_1 l0_1).bind fun t163 => ((worldmintref05_normal.f k a1_0 t163).bind fun bt166 => (some (bt166.1, bt166.2)))) else ((worldmintref05_minus.f k l0_1 l1_1).bind fun t170 => ((worldmintref05_normal.f k a0_0 t170).bind fun bt173 => (some (bt173.1, bt173.2))))))
theorem worldmintref05_Add.mono : ∀ a0 a1 a2 a3 k, LeO (worldmintref05_Add.f k a0 a1 a2 a3) (worldmintref05_Add.f (k + 1) a0 a1 a2 a3) := by
 intro a0 a1 a2 a3 k
 unfold worldmintref05_Add.f
 repeat' first
   | (with_reducible exact worldmintref05_compared.mono _ _ _)
   | (with_reducible exact worldmintref05_minus.mono _ _ _)
   | (with_reducible exact worldmintref05_normal.mono _ _ _)
   | (with_reducible exact worldmintref05_plus.mono _ _ _)
   | (with_reducible exact LeO.refl _)
   | (with_reducible exact LeO.none _)
   | (with_reducible refine LeO.ite ?_ ?_)
   | (with_reducible refine LeO.bind ?_ (fun _ => ?_))
   | exact worldmintref05_compared.mono _ _ _
   | exact worldmintref05_minus.mono _ _ _
   | exact worldmintref05_normal.mono _ _ _
   | exact worldmintref05_plus.mono _ _ _
   | exact LeO.none _
   | refine LeO.ite ?_ ?_
   | refine LeO.bind ?_ (fun _ => ?_)
def worldmintref05_Add.T2 : Bool × List (List Nat × List Nat) := (true, [([], []), ([0], [0]), ([], []), ([2], [2]), ([], []), ([4], [4]), ([3, 5], [3, 5]), ([1, 6, 6], [1, 6]), ([7, 7, 0, 1, 2, 3, 4, 5, 6, 7], [7])])
def worldmintref05_Add.B2 : List Nat := [0, 1, 0, 4, 0, 16, 60, 127, 255]
theorem worldmintref05_Add.tab2 : rtab .any (opsOf Tryz.f29 2) = worldmintref05_Add.T2 := by kernel_rfl
theorem worldmintref05_Add.bits2 : waitsOk worldmintref05_Add.T2.2 worldmintref05_Add.B2 = true := by kernel_rfl
def worldmintref05_Add.T4 : Bool × List (List Nat × List Nat) := (true, [([], []), ([0], [0]), ([], []), ([2], [2]), ([], []), ([4], [4]), ([3, 5], [3, 5]), ([1, 6, 6], [1, 6]), ([7, 7, 0, 1, 2, 3, 4, 5, 6, 7], [7])])
def worldmintref05_Add.B4 : List Nat := [0, 1, 0, 4, 0, 16, 60, 127, 255]
theorem worldmintref05_Add.tab4 : rtab .any (opsOf Tryz.f29 4) = worldmintref05_Add.T4 := by kernel_rfl
theorem worldmintref05_Add.bits4 : waitsOk worldmintref05_Add.T4.2 worldmintref05_Add.B4 = true := by kernel_rfl
def worldmintref05_Add.T5 : Bool × List (List Nat × List Nat) := (true, [([], []), ([0], [0]), ([], []), ([2], [2]), ([], []), ([4], [4]), ([3, 5], [3, 5]), ([1, 6, 6], [1, 6]), ([7, 7, 0, 1, 2, 3, 4, 5, 6, 7], [7])])
def worldmintref05_Add.B5 : List Nat := [0, 1, 0, 4, 0, 16, 60, 127, 255]
theorem worldmintref05_Add.tab5 : rtab .any (opsOf Tryz.f29 5) = worldmintref05_Add.T5 := by kernel_rfl
theorem worldmintref05_Add.bits5 : waitsOk worldmintref05_Add.T5.2 worldmintref05_Add.B5 = true := by kernel_rfl
set_option maxHeartbeats 8000000 in
set_option maxRecDepth 100000 in
theorem worldmintref05_Add.calls (k : Nat) (a0_0 : Bool) (A0_1 : Option Addr) (c0_1 : Nat) (l0_1 : List Int) (a1_0 : Bool) (A1_1 : Option Addr) (c1_1 : Nat) (l1_1 : List Int) (r1 : Bool) (r2 : List Int) (w : World) (hr0_1 : Kd.C (Kd.int .i64) w A0_1 l0_1.length l0_1) (hc0_1 : l0_1.length ≤ c0_1) (hr1_1 : Kd.C (Kd.int .i64) w A1_1 l1_1.length l1_1) (hc1_1 : l1_1.length ≤ c1_1) (h : worldmintref05_Add.f k a0_0 l0_1 a1_0 l1_1 = some (r1, r2)) :
  Calls Tryz.prog 29 #[.agg #[.bool a0_0, .slice A0_1 l0_1.length c0_1], .agg #[.bool a1_0, .slice A1_1 l1_1.length c1_1]] w fun e w' => ∃ v1_ : Value, e = .returned (.agg #[.bool r1, v1_]) ∧ Kd.V (Kd.int .i64) 3 w' w.heap.size (fun k_ => (w.heap.size ≤ k_)) v1_ r2 ∧ Below w.heap.size w w' := by
 have hu25 := Tryz.underlying25
 have HR0_1 := am_ hr0_1
 have HC0_1 := am_ hc0_1
 clear hr0_1 hc0_1
 have HR1_1 := am_ hr1_1
 have HC1_1 := am_ hc1_1
 clear hr1_1 hc1_1
 have HB := am_ (Below.refl w.heap.size w)
 have H : (if (a0_0 == a1_0) = true then ((worldmintref05_plus.f k l0_1 l1_1).bind fun t155 => ((worldmintref05_normal.f k a0_0 t155).bind fun bt158 => (some (bt158.1, bt158.2)))) else ((worldmintref05_compared.f k l0_1 l1_1).bind fun t162 => (if t162 < 0 then ((worldmintref05_minus.f k l1_1 l0_1).bind fun t163 => ((worldmintref05_normal.f k a1_0 t163).bind fun bt166 => (some (bt166.1, bt166.2)))) else ((worldmintref05_minus.f k l0_1 l1_1).bind fun t170 => ((worldmintref05_normal.f k a0_0 t170).bind fun bt173 => (some (bt173.1, bt173.2))))))) = some (r1, r2) := h
 clear h
 by_cases c3 : (a0_0 == a1_0) = true
 ·rw [if_pos c3] at H
  have c3b0 : (a0_0 == a1_0) = true := c3
  (try (have c3b1 : decide (a0_0 = a1_0) = true := by simpa using c3))
  (try (have c3b2 : (a0_0 == a1_0) = true := by simpa using c3))
  clear c3
  replace H := Option.bind_eq_some_iff.mp H
  obtain ⟨t155, A40, H⟩ := H
  replace H : ((worldmintref05_normal.f k a0_0 t155).bind fun bt158 => (some (bt158.1, bt158.2))) = some (r1, r2) := H
  have A4 := am_ A40
  clear A40
  replace H := Option.bind_eq_some_iff.mp H
  obtain ⟨⟨t158, t159⟩, A50, H⟩ := H
  replace H : (some (t158, t159)) = some (r1, r2) := H
  have A5 := am_ A50
  clear A50
  simp only [Option.some.injEq, Prod.mk.injEq] at H
  obtain ⟨rfl, rfl⟩ := H
  go_enter Tryz.func29, Tryz.ntmps29
  try go_wp2_with (first | ((with_reducible refine gate_dst (N := 2) rfl ?_); refine box_event ?hg (N := 2) ?hd (cs := #[.bool a0_0, .slice A0_1 l0_1.length c0_1]) (t := 25) ?hr ?_; (case hd => rfl); (case hg => rfl); (case hr => exact zq0); intro gb152 hg w6 hbox hb; have n0_ := am_ (below_step zq2 hb); have n1_ := am_ (hbox); have n2_ := am_ ((by rw [hg]; exact (below_size zq2) : w.heap.size ≤ gb152)); clear HB; have HB := n0_; have BK152 := n1_; have GE152 := n2_; clear n0_ n1_ n2_; clear hb hbox hg) | ((with_reducible refine gate_dst (N := 3) rfl ?_); refine box_event ?hg (N := 3) ?hd (cs := #[.bool a1_0, .slice A1_1 l1_1.length c1_1]) (t := 25) ?hr ?_; (case hd => rfl); (case hg => rfl); (case hr => exact zq0); intro gb153 hg w7 hbox hb; have n0_ := am_ (blk_below (g := gb152) (o := .cells #[.bool a0_0, .slice A0_1 l0_1.length c0_1] 25 (0, 0)) (zq9 BK152.out) hb); have n1_ := am_ (below_step zq22 hb); have n2_ := am_ (hbox); have n3_ := am_ ((by rw [hg]; exact (below_size zq22) : w.heap.size ≤ gb153)); have n4_ := am_ ((by rw [hg]; exact Nat.ne_of_lt (blk_lt (g := gb152) (zq9 BK152.out)) : gb152 ≠ gb153)); have n5_ := am_ ((by rw [hg]; exact Nat.ne_of_gt (blk_lt (g := gb152) (zq9 BK152.out)) : gb153 ≠ gb152)); clear BK152 HB; have BK152 := n0_; have HB := n1_; have BK153 := n2_; have GE153 := n3_; have NB152_153 := n4_; have NB153_152 := n5_; clear n0_ n1_ n2_ n3_ n4_ n5_; clear hb hbox hg) | ((with_reducible refine gate_dst (N := 4) rfl ?_); refine box_event ?hg (N := 4) ?hd (cs := #[.bool false, .slice none 0 0]) (t := 25) ?hr ?_; (case hd => rfl); (case hg => rfl); (case hr => exact zq0); intro gb154 hg w8 hbox hb; have n0_ := am_ (blk_below (g := gb152) (o := .cells #[.bool a0_0, .slice A0_1 l0_1.length c0_1] 25 (0, 0)) (zq9 BK152.out) hb); have n1_ := am_ (blk_below (g := gb153) (o := .cells #[.bool a1_0, .slice A1_1 l1_1.length c1_1] 25 (0, 0)) (zq9 BK153.out) hb); have n2_ := am_ (below_step zq23 hb); have n3_ := am_ (hbox); have n4_ := am_ ((by rw [hg]; exact (below_size zq23) : w.heap.size ≤ gb154)); have n5_ := am_ ((by rw [hg]; exact Nat.ne_of_lt (blk_lt (g := gb152) (zq9 BK152.out)) : gb152 ≠ gb154)); have n6_ := am_ ((by rw [hg]; exact Nat.ne_of_gt (blk_lt (g := gb152) (zq9 BK152.out)) : gb154 ≠ gb152)); have n7_ := am_ ((by rw [hg]; exact Nat.ne_of_lt (blk_lt (g := gb153) (zq9 BK153.out)) : gb153 ≠ gb154)); have n8_ := am_ ((by rw [hg]; exact Nat.ne_of_gt (blk_lt (g := gb153) (zq9 BK153.out)) : gb154 ≠ gb153)); clear BK152 BK153 HB; have BK152 := n0_; have BK153 := n1_; have HB := n2_; have BK154 := n3_; have GE154 := n4_; have NB152_154 := n5_; have NB154_152 := n6_; have NB153_154 := n7_; have NB154_153 := n8_; clear n0_ n1_ n2_ n3_ n4_ n5_ n6_ n7_ n8_; clear hb hbox hg; have hnb9 := NB152_153.out; have hnc9 := NB153_152.out; have hnb10 := NB152_154.out; have hnc10 := NB154_152.out; have hcz11_0 : w8.cell? ⟨gb152, 0, none⟩ = some (.bool a0_0) := (blk_cell BK152.out 0).trans rfl; have hcz11_1 : w8.cell? ⟨gb152, 1, none⟩ = some (.slice A0_1 l0_1.length c0_1) := (blk_cell BK152.out 1).trans rfl; have hfz11_0 := blk_frozen BK152.out 0; have hfz11_1 := blk_frozen BK152.out 1; have hnb12 := NB153_154.out; have hnc12 := NB154_153.out; have hcz13_0 : w8.cell? ⟨gb153, 0, none⟩ = some (.bool a1_0) := (blk_cell BK153.out 0).trans rfl; have hcz13_1 : w8.cell? ⟨gb153, 1, none⟩ = some (.slice A1_1 l1_1.length c1_1) := (blk_cell BK153.out 1).trans rfl; have hfz13_0 := blk_frozen BK153.out 0; have hfz13_1 := blk_frozen BK153.out 1))
  replace BK152 := am_ (blk_drew BK152.out); replace BK153 := am_ (blk_drew BK153.out); replace BK154 := am_ (blk_drew BK154.out); replace HB := am_ (below_drew1 HB.out)
  refine start_ (n := 9) (S := fun w' => w'.cell? ⟨gb152, 0, none⟩ = some (.bool a0_0) ∧ w'.cell? ⟨gb152, 1, none⟩ = some (.slice A0_1 l0_1.length c0_1) ∧ w'.cell? ⟨gb153, 0, none⟩ = some (.bool a1_0) ∧ w'.cell? ⟨gb153, 1, none⟩ = some (.slice A1_1 l1_1.length c1_1)) (ds := []) #[false, false, false, false, false, false, false, false, false] (by kernel_rfl) rfl rfl ⟨(blk_cell BK152.out 0).trans rfl, (blk_cell BK152.out 1).trans rfl, (blk_cell BK153.out 0).trans rfl, (blk_cell BK153.out 1).trans rfl⟩ (fun hHeld => ?_); refine with_tabW worldmintref05_Add.tab2 worldmintref05_Add.bits2 (fun HT_ HW_ => ?_)
  generalize w8.drew = w14 at BK152 BK153 BK154 HB hHeld ⊢
  refine pure_ (i := 0) (N := some 10) (v := ?_) (a' := ?_) #[true, false, false, false, false, false, false, false, false] rfl rfl (any_of HT_.out (by kernel_rfl)) (fun _ _ _ h => h) (Or.inl ⟨by rfl, ?_⟩) ?_ ?_
  rotate_left
  ·intro w'
   go_simp
   with_reducible rfl
  rotate_left
  ·exact za_
  refine pure_ (i := 2) (N := some 12) (v := ?_) (a' := ?_) #[true, false, true, false, false, false, false, false, false] rfl rfl (any_of HT_.out (by kernel_rfl)) (fun _ _ _ h => h) (Or.inl ⟨by rfl, ?_⟩) ?_ ?_
  rotate_left
  ·intro w'
   go_simp
   with_reducible rfl
  rotate_left
  ·exact za_
  refine pure_ (i := 4) (N := some 14) (v := ?_) (a' := ?_) #[true, false, true, false, true, false, false, false, false] rfl rfl (any_of HT_.out (by kernel_rfl)) (fun _ _ _ h => h) (Or.inl ⟨by rfl, ?_⟩) ?_ ?_
  rotate_left
  ·intro w'
   go_simp
   with_reducible rfl
  rotate_left
  ·exact za_
  refine take_ (i := 1) (N := some 11) (v := ?_) (a' := ?_) #[true, true, true, false, true, false, false, false, false] rfl rfl (take_ofW HT_.out HW_.out (by kernel_rfl)) (fun _ _ _ h => h) (Or.inl ⟨by rfl, ?_⟩) hHeld ?_ ?_
  rotate_left
  ·rintro w' ⟨s0, s1, s2, s3⟩
   go_simp
   with_reducible rfl
  rotate_left
  ·exact za_
  refine take_ (i := 3) (N := some 13) (v := ?_) (a' := ?_) #[true, true, true, true, true, false, false, false, false] rfl rfl (take_ofW HT_.out HW_.out (by kernel_rfl)) (fun _ _ _ h => h) (Or.inl ⟨by rfl, ?_⟩) hHeld ?_ ?_
  rotate_left
  ·rintro w' ⟨s0, s1, s2, s3⟩
   go_simp
   with_reducible rfl
  rotate_left
  ·exact za_
  refine take_ (i := 5) (N := some 15) (v := ?_) (a' := ?_) #[true, true, true, true, true, true, false, false, false] rfl rfl (take_ofW HT_.out HW_.out (by kernel_rfl)) (fun _ _ _ h => h) (Or.inl ⟨by rfl, ?_⟩) hHeld ?_ ?_
  rotate_left
  ·rintro w' ⟨s0, s1, s2, s3⟩
   go_simp
   with_reducible rfl
  rotate_left
  ·exact za_
  refine one_ (i := 6) (N := some 16) #[true, true, true, true, true, true, true, false, false] rfl rfl (one_of HT_.out (by kernel_rfl)) (by decide) (fun K hK => ?_)
  refine goes_ Tryz.func61 (by kernel_rfl) rfl #[.slice A0_1 l0_1.length c0_1, .slice A1_1 l1_1.length c1_1] (by rfl) rfl rfl zq6 ?_
  with_reducible refine (worldmintref05_plus.calls k _ _ l0_1 _ _ l1_1 t155 _ ?side1 ?side2 ?side3 ?side4 A4.out).mono ?_
  (case side1 => exact zq24)
  (case side2 => exact HC0_1.out)
  (case side3 => exact zq25)
  (case side4 => exact HC1_1.out)
  rintro e w15 ⟨v156, rfl, ho0, hb⟩
  refine ⟨_, rfl, ?_⟩
  have HO157 := am_ (Kd.R_lower (Kd.R_newM (M := fun k_ => (w.heap.size ≤ k_)) ho0 (below_size zq26) (fun k_ h_ => h_)) (below_size zq26)); replace BK152 := am_ (blk_below (g := gb152) (o := .cells #[.bool a0_0, .slice A0_1 l0_1.length c0_1] 25 (0, 0)) (zq9 BK152.out) hb); replace BK153 := am_ (blk_below (g := gb153) (o := .cells #[.bool a1_0, .slice A1_1 l1_1.length c1_1] 25 (0, 0)) (zq9 BK153.out) hb); replace BK154 := am_ (blk_below (g := gb154) (o := .cells #[.bool false, .slice none 0 0] 25 (0, 0)) (zq9 BK154.out) hb); replace HB := am_ (below_step zq26 hb); (try clear hb); (try clear ho0)
  obtain ⟨Ao16, co16, eo16⟩ := Kd.R_slice HO157.out
  (first | subst eo16 | (injection eo16 with f1_ f2_ f3_; have f4_ := f1_.symm; have f5_ := f3_.symm; clear f1_ f2_ f3_; subst f4_; subst f5_))
  refine hK.out _ _ ⟨(blk_cell BK152.out 0).trans rfl, (blk_cell BK152.out 1).trans rfl, (blk_cell BK153.out 0).trans rfl, (blk_cell BK153.out 1).trans rfl⟩ (fun hHeld => ?_)
  clear hK K
  refine norm_ (a' := ?_) ?_ ?_
  rotate_left
  ·show Act.put _ (some 16) _ = _
   exact za_
  refine one_ (i := 7) (N := some 17) #[true, true, true, true, true, true, true, true, false] rfl rfl (one_of HT_.out (by kernel_rfl)) (by decide) (fun K hK => ?_)
  refine goes_ Tryz.func54 (by kernel_rfl) rfl #[.bool a0_0, .slice Ao16 t155.length co16] (by rfl) rfl rfl zq6 ?_
  with_reducible refine (worldmintref05_normal.calls k a0_0 (fun k_ => some k_ = (.slice Ao16 t155.length co16 : Value).ownBlock) _ _ t155 t158 t159 _ ?side1 A5.out).mono ?_
  (case side1 => exact Kd.R_V (Kd.R_tight rfl (Kd.R_types (Kd.R_types (Kd.R_types (HO157.out) BK152.out (by decide)) BK153.out (by decide)) BK154.out (by decide))))
  rintro e w17 ⟨v160, rfl, ho0, hb⟩
  refine ⟨_, rfl, ?_⟩
  have n0_ := am_ (Kd.R_below (zq7 HO157.out) hb); have n1_ := am_ (Kd.V_lower (Kd.V_mono (ok' := fun k_ => (w.heap.size ≤ k_) ∧ k_ ≠ gb152 ∧ k_ ≠ gb153 ∧ k_ ≠ gb154) ho0 (fun k_ hk_ => ⟨Or.elim hk_ (fun hs_ => ((Kd.R_types (Kd.R_types (Kd.R_types (HO157.out) BK152.out (by decide)) BK153.out (by decide)) BK154.out (by decide)).1 k_ hs_.symm).1.1.1.1) (fun hn_ => (Nat.le_trans (below_size zq26) hn_)), Or.elim hk_ (fun hs_ => ((Kd.R_types (Kd.R_types (Kd.R_types (HO157.out) BK152.out (by decide)) BK153.out (by decide)) BK154.out (by decide)).1 k_ hs_.symm).1.1.2) (fun hn_ => (Kd.freshB (g := gb152) (o := .cells #[.bool a0_0, .slice A0_1 l0_1.length c0_1] 25 (0, 0)) (zq9 BK152.out) k_ hn_)), Or.elim hk_ (fun hs_ => ((Kd.R_types (Kd.R_types (Kd.R_types (HO157.out) BK152.out (by decide)) BK153.out (by decide)) BK154.out (by decide)).1 k_ hs_.symm).1.2) (fun hn_ => (Kd.freshB (g := gb153) (o := .cells #[.bool a1_0, .slice A1_1 l1_1.length c1_1] 25 (0, 0)) (zq9 BK153.out) k_ hn_)), Or.elim hk_ (fun hs_ => ((Kd.R_types (Kd.R_types (Kd.R_types (HO157.out) BK152.out (by decide)) BK153.out (by decide)) BK154.out (by decide)).1 k_ hs_.symm).2) (fun hn_ => (Kd.freshB (g := gb154) (o := .cells #[.bool false, .slice none 0 0] 25 (0, 0)) (zq9 BK154.out) k_ hn_))⟩)) (below_size zq26)); have n2_ := am_ (blk_below (g := gb152) (o := .cells #[.bool a0_0, .slice A0_1 l0_1.length c0_1] 25 (0, 0)) (zq9 BK152.out) hb); have n3_ := am_ (blk_below (g := gb153) (o := .cells #[.bool a1_0, .slice A1_1 l1_1.length c1_1] 25 (0, 0)) (zq9 BK153.out) hb); have n4_ := am_ (blk_below (g := gb154) (o := .cells #[.bool false, .slice none 0 0] 25 (0, 0)) (zq9 BK154.out) hb); have n5_ := am_ (below_step zq26 hb); clear HO157 BK152 BK153 BK154 HB; have HO157 := n0_; have HO161 := n1_; have BK152 := n2_; have BK153 := n3_; have BK154 := n4_; have HB := n5_; clear n0_ n1_ n2_ n3_ n4_ n5_; (try clear hb); (try clear ho0)
  obtain ⟨Ao19, co19, eo19⟩ := Kd.V_slice HO161.out
  (first | subst eo19 | (injection eo19 with f1_ f2_ f3_; have f4_ := f1_.symm; have f5_ := f3_.symm; clear f1_ f2_ f3_; subst f4_; subst f5_))
  refine hK.out _ _ ⟨(blk_cell BK152.out 0).trans rfl, (blk_cell BK152.out 1).trans rfl, (blk_cell BK153.out 0).trans rfl, (blk_cell BK153.out 1).trans rfl⟩ (fun hHeld => ?_)
  clear hK K
  refine norm_ (a' := ?_) ?_ ?_
  rotate_left
  ·show Act.put _ (some 17) _ = _
   exact za_
  refine one_ (i := 8) (N := none) #[true, true, true, true, true, true, true, true, true] rfl rfl (one_of HT_.out (by kernel_rfl)) (by decide) (fun K hK => ?_)
  have hs18 : w17.cell? ⟨gb154, 0, none⟩ = some (.bool false) := (blk_cell BK154.out 0).trans rfl
  have hfs18 := blk_frozen BK154.out 0
  have hns18_0 := NB152_154.out
  have hns18_1 := NB153_154.out
  have hms18_0 := NB154_152.out
  have hms18_1 := NB154_153.out
  have hs20 : w17.cell? ⟨gb154, 1, none⟩ = some (.slice none 0 0) := (blk_cell BK154.out 1).trans rfl
  have hfs20 := blk_frozen BK154.out 1
  have hns20_0 := NB152_154.out
  have hns20_1 := NB153_154.out
  have hms20_0 := NB154_152.out
  have hms20_1 := NB154_153.out
  refine skip_ (w1 := ?_) (by rfl) rfl ?_ ?_
  rotate_left
  ·go_simp
   rfl
  refine hK.out _ _ ⟨((cell_far (p := ⟨gb154, _, none⟩) NB152_154.out _).trans (((cell_far (p := ⟨gb154, _, none⟩) NB152_154.out _).trans (hHeld.1)))), ((cell_far (p := ⟨gb154, _, none⟩) NB152_154.out _).trans (((cell_far (p := ⟨gb154, _, none⟩) NB152_154.out _).trans (hHeld.2.1)))), ((cell_far (p := ⟨gb154, _, none⟩) NB153_154.out _).trans (((cell_far (p := ⟨gb154, _, none⟩) NB153_154.out _).trans (hHeld.2.2.1)))), ((cell_far (p := ⟨gb154, _, none⟩) NB153_154.out _).trans (((cell_far (p := ⟨gb154, _, none⟩) NB153_154.out _).trans (hHeld.2.2.2))))⟩ (fun hHeld => ?_)
  clear hK K
  refine done_ (done_of HT_.out (by kernel_rfl)) ?_
  try go_wp2
  refine bodyPost_ret (results_cell_row rfl _ _ gb154 25 #[.bool t158, .slice Ao19 t159.length co19] (0, 0) _ rfl (by (with_reducible repeat (first | refine blk_drewN ?_ _ | refine blk_drew ?_ | refine blk_alloc ?_ _)); refine blk_put (cs := #[.bool t158, .slice none 0 0]) ?_ 1 _ rfl; (with_reducible repeat (first | refine blk_drewN ?_ _ | refine blk_drew ?_ | refine blk_alloc ?_ _)); refine blk_put (cs := #[.bool false, .slice none 0 0]) ?_ 0 _ rfl; (with_reducible repeat (first | refine blk_drewN ?_ _ | refine blk_drew ?_ | refine blk_alloc ?_ _)); exact BK154.out) Tryz.underlying25 rfl (by kernel_rfl)) rfl ?_
  exact ⟨_, by first | rfl | (simp [errW_none, errW_some] <;> rfl) | (simp [*, errW_none, errW_some] <;> rfl), by (with_reducible repeat (first | apply Kd.V_alloc | apply Kd.V_drewN | apply Kd.V_drew)); exact Kd.V_mono (Kd.V_far (p := ⟨gb154, 1, none⟩) (Kd.V_far (p := ⟨gb154, 0, none⟩) (Kd.V_mono HO161.out (fun k_ hk => (⟨hk, hk.2.2.2⟩ : _ ∧ k_ ≠ gb154))) (fun _ hk => hk.2) (.bool t158)) (fun _ hk => hk.2) (.slice Ao19 t159.length co19)) (fun _ hk => hk.1.1), by repeat (first | (with_reducible first | exact HB.out | apply below_alloc | apply pw_below_drewN | apply below_drew1 | refine below_set ?_ GE152.out | refine below_set ?_ GE153.out | refine below_set ?_ GE154.out) | exact HB.out)⟩
 ·rw [if_neg c3] at H
  have c3b0 : (a0_0 == a1_0) = false := by simpa using c3
  (try (have c3b1 : decide (a0_0 = a1_0) = false := by simpa using c3))
  (try (have c3b2 : (a0_0 == a1_0) = false := by simpa using c3))
  (try (have c3b3 : ¬ (a0_0 = a1_0) := by simpa using c3))
  clear c3
  replace H := Option.bind_eq_some_iff.mp H
  obtain ⟨t162, A210, H⟩ := H
  replace H : (if t162 < 0 then ((worldmintref05_minus.f k l1_1 l0_1).bind fun t163 => ((worldmintref05_normal.f k a1_0 t163).bind fun bt166 => (some (bt166.1, bt166.2)))) else ((worldmintref05_minus.f k l0_1 l1_1).bind fun t170 => ((worldmintref05_normal.f k a0_0 t170).bind fun bt173 => (some (bt173.1, bt173.2))))) = some (r1, r2) := H
  have A21 := am_ A210
  clear A210
  by_cases c22 : t162 < 0
  ·rw [if_pos c22] at H
   have c22b0 : decide (t162 < 0) = true := decide_eq_true c22
   clear c22
   replace H := Option.bind_eq_some_iff.mp H
   obtain ⟨t163, A230, H⟩ := H
   replace H : ((worldmintref05_normal.f k a1_0 t163).bind fun bt166 => (some (bt166.1, bt166.2))) = some (r1, r2) := H
   have A23 := am_ A230
   clear A230
   replace H := Option.bind_eq_some_iff.mp H
   obtain ⟨⟨t166, t167⟩, A240, H⟩ := H
   replace H : (some (t166, t167)) = some (r1, r2) := H
   have A24 := am_ A240
   clear A240
   simp only [Option.some.injEq, Prod.mk.injEq] at H
   obtain ⟨rfl, rfl⟩ := H
   go_enter Tryz.func29, Tryz.ntmps29
   try go_wp2_with (first | ((with_reducible refine gate_dst (N := 2) rfl ?_); refine box_event ?hg (N := 2) ?hd (cs := #[.bool a0_0, .slice A0_1 l0_1.length c0_1]) (t := 25) ?hr ?_; (case hd => rfl); (case hg => rfl); (case hr => exact zq0); intro gb152 hg w25 hbox hb; have n0_ := am_ (below_step zq2 hb); have n1_ := am_ (hbox); have n2_ := am_ ((by rw [hg]; exact (below_size zq2) : w.heap.size ≤ gb152)); clear HB; have HB := n0_; have BK152 := n1_; have GE152 := n2_; clear n0_ n1_ n2_; clear hb hbox hg) | ((with_reducible refine gate_dst (N := 3) rfl ?_); refine box_event ?hg (N := 3) ?hd (cs := #[.bool a1_0, .slice A1_1 l1_1.length c1_1]) (t := 25) ?hr ?_; (case hd => rfl); (case hg => rfl); (case hr => exact zq0); intro gb153 hg w26 hbox hb; have n0_ := am_ (blk_below (g := gb152) (o := .cells #[.bool a0_0, .slice A0_1 l0_1.length c0_1] 25 (0, 0)) (zq9 BK152.out) hb); have n1_ := am_ (below_step zq22 hb); have n2_ := am_ (hbox); have n3_ := am_ ((by rw [hg]; exact (below_size zq22) : w.heap.size ≤ gb153)); have n4_ := am_ ((by rw [hg]; exact Nat.ne_of_lt (blk_lt (g := gb152) (zq9 BK152.out)) : gb152 ≠ gb153)); have n5_ := am_ ((by rw [hg]; exact Nat.ne_of_gt (blk_lt (g := gb152) (zq9 BK152.out)) : gb153 ≠ gb152)); clear BK152 HB; have BK152 := n0_; have HB := n1_; have BK153 := n2_; have GE153 := n3_; have NB152_153 := n4_; have NB153_152 := n5_; clear n0_ n1_ n2_ n3_ n4_ n5_; clear hb hbox hg) | ((with_reducible refine gate_dst (N := 4) rfl ?_); refine box_event ?hg (N := 4) ?hd (cs := #[.bool false, .slice none 0 0]) (t := 25) ?hr ?_; (case hd => rfl); (case hg => rfl); (case hr => exact zq0); intro gb154 hg w27 hbox hb; have n0_ := am_ (blk_below (g := gb152) (o := .cells #[.bool a0_0, .slice A0_1 l0_1.length c0_1] 25 (0, 0)) (zq9 BK152.out) hb); have n1_ := am_ (blk_below (g := gb153) (o := .cells #[.bool a1_0, .slice A1_1 l1_1.length c1_1] 25 (0, 0)) (zq9 BK153.out) hb); have n2_ := am_ (below_step zq23 hb); have n3_ := am_ (hbox); have n4_ := am_ ((by rw [hg]; exact (below_size zq23) : w.heap.size ≤ gb154)); have n5_ := am_ ((by rw [hg]; exact Nat.ne_of_lt (blk_lt (g := gb152) (zq9 BK152.out)) : gb152 ≠ gb154)); have n6_ := am_ ((by rw [hg]; exact Nat.ne_of_gt (blk_lt (g := gb152) (zq9 BK152.out)) : gb154 ≠ gb152)); have n7_ := am_ ((by rw [hg]; exact Nat.ne_of_lt (blk_lt (g := gb153) (zq9 BK153.out)) : gb153 ≠ gb154)); have n8_ := am_ ((by rw [hg]; exact Nat.ne_of_gt (blk_lt (g := gb153) (zq9 BK153.out)) : gb154 ≠ gb153)); clear BK152 BK153 HB; have BK152 := n0_; have BK153 := n1_; have HB := n2_; have BK154 := n3_; have GE154 := n4_; have NB152_154 := n5_; have NB154_152 := n6_; have NB153_154 := n7_; have NB154_153 := n8_; clear n0_ n1_ n2_ n3_ n4_ n5_ n6_ n7_ n8_; clear hb hbox hg; have hnb28 := NB152_153.out; have hnc28 := NB153_152.out; have hnb29 := NB152_154.out; have hnc29 := NB154_152.out; have hcz30_0 : w27.cell? ⟨gb152, 0, none⟩ = some (.bool a0_0) := (blk_cell BK152.out 0).trans rfl; have hcz30_1 : w27.cell? ⟨gb152, 1, none⟩ = some (.slice A0_1 l0_1.length c0_1) := (blk_cell BK152.out 1).trans rfl; have hfz30_0 := blk_frozen BK152.out 0; have hfz30_1 := blk_frozen BK152.out 1; have hnb31 := NB153_154.out; have hnc31 := NB154_153.out; have hcz32_0 : w27.cell? ⟨gb153, 0, none⟩ = some (.bool a1_0) := (blk_cell BK153.out 0).trans rfl; have hcz32_1 : w27.cell? ⟨gb153, 1, none⟩ = some (.slice A1_1 l1_1.length c1_1) := (blk_cell BK153.out 1).trans rfl; have hfz32_0 := blk_frozen BK153.out 0; have hfz32_1 := blk_frozen BK153.out 1) | ((with_reducible refine gate_callee (f := 62) rfl ?_); refine goesL_ (some 22) rfl rfl Tryz.func62 (by kernel_rfl) rfl #[.slice A0_1 l0_1.length c0_1, .slice A1_1 l1_1.length c1_1] rfl zq6 ?_; (with_reducible refine (worldmintref05_compared.calls k _ _ l0_1 _ _ l1_1 t162 _ ?side1 ?side2 ?side3 ?side4 A21.out).mono ?_); (case side1 => exact zq24); (case side2 => exact HC0_1.out); (case side3 => exact zq25); (case side4 => exact HC1_1.out); rintro e w' ⟨rfl, ⟨nd, rfl⟩⟩; refine ⟨_, rfl, ?_⟩; (try (rw [drewN_self w27]; generalize hq_ : World.drewN w27 _ = w27; have n0_ : Aside0 (w27.heap[gb152]? = some (.cells #[.bool a0_0, .slice A0_1 l0_1.length c0_1] 25 (0, 0))) := ⟨by rw [← hq_]; exact (zq9 BK152.out)⟩; have n1_ : Aside0 (w27.heap[gb153]? = some (.cells #[.bool a1_0, .slice A1_1 l1_1.length c1_1] 25 (0, 0))) := ⟨by rw [← hq_]; exact (zq9 BK153.out)⟩; have n2_ : Aside0 (w27.heap[gb154]? = some (.cells #[.bool false, .slice none 0 0] 25 (0, 0))) := ⟨by rw [← hq_]; exact (zq9 BK154.out)⟩; have n3_ : Aside0 (Below w.heap.size w w27) := ⟨by rw [← hq_]; exact zq26⟩; clear BK152 BK153 BK154 HB hq_; have BK152 := n0_; have BK153 := n1_; have BK154 := n2_; have HB := n3_; clear n0_ n1_ n2_ n3_; have hqzBK152_0 := (blk_cell BK152.out 0).trans (show _ = some _ from rfl); have hqfBK152_0 := blk_frozen BK152.out 0; have hqzBK152_1 := (blk_cell BK152.out 1).trans (show _ = some _ from rfl); have hqfBK152_1 := blk_frozen BK152.out 1; have hqzBK153_0 := (blk_cell BK153.out 0).trans (show _ = some _ from rfl); have hqfBK153_0 := blk_frozen BK153.out 0; have hqzBK153_1 := (blk_cell BK153.out 1).trans (show _ = some _ from rfl); have hqfBK153_1 := blk_frozen BK153.out 1; have hqzBK154_0 := (blk_cell BK154.out 0).trans (show _ = some _ from rfl); have hqfBK154_0 := blk_frozen BK154.out 0; have hqzBK154_1 := (blk_cell BK154.out 1).trans (show _ = some _ from rfl); have hqfBK154_1 := blk_frozen BK154.out 1))))
   replace BK152 := am_ (blk_drew BK152.out); replace BK153 := am_ (blk_drew BK153.out); replace BK154 := am_ (blk_drew BK154.out); replace HB := am_ (below_drew1 HB.out)
   refine start_ (n := 9) (S := fun w' => w'.cell? ⟨gb153, 0, none⟩ = some (.bool a1_0) ∧ w'.cell? ⟨gb153, 1, none⟩ = some (.slice A1_1 l1_1.length c1_1) ∧ w'.cell? ⟨gb152, 0, none⟩ = some (.bool a0_0) ∧ w'.cell? ⟨gb152, 1, none⟩ = some (.slice A0_1 l0_1.length c0_1)) (ds := []) #[false, false, false, false, false, false, false, false, false] (by kernel_rfl) rfl rfl ⟨(blk_cell BK153.out 0).trans rfl, (blk_cell BK153.out 1).trans rfl, (blk_cell BK152.out 0).trans rfl, (blk_cell BK152.out 1).trans rfl⟩ (fun hHeld => ?_); refine with_tabW worldmintref05_Add.tab4 worldmintref05_Add.bits4 (fun HT_ HW_ => ?_)
   generalize w27.drew = w33 at BK152 BK153 BK154 HB hHeld ⊢
   refine pure_ (i := 0) (N := some 24) (v := ?_) (a' := ?_) #[true, false, false, false, false, false, false, false, false] rfl rfl (any_of HT_.out (by kernel_rfl)) (fun _ _ _ h => h) (Or.inl ⟨by rfl, ?_⟩) ?_ ?_
   rotate_left
   ·intro w'
    go_simp
    with_reducible rfl
   rotate_left
   ·exact za_
   refine pure_ (i := 2) (N := some 26) (v := ?_) (a' := ?_) #[true, false, true, false, false, false, false, false, false] rfl rfl (any_of HT_.out (by kernel_rfl)) (fun _ _ _ h => h) (Or.inl ⟨by rfl, ?_⟩) ?_ ?_
   rotate_left
   ·intro w'
    go_simp
    with_reducible rfl
   rotate_left
   ·exact za_
   refine pure_ (i := 4) (N := some 28) (v := ?_) (a' := ?_) #[true, false, true, false, true, false, false, false, false] rfl rfl (any_of HT_.out (by kernel_rfl)) (fun _ _ _ h => h) (Or.inl ⟨by rfl, ?_⟩) ?_ ?_
   rotate_left
   ·intro w'
    go_simp
    with_reducible rfl
   rotate_left
   ·exact za_
   refine take_ (i := 1) (N := some 25) (v := ?_) (a' := ?_) #[true, true, true, false, true, false, false, false, false] rfl rfl (take_ofW HT_.out HW_.out (by kernel_rfl)) (fun _ _ _ h => h) (Or.inl ⟨by rfl, ?_⟩) hHeld ?_ ?_
   rotate_left
   ·rintro w' ⟨s0, s1, s2, s3⟩
    go_simp
    with_reducible rfl
   rotate_left
   ·exact za_
   refine take_ (i := 3) (N := some 27) (v := ?_) (a' := ?_) #[true, true, true, true, true, false, false, false, false] rfl rfl (take_ofW HT_.out HW_.out (by kernel_rfl)) (fun _ _ _ h => h) (Or.inl ⟨by rfl, ?_⟩) hHeld ?_ ?_
   rotate_left
   ·rintro w' ⟨s0, s1, s2, s3⟩
    go_simp
    with_reducible rfl
   rotate_left
   ·exact za_
   refine take_ (i := 5) (N := some 29) (v := ?_) (a' := ?_) #[true, true, true, true, true, true, false, false, false] rfl rfl (take_ofW HT_.out HW_.out (by kernel_rfl)) (fun _ _ _ h => h) (Or.inl ⟨by rfl, ?_⟩) hHeld ?_ ?_
   rotate_left
   ·rintro w' ⟨s0, s1, s2, s3⟩
    go_simp
    with_reducible rfl
   rotate_left
   ·exact za_
   refine one_ (i := 6) (N := some 30) #[true, true, true, true, true, true, true, false, false] rfl rfl (one_of HT_.out (by kernel_rfl)) (by decide) (fun K hK => ?_)
   refine goes_ Tryz.func63 (by kernel_rfl) rfl #[.slice A1_1 l1_1.length c1_1, .slice A0_1 l0_1.length c0_1] (by rfl) rfl rfl zq6 ?_
   with_reducible refine (worldmintref05_minus.calls k _ _ l1_1 _ _ l0_1 t163 _ ?side1 ?side2 ?side3 ?side4 A23.out).mono ?_
   (case side1 => exact zq25)
   (case side2 => exact HC1_1.out)
   (case side3 => exact zq24)
   (case side4 => exact HC0_1.out)
   rintro e w34 ⟨v164, rfl, ho0, hb⟩
   refine ⟨_, rfl, ?_⟩
   have HO165 := am_ (Kd.R_lower (Kd.R_newM (M := fun k_ => (w.heap.size ≤ k_)) ho0 (below_size zq26) (fun k_ h_ => h_)) (below_size zq26)); replace BK152 := am_ (blk_below (g := gb152) (o := .cells #[.bool a0_0, .slice A0_1 l0_1.length c0_1] 25 (0, 0)) (zq9 BK152.out) hb); replace BK153 := am_ (blk_below (g := gb153) (o := .cells #[.bool a1_0, .slice A1_1 l1_1.length c1_1] 25 (0, 0)) (zq9 BK153.out) hb); replace BK154 := am_ (blk_below (g := gb154) (o := .cells #[.bool false, .slice none 0 0] 25 (0, 0)) (zq9 BK154.out) hb); replace HB := am_ (below_step zq26 hb); (try clear hb); (try clear ho0)
   obtain ⟨Ao35, co35, eo35⟩ := Kd.R_slice HO165.out
   (first | subst eo35 | (injection eo35 with f1_ f2_ f3_; have f4_ := f1_.symm; have f5_ := f3_.symm; clear f1_ f2_ f3_; subst f4_; subst f5_))
   refine hK.out _ _ ⟨(blk_cell BK153.out 0).trans rfl, (blk_cell BK153.out 1).trans rfl, (blk_cell BK152.out 0).trans rfl, (blk_cell BK152.out 1).trans rfl⟩ (fun hHeld => ?_)
   clear hK K
   refine norm_ (a' := ?_) ?_ ?_
   rotate_left
   ·show Act.put _ (some 30) _ = _
    exact za_
   refine one_ (i := 7) (N := some 31) #[true, true, true, true, true, true, true, true, false] rfl rfl (one_of HT_.out (by kernel_rfl)) (by decide) (fun K hK => ?_)
   refine goes_ Tryz.func54 (by kernel_rfl) rfl #[.bool a1_0, .slice Ao35 t163.length co35] (by rfl) rfl rfl zq6 ?_
   with_reducible refine (worldmintref05_normal.calls k a1_0 (fun k_ => some k_ = (.slice Ao35 t163.length co35 : Value).ownBlock) _ _ t163 t166 t167 _ ?side1 A24.out).mono ?_
   (case side1 => exact Kd.R_V (Kd.R_tight rfl (Kd.R_types (Kd.R_types (Kd.R_types (HO165.out) BK152.out (by decide)) BK153.out (by decide)) BK154.out (by decide))))
   rintro e w36 ⟨v168, rfl, ho0, hb⟩
   refine ⟨_, rfl, ?_⟩
   have n0_ := am_ (Kd.R_below (zq7 HO165.out) hb); have n1_ := am_ (Kd.V_lower (Kd.V_mono (ok' := fun k_ => (w.heap.size ≤ k_) ∧ k_ ≠ gb152 ∧ k_ ≠ gb153 ∧ k_ ≠ gb154) ho0 (fun k_ hk_ => ⟨Or.elim hk_ (fun hs_ => ((Kd.R_types (Kd.R_types (Kd.R_types (HO165.out) BK152.out (by decide)) BK153.out (by decide)) BK154.out (by decide)).1 k_ hs_.symm).1.1.1.1) (fun hn_ => (Nat.le_trans (below_size zq26) hn_)), Or.elim hk_ (fun hs_ => ((Kd.R_types (Kd.R_types (Kd.R_types (HO165.out) BK152.out (by decide)) BK153.out (by decide)) BK154.out (by decide)).1 k_ hs_.symm).1.1.2) (fun hn_ => (Kd.freshB (g := gb152) (o := .cells #[.bool a0_0, .slice A0_1 l0_1.length c0_1] 25 (0, 0)) (zq9 BK152.out) k_ hn_)), Or.elim hk_ (fun hs_ => ((Kd.R_types (Kd.R_types (Kd.R_types (HO165.out) BK152.out (by decide)) BK153.out (by decide)) BK154.out (by decide)).1 k_ hs_.symm).1.2) (fun hn_ => (Kd.freshB (g := gb153) (o := .cells #[.bool a1_0, .slice A1_1 l1_1.length c1_1] 25 (0, 0)) (zq9 BK153.out) k_ hn_)), Or.elim hk_ (fun hs_ => ((Kd.R_types (Kd.R_types (Kd.R_types (HO165.out) BK152.out (by decide)) BK153.out (by decide)) BK154.out (by decide)).1 k_ hs_.symm).2) (fun hn_ => (Kd.freshB (g := gb154) (o := .cells #[.bool false, .slice none 0 0] 25 (0, 0)) (zq9 BK154.out) k_ hn_))⟩)) (below_size zq26)); have n2_ := am_ (blk_below (g := gb152) (o := .cells #[.bool a0_0, .slice A0_1 l0_1.length c0_1] 25 (0, 0)) (zq9 BK152.out) hb); have n3_ := am_ (blk_below (g := gb153) (o := .cells #[.bool a1_0, .slice A1_1 l1_1.length c1_1] 25 (0, 0)) (zq9 BK153.out) hb); have n4_ := am_ (blk_below (g := gb154) (o := .cells #[.bool false, .slice none 0 0] 25 (0, 0)) (zq9 BK154.out) hb); have n5_ := am_ (below_step zq26 hb); clear HO165 BK152 BK153 BK154 HB; have HO165 := n0_; have HO169 := n1_; have BK152 := n2_; have BK153 := n3_; have BK154 := n4_; have HB := n5_; clear n0_ n1_ n2_ n3_ n4_ n5_; (try clear hb); (try clear ho0)
   obtain ⟨Ao38, co38, eo38⟩ := Kd.V_slice HO169.out
   (first | subst eo38 | (injection eo38 with f1_ f2_ f3_; have f4_ := f1_.symm; have f5_ := f3_.symm; clear f1_ f2_ f3_; subst f4_; subst f5_))
   refine hK.out _ _ ⟨(blk_cell BK153.out 0).trans rfl, (blk_cell BK153.out 1).trans rfl, (blk_cell BK152.out 0).trans rfl, (blk_cell BK152.out 1).trans rfl⟩ (fun hHeld => ?_)
   clear hK K
   refine norm_ (a' := ?_) ?_ ?_
   rotate_left
   ·show Act.put _ (some 31) _ = _
    exact za_
   refine one_ (i := 8) (N := none) #[true, true, true, true, true, true, true, true, true] rfl rfl (one_of HT_.out (by kernel_rfl)) (by decide) (fun K hK => ?_)
   have hs37 : w36.cell? ⟨gb154, 0, none⟩ = some (.bool false) := (blk_cell BK154.out 0).trans rfl
   have hfs37 := blk_frozen BK154.out 0
   have hns37_0 := NB152_154.out
   have hns37_1 := NB153_154.out
   have hms37_0 := NB154_152.out
   have hms37_1 := NB154_153.out
   have hs39 : w36.cell? ⟨gb154, 1, none⟩ = some (.slice none 0 0) := (blk_cell BK154.out 1).trans rfl
   have hfs39 := blk_frozen BK154.out 1
   have hns39_0 := NB152_154.out
   have hns39_1 := NB153_154.out
   have hms39_0 := NB154_152.out
   have hms39_1 := NB154_153.out
   refine skip_ (w1 := ?_) (by rfl) rfl ?_ ?_
   rotate_left
   ·go_simp
    rfl
   refine hK.out _ _ ⟨((cell_far (p := ⟨gb154, _, none⟩) NB153_154.out _).trans (((cell_far (p := ⟨gb154, _, none⟩) NB153_154.out _).trans (hHeld.1)))), ((cell_far (p := ⟨gb154, _, none⟩) NB153_154.out _).trans (((cell_far (p := ⟨gb154, _, none⟩) NB153_154.out _).trans (hHeld.2.1)))), ((cell_far (p := ⟨gb154, _, none⟩) NB152_154.out _).trans (((cell_far (p := ⟨gb154, _, none⟩) NB152_154.out _).trans (hHeld.2.2.1)))), ((cell_far (p := ⟨gb154, _, none⟩) NB152_154.out _).trans (((cell_far (p := ⟨gb154, _, none⟩) NB152_154.out _).trans (hHeld.2.2.2))))⟩ (fun hHeld => ?_)
   clear hK K
   refine done_ (done_of HT_.out (by kernel_rfl)) ?_
   try go_wp2
   refine bodyPost_ret (results_cell_row rfl _ _ gb154 25 #[.bool t166, .slice Ao38 t167.length co38] (0, 0) _ rfl (by (with_reducible repeat (first | refine blk_drewN ?_ _ | refine blk_drew ?_ | refine blk_alloc ?_ _)); refine blk_put (cs := #[.bool t166, .slice none 0 0]) ?_ 1 _ rfl; (with_reducible repeat (first | refine blk_drewN ?_ _ | refine blk_drew ?_ | refine blk_alloc ?_ _)); refine blk_put (cs := #[.bool false, .slice none 0 0]) ?_ 0 _ rfl; (with_reducible repeat (first | refine blk_drewN ?_ _ | refine blk_drew ?_ | refine blk_alloc ?_ _)); exact BK154.out) Tryz.underlying25 rfl (by kernel_rfl)) rfl ?_
   exact ⟨_, by first | rfl | (simp [errW_none, errW_some] <;> rfl) | (simp [*, errW_none, errW_some] <;> rfl), by (with_reducible repeat (first | apply Kd.V_alloc | apply Kd.V_drewN | apply Kd.V_drew)); exact Kd.V_mono (Kd.V_far (p := ⟨gb154, 1, none⟩) (Kd.V_far (p := ⟨gb154, 0, none⟩) (Kd.V_mono HO169.out (fun k_ hk => (⟨hk, hk.2.2.2⟩ : _ ∧ k_ ≠ gb154))) (fun _ hk => hk.2) (.bool t166)) (fun _ hk => hk.2) (.slice Ao38 t167.length co38)) (fun _ hk => hk.1.1), by repeat (first | (with_reducible first | exact HB.out | apply below_alloc | apply pw_below_drewN | apply below_drew1 | refine below_set ?_ GE152.out | refine below_set ?_ GE153.out | refine below_set ?_ GE154.out) | exact HB.out)⟩
  ·rw [if_neg c22] at H
   have c22b0 : decide (t162 < 0) = false := decide_eq_false c22
   clear c22
   replace H := Option.bind_eq_some_iff.mp H
   obtain ⟨t170, A400, H⟩ := H
   replace H : ((worldmintref05_normal.f k a0_0 t170).bind fun bt173 => (some (bt173.1, bt173.2))) = some (r1, r2) := H
   have A40 := am_ A400
   clear A400
   replace H := Option.bind_eq_some_iff.mp H
   obtain ⟨⟨t173, t174⟩, A410, H⟩ := H
   replace H : (some (t173, t174)) = some (r1, r2) := H
   have A41 := am_ A410
   clear A410
   simp only [Option.some.injEq, Prod.mk.injEq] at H
   obtain ⟨rfl, rfl⟩ := H
   go_enter Tryz.func29, Tryz.ntmps29
   try go_wp2_with (first | ((with_reducible refine gate_dst (N := 2) rfl ?_); refine box_event ?hg (N := 2) ?hd (cs := #[.bool a0_0, .slice A0_1 l0_1.length c0_1]) (t := 25) ?hr ?_; (case hd => rfl); (case hg => rfl); (case hr => exact zq0); intro gb152 hg w42 hbox hb; have n0_ := am_ (below_step zq2 hb); have n1_ := am_ (hbox); have n2_ := am_ ((by rw [hg]; exact (below_size zq2) : w.heap.size ≤ gb152)); clear HB; have HB := n0_; have BK152 := n1_; have GE152 := n2_; clear n0_ n1_ n2_; clear hb hbox hg) | ((with_reducible refine gate_dst (N := 3) rfl ?_); refine box_event ?hg (N := 3) ?hd (cs := #[.bool a1_0, .slice A1_1 l1_1.length c1_1]) (t := 25) ?hr ?_; (case hd => rfl); (case hg => rfl); (case hr => exact zq0); intro gb153 hg w43 hbox hb; have n0_ := am_ (blk_below (g := gb152) (o := .cells #[.bool a0_0, .slice A0_1 l0_1.length c0_1] 25 (0, 0)) (zq9 BK152.out) hb); have n1_ := am_ (below_step zq22 hb); have n2_ := am_ (hbox); have n3_ := am_ ((by rw [hg]; exact (below_size zq22) : w.heap.size ≤ gb153)); have n4_ := am_ ((by rw [hg]; exact Nat.ne_of_lt (blk_lt (g := gb152) (zq9 BK152.out)) : gb152 ≠ gb153)); have n5_ := am_ ((by rw [hg]; exact Nat.ne_of_gt (blk_lt (g := gb152) (zq9 BK152.out)) : gb153 ≠ gb152)); clear BK152 HB; have BK152 := n0_; have HB := n1_; have BK153 := n2_; have GE153 := n3_; have NB152_153 := n4_; have NB153_152 := n5_; clear n0_ n1_ n2_ n3_ n4_ n5_; clear hb hbox hg) | ((with_reducible refine gate_dst (N := 4) rfl ?_); refine box_event ?hg (N := 4) ?hd (cs := #[.bool false, .slice none 0 0]) (t := 25) ?hr ?_; (case hd => rfl); (case hg => rfl); (case hr => exact zq0); intro gb154 hg w44 hbox hb; have n0_ := am_ (blk_below (g := gb152) (o := .cells #[.bool a0_0, .slice A0_1 l0_1.length c0_1] 25 (0, 0)) (zq9 BK152.out) hb); have n1_ := am_ (blk_below (g := gb153) (o := .cells #[.bool a1_0, .slice A1_1 l1_1.length c1_1] 25 (0, 0)) (zq9 BK153.out) hb); have n2_ := am_ (below_step zq23 hb); have n3_ := am_ (hbox); have n4_ := am_ ((by rw [hg]; exact (below_size zq23) : w.heap.size ≤ gb154)); have n5_ := am_ ((by rw [hg]; exact Nat.ne_of_lt (blk_lt (g := gb152) (zq9 BK152.out)) : gb152 ≠ gb154)); have n6_ := am_ ((by rw [hg]; exact Nat.ne_of_gt (blk_lt (g := gb152) (zq9 BK152.out)) : gb154 ≠ gb152)); have n7_ := am_ ((by rw [hg]; exact Nat.ne_of_lt (blk_lt (g := gb153) (zq9 BK153.out)) : gb153 ≠ gb154)); have n8_ := am_ ((by rw [hg]; exact Nat.ne_of_gt (blk_lt (g := gb153) (zq9 BK153.out)) : gb154 ≠ gb153)); clear BK152 BK153 HB; have BK152 := n0_; have BK153 := n1_; have HB := n2_; have BK154 := n3_; have GE154 := n4_; have NB152_154 := n5_; have NB154_152 := n6_; have NB153_154 := n7_; have NB154_153 := n8_; clear n0_ n1_ n2_ n3_ n4_ n5_ n6_ n7_ n8_; clear hb hbox hg; have hnb45 := NB152_153.out; have hnc45 := NB153_152.out; have hnb46 := NB152_154.out; have hnc46 := NB154_152.out; have hcz47_0 : w44.cell? ⟨gb152, 0, none⟩ = some (.bool a0_0) := (blk_cell BK152.out 0).trans rfl; have hcz47_1 : w44.cell? ⟨gb152, 1, none⟩ = some (.slice A0_1 l0_1.length c0_1) := (blk_cell BK152.out 1).trans rfl; have hfz47_0 := blk_frozen BK152.out 0; have hfz47_1 := blk_frozen BK152.out 1; have hnb48 := NB153_154.out; have hnc48 := NB154_153.out; have hcz49_0 : w44.cell? ⟨gb153, 0, none⟩ = some (.bool a1_0) := (blk_cell BK153.out 0).trans rfl; have hcz49_1 : w44.cell? ⟨gb153, 1, none⟩ = some (.slice A1_1 l1_1.length c1_1) := (blk_cell BK153.out 1).trans rfl; have hfz49_0 := blk_frozen BK153.out 0; have hfz49_1 := blk_frozen BK153.out 1) | ((with_reducible refine gate_callee (f := 62) rfl ?_); refine goesL_ (some 22) rfl rfl Tryz.func62 (by kernel_rfl) rfl #[.slice A0_1 l0_1.length c0_1, .slice A1_1 l1_1.length c1_1] rfl zq6 ?_; (with_reducible refine (worldmintref05_compared.calls k _ _ l0_1 _ _ l1_1 t162 _ ?side1 ?side2 ?side3 ?side4 A21.out).mono ?_); (case side1 => exact zq24); (case side2 => exact HC0_1.out); (case side3 => exact zq25); (case side4 => exact HC1_1.out); rintro e w' ⟨rfl, ⟨nd, rfl⟩⟩; refine ⟨_, rfl, ?_⟩; (try (rw [drewN_self w44]; generalize hq_ : World.drewN w44 _ = w44; have n0_ : Aside0 (w44.heap[gb152]? = some (.cells #[.bool a0_0, .slice A0_1 l0_1.length c0_1] 25 (0, 0))) := ⟨by rw [← hq_]; exact (zq9 BK152.out)⟩; have n1_ : Aside0 (w44.heap[gb153]? = some (.cells #[.bool a1_0, .slice A1_1 l1_1.length c1_1] 25 (0, 0))) := ⟨by rw [← hq_]; exact (zq9 BK153.out)⟩; have n2_ : Aside0 (w44.heap[gb154]? = some (.cells #[.bool false, .slice none 0 0] 25 (0, 0))) := ⟨by rw [← hq_]; exact (zq9 BK154.out)⟩; have n3_ : Aside0 (Below w.heap.size w w44) := ⟨by rw [← hq_]; exact zq26⟩; clear BK152 BK153 BK154 HB hq_; have BK152 := n0_; have BK153 := n1_; have BK154 := n2_; have HB := n3_; clear n0_ n1_ n2_ n3_; have hqzBK152_0 := (blk_cell BK152.out 0).trans (show _ = some _ from rfl); have hqfBK152_0 := blk_frozen BK152.out 0; have hqzBK152_1 := (blk_cell BK152.out 1).trans (show _ = some _ from rfl); have hqfBK152_1 := blk_frozen BK152.out 1; have hqzBK153_0 := (blk_cell BK153.out 0).trans (show _ = some _ from rfl); have hqfBK153_0 := blk_frozen BK153.out 0; have hqzBK153_1 := (blk_cell BK153.out 1).trans (show _ = some _ from rfl); have hqfBK153_1 := blk_frozen BK153.out 1; have hqzBK154_0 := (blk_cell BK154.out 0).trans (show _ = some _ from rfl); have hqfBK154_0 := blk_frozen BK154.out 0; have hqzBK154_1 := (blk_cell BK154.out 1).trans (show _ = some _ from rfl); have hqfBK154_1 := blk_frozen BK154.out 1))))
   replace BK152 := am_ (blk_drew BK152.out); replace BK153 := am_ (blk_drew BK153.out); replace BK154 := am_ (blk_drew BK154.out); replace HB := am_ (below_drew1 HB.out)
   refine start_ (n := 9) (S := fun w' => w'.cell? ⟨gb152, 0, none⟩ = some (.bool a0_0) ∧ w'.cell? ⟨gb152, 1, none⟩ = some (.slice A0_1 l0_1.length c0_1) ∧ w'.cell? ⟨gb153, 0, none⟩ = some (.bool a1_0) ∧ w'.cell? ⟨gb153, 1, none⟩ = some (.slice A1_1 l1_1.length c1_1)) (ds := []) #[false, false, false, false, false, false, false, false, false] (by kernel_rfl) rfl rfl ⟨(blk_cell BK152.out 0).trans rfl, (blk_cell BK152.out 1).trans rfl, (blk_cell BK153.out 0).trans rfl, (blk_cell BK153.out 1).trans rfl⟩ (fun hHeld => ?_); refine with_tabW worldmintref05_Add.tab5 worldmintref05_Add.bits5 (fun HT_ HW_ => ?_)
   generalize w44.drew = w50 at BK152 BK153 BK154 HB hHeld ⊢
   refine pure_ (i := 0) (N := some 32) (v := ?_) (a' := ?_) #[true, false, false, false, false, false, false, false, false] rfl rfl (any_of HT_.out (by kernel_rfl)) (fun _ _ _ h => h) (Or.inl ⟨by rfl, ?_⟩) ?_ ?_
   rotate_left
   ·intro w'
    go_simp
    with_reducible rfl
   rotate_left
   ·exact za_
   refine pure_ (i := 2) (N := some 34) (v := ?_) (a' := ?_) #[true, false, true, false, false, false, false, false, false] rfl rfl (any_of HT_.out (by kernel_rfl)) (fun _ _ _ h => h) (Or.inl ⟨by rfl, ?_⟩) ?_ ?_
   rotate_left
   ·intro w'
    go_simp
    with_reducible rfl
   rotate_left
   ·exact za_
   refine pure_ (i := 4) (N := some 36) (v := ?_) (a' := ?_) #[true, false, true, false, true, false, false, false, false] rfl rfl (any_of HT_.out (by kernel_rfl)) (fun _ _ _ h => h) (Or.inl ⟨by rfl, ?_⟩) ?_ ?_
   rotate_left
   ·intro w'
    go_simp
    with_reducible rfl
   rotate_left
   ·exact za_
   refine take_ (i := 1) (N := some 33) (v := ?_) (a' := ?_) #[true, true, true, false, true, false, false, false, false] rfl rfl (take_ofW HT_.out HW_.out (by kernel_rfl)) (fun _ _ _ h => h) (Or.inl ⟨by rfl, ?_⟩) hHeld ?_ ?_
   rotate_left
   ·rintro w' ⟨s0, s1, s2, s3⟩
    go_simp
    with_reducible rfl
   rotate_left
   ·exact za_
   refine take_ (i := 3) (N := some 35) (v := ?_) (a' := ?_) #[true, true, true, true, true, false, false, false, false] rfl rfl (take_ofW HT_.out HW_.out (by kernel_rfl)) (fun _ _ _ h => h) (Or.inl ⟨by rfl, ?_⟩) hHeld ?_ ?_
   rotate_left
   ·rintro w' ⟨s0, s1, s2, s3⟩
    go_simp
    with_reducible rfl
   rotate_left
   ·exact za_
   refine take_ (i := 5) (N := some 37) (v := ?_) (a' := ?_) #[true, true, true, true, true, true, false, false, false] rfl rfl (take_ofW HT_.out HW_.out (by kernel_rfl)) (fun _ _ _ h => h) (Or.inl ⟨by rfl, ?_⟩) hHeld ?_ ?_
   rotate_left
   ·rintro w' ⟨s0, s1, s2, s3⟩
    go_simp
    with_reducible rfl
   rotate_left
   ·exact za_
   refine one_ (i := 6) (N := some 38) #[true, true, true, true, true, true, true, false, false] rfl rfl (one_of HT_.out (by kernel_rfl)) (by decide) (fun K hK => ?_)
   refine goes_ Tryz.func63 (by kernel_rfl) rfl #[.slice A0_1 l0_1.length c0_1, .slice A1_1 l1_1.length c1_1] (by rfl) rfl rfl zq6 ?_
   with_reducible refine (worldmintref05_minus.calls k _ _ l0_1 _ _ l1_1 t170 _ ?side1 ?side2 ?side3 ?side4 A40.out).mono ?_
   (case side1 => exact zq24)
   (case side2 => exact HC0_1.out)
   (case side3 => exact zq25)
   (case side4 => exact HC1_1.out)
   rintro e w51 ⟨v171, rfl, ho0, hb⟩
   refine ⟨_, rfl, ?_⟩
   have HO172 := am_ (Kd.R_lower (Kd.R_newM (M := fun k_ => (w.heap.size ≤ k_)) ho0 (below_size zq26) (fun k_ h_ => h_)) (below_size zq26)); replace BK152 := am_ (blk_below (g := gb152) (o := .cells #[.bool a0_0, .slice A0_1 l0_1.length c0_1] 25 (0, 0)) (zq9 BK152.out) hb); replace BK153 := am_ (blk_below (g := gb153) (o := .cells #[.bool a1_0, .slice A1_1 l1_1.length c1_1] 25 (0, 0)) (zq9 BK153.out) hb); replace BK154 := am_ (blk_below (g := gb154) (o := .cells #[.bool false, .slice none 0 0] 25 (0, 0)) (zq9 BK154.out) hb); replace HB := am_ (below_step zq26 hb); (try clear hb); (try clear ho0)
   obtain ⟨Ao52, co52, eo52⟩ := Kd.R_slice HO172.out
   (first | subst eo52 | (injection eo52 with f1_ f2_ f3_; have f4_ := f1_.symm; have f5_ := f3_.symm; clear f1_ f2_ f3_; subst f4_; subst f5_))
   refine hK.out _ _ ⟨(blk_cell BK152.out 0).trans rfl, (blk_cell BK152.out 1).trans rfl, (blk_cell BK153.out 0).trans rfl, (blk_cell BK153.out 1).trans rfl⟩ (fun hHeld => ?_)
   clear hK K
   refine norm_ (a' := ?_) ?_ ?_
   rotate_left
   ·show Act.put _ (some 38) _ = _
    exact za_
   refine one_ (i := 7) (N := some 39) #[true, true, true, true, true, true, true, true, false] rfl rfl (one_of HT_.out (by kernel_rfl)) (by decide) (fun K hK => ?_)
   refine goes_ Tryz.func54 (by kernel_rfl) rfl #[.bool a0_0, .slice Ao52 t170.length co52] (by rfl) rfl rfl zq6 ?_
   with_reducible refine (worldmintref05_normal.calls k a0_0 (fun k_ => some k_ = (.slice Ao52 t170.length co52 : Value).ownBlock) _ _ t170 t173 t174 _ ?side1 A41.out).mono ?_
   (case side1 => exact Kd.R_V (Kd.R_tight rfl (Kd.R_types (Kd.R_types (Kd.R_types (HO172.out) BK152.out (by decide)) BK153.out (by decide)) BK154.out (by decide))))
   rintro e w53 ⟨v175, rfl, ho0, hb⟩
   refine ⟨_, rfl, ?_⟩
   have n0_ := am_ (Kd.R_below (zq7 HO172.out) hb); have n1_ := am_ (Kd.V_lower (Kd.V_mono (ok' := fun k_ => (w.heap.size ≤ k_) ∧ k_ ≠ gb152 ∧ k_ ≠ gb153 ∧ k_ ≠ gb154) ho0 (fun k_ hk_ => ⟨Or.elim hk_ (fun hs_ => ((Kd.R_types (Kd.R_types (Kd.R_types (HO172.out) BK152.out (by decide)) BK153.out (by decide)) BK154.out (by decide)).1 k_ hs_.symm).1.1.1.1) (fun hn_ => (Nat.le_trans (below_size zq26) hn_)), Or.elim hk_ (fun hs_ => ((Kd.R_types (Kd.R_types (Kd.R_types (HO172.out) BK152.out (by decide)) BK153.out (by decide)) BK154.out (by decide)).1 k_ hs_.symm).1.1.2) (fun hn_ => (Kd.freshB (g := gb152) (o := .cells #[.bool a0_0, .slice A0_1 l0_1.length c0_1] 25 (0, 0)) (zq9 BK152.out) k_ hn_)), Or.elim hk_ (fun hs_ => ((Kd.R_types (Kd.R_types (Kd.R_types (HO172.out) BK152.out (by decide)) BK153.out (by decide)) BK154.out (by decide)).1 k_ hs_.symm).1.2) (fun hn_ => (Kd.freshB (g := gb153) (o := .cells #[.bool a1_0, .slice A1_1 l1_1.length c1_1] 25 (0, 0)) (zq9 BK153.out) k_ hn_)), Or.elim hk_ (fun hs_ => ((Kd.R_types (Kd.R_types (Kd.R_types (HO172.out) BK152.out (by decide)) BK153.out (by decide)) BK154.out (by decide)).1 k_ hs_.symm).2) (fun hn_ => (Kd.freshB (g := gb154) (o := .cells #[.bool false, .slice none 0 0] 25 (0, 0)) (zq9 BK154.out) k_ hn_))⟩)) (below_size zq26)); have n2_ := am_ (blk_below (g := gb152) (o := .cells #[.bool a0_0, .slice A0_1 l0_1.length c0_1] 25 (0, 0)) (zq9 BK152.out) hb); have n3_ := am_ (blk_below (g := gb153) (o := .cells #[.bool a1_0, .slice A1_1 l1_1.length c1_1] 25 (0, 0)) (zq9 BK153.out) hb); have n4_ := am_ (blk_below (g := gb154) (o := .cells #[.bool false, .slice none 0 0] 25 (0, 0)) (zq9 BK154.out) hb); have n5_ := am_ (below_step zq26 hb); clear HO172 BK152 BK153 BK154 HB; have HO172 := n0_; have HO176 := n1_; have BK152 := n2_; have BK153 := n3_; have BK154 := n4_; have HB := n5_; clear n0_ n1_ n2_ n3_ n4_ n5_; (try clear hb); (try clear ho0)
   obtain ⟨Ao55, co55, eo55⟩ := Kd.V_slice HO176.out
   (first | subst eo55 | (injection eo55 with f1_ f2_ f3_; have f4_ := f1_.symm; have f5_ := f3_.symm; clear f1_ f2_ f3_; subst f4_; subst f5_))
   refine hK.out _ _ ⟨(blk_cell BK152.out 0).trans rfl, (blk_cell BK152.out 1).trans rfl, (blk_cell BK153.out 0).trans rfl, (blk_cell BK153.out 1).trans rfl⟩ (fun hHeld => ?_)
   clear hK K
   refine norm_ (a' := ?_) ?_ ?_
   rotate_left
   ·show Act.put _ (some 39) _ = _
    exact za_
   refine one_ (i := 8) (N := none) #[true, true, true, true, true, true, true, true, true] rfl rfl (one_of HT_.out (by kernel_rfl)) (by decide) (fun K hK => ?_)
   have hs54 : w53.cell? ⟨gb154, 0, none⟩ = some (.bool false) := (blk_cell BK154.out 0).trans rfl
   have hfs54 := blk_frozen BK154.out 0
   have hns54_0 := NB152_154.out
   have hns54_1 := NB153_154.out
   have hms54_0 := NB154_152.out
   have hms54_1 := NB154_153.out
   have hs56 : w53.cell? ⟨gb154, 1, none⟩ = some (.slice none 0 0) := (blk_cell BK154.out 1).trans rfl
   have hfs56 := blk_frozen BK154.out 1
   have hns56_0 := NB152_154.out
   have hns56_1 := NB153_154.out
   have hms56_0 := NB154_152.out
   have hms56_1 := NB154_153.out
   refine skip_ (w1 := ?_) (by rfl) rfl ?_ ?_
   rotate_left
   ·go_simp
    rfl
   refine hK.out _ _ ⟨((cell_far (p := ⟨gb154, _, none⟩) NB152_154.out _).trans (((cell_far (p := ⟨gb154, _, none⟩) NB152_154.out _).trans (hHeld.1)))), ((cell_far (p := ⟨gb154, _, none⟩) NB152_154.out _).trans (((cell_far (p := ⟨gb154, _, none⟩) NB152_154.out _).trans (hHeld.2.1)))), ((cell_far (p := ⟨gb154, _, none⟩) NB153_154.out _).trans (((cell_far (p := ⟨gb154, _, none⟩) NB153_154.out _).trans (hHeld.2.2.1)))), ((cell_far (p := ⟨gb154, _, none⟩) NB153_154.out _).trans (((cell_far (p := ⟨gb154, _, none⟩) NB153_154.out _).trans (hHeld.2.2.2))))⟩ (fun hHeld => ?_)
   clear hK K
   refine done_ (done_of HT_.out (by kernel_rfl)) ?_
   try go_wp2
   refine bodyPost_ret (results_cell_row rfl _ _ gb154 25 #[.bool t173, .slice Ao55 t174.length co55] (0, 0) _ rfl (by (with_reducible repeat (first | refine blk_drewN ?_ _ | refine blk_drew ?_ | refine blk_alloc ?_ _)); refine blk_put (cs := #[.bool t173, .slice none 0 0]) ?_ 1 _ rfl; (with_reducible repeat (first | refine blk_drewN ?_ _ | refine blk_drew ?_ | refine blk_alloc ?_ _)); refine blk_put (cs := #[.bool false, .slice none 0 0]) ?_ 0 _ rfl; (with_reducible repeat (first | refine blk_drewN ?_ _ | refine blk_drew ?_ | refine blk_alloc ?_ _)); exact BK154.out) Tryz.underlying25 rfl (by kernel_rfl)) rfl ?_
   exact ⟨_, by first | rfl | (simp [errW_none, errW_some] <;> rfl) | (simp [*, errW_none, errW_some] <;> rfl), by (with_reducible repeat (first | apply Kd.V_alloc | apply Kd.V_drewN | apply Kd.V_drew)); exact Kd.V_mono (Kd.V_far (p := ⟨gb154, 1, none⟩) (Kd.V_far (p := ⟨gb154, 0, none⟩) (Kd.V_mono HO176.out (fun k_ hk => (⟨hk, hk.2.2.2⟩ : _ ∧ k_ ≠ gb154))) (fun _ hk => hk.2) (.bool t173)) (fun _ hk => hk.2) (.slice Ao55 t174.length co55)) (fun _ hk => hk.1.1), by repeat (first | (with_reducible first | exact HB.out | apply below_alloc | apply pw_below_drewN | apply below_drew1 | refine below_set ?_ GE152.out | refine below_set ?_ GE153.out | refine below_set ?_ GE154.out) | exact HB.out)⟩

/-! ### worldmintref01_Around: function 14 -/
def worldmintref01_Around.f (a0 : Int) (a1 : Int) : Option (Int) := if a0 < 0 then (if a1 = 0 then (none) else (some (Int.tmod (wrap64 (-(wrap64 (a0 + 1)))) a1))) else (if a1 = 0 then (none) else (some (Int.tmod a0 a1)))
set_option maxHeartbeats 8000000 in
set_option maxRecDepth 100000 in
theorem worldmintref01_Around.calls (a0 : Int) (a1 : Int) (r : Int) (w : World) (h : worldmintref01_Around.f a0 a1 = some r) :
  Calls Tryz.prog 14 #[.int .i64 a0, .int .i64 a1] w fun e w' => e = .returned (.int .i64 r) ∧ Drawn0 w w' := by
 have H : (if a0 < 0 then (if a1 = 0 then (none) else (some (Int.tmod (wrap64 (-(wrap64 (a0 + 1)))) a1))) else (if a1 = 0 then (none) else (some (Int.tmod a0 a1)))) = some r := h
 clear h
 by_cases c3 : a0 < 0
 ·rw [if_pos c3] at H
  have c3b0 : decide (a0 < 0) = true := decide_eq_true c3
  clear c3
  by_cases c4 : a1 = 0
  ·rw [if_pos c4] at H
   exact absurd H (by simp)
  ·rw [if_neg c4] at H
   have c4b0 : (a1 == 0) = false := beq_eq_false_iff_ne.mpr c4
   have c4b1 : (a1 != 0) = true := bne_iff_ne.mpr c4
   obtain rfl := Option.some.inj H
   go_enter Tryz.func14, Tryz.ntmps14
   go_wp2
   go_ret
   exact ⟨by first | rfl | (simp; done) | (simp [*]; done), by repeat (first | exact Drawn0.refl _ | apply Drawn0.step)⟩
 ·rw [if_neg c3] at H
  have c3b0 : decide (a0 < 0) = false := decide_eq_false c3
  clear c3
  by_cases c5 : a1 = 0
  ·rw [if_pos c5] at H
   exact absurd H (by simp)
  ·rw [if_neg c5] at H
   have c5b0 : (a1 == 0) = false := beq_eq_false_iff_ne.mpr c5
   have c5b1 : (a1 != 0) = true := bne_iff_ne.mpr c5
   obtain rfl := Option.some.inj H
   go_enter Tryz.func14, Tryz.ntmps14
   go_wp2
   go_ret
   exact ⟨by first | rfl | (simp; done) | (simp [*]; done), by repeat (first | exact Drawn0.refl _ | apply Drawn0.step)⟩

/-! ### worldmintref01_Pick: function 45 -/
def worldmintref01_Pick.f (l0 : List Int) (a1 : Int) (a2 : Int) : Option (Int) := if a1 < 0 then (some 0) else (if a1 ≥ (l0.length : Int) then (some 0) else (if 0 ≤ a1 then (if a1 < (l0.length : Int) then ((worldmintref01_Around.f (rd l0 a1) a2).bind fun t178 => (some t178)) else (none)) else (none)))
set_option maxHeartbeats 8000000 in
set_option maxRecDepth 100000 in
theorem worldmintref01_Pick.calls (A0 : Option Addr) (c0 : Nat) (l0 : List Int) (a1 : Int) (a2 : Int) (r : Int) (w : World) (hr0 : Kd.C (Kd.int .i64) w A0 l0.length l0) (hc0 : l0.length ≤ c0) (h : worldmintref01_Pick.f l0 a1 a2 = some r) :
  Calls Tryz.prog 45 #[.slice A0 l0.length c0, .int .i64 a1, .int .i64 a2] w fun e w' => e = .returned (.int .i64 r) ∧ Drawn0 w w' := by
 have HR0 := am_ hr0
 have HC0 := am_ hc0
 clear hr0 hc0
 have H : (if a1 < 0 then (some 0) else (if a1 ≥ (l0.length : Int) then (some 0) else (if 0 ≤ a1 then (if a1 < (l0.length : Int) then ((worldmintref01_Around.f (rd l0 a1) a2).bind fun t178 => (some t178)) else (none)) else (none)))) = some r := h
 clear h
 by_cases c4 : a1 < 0
 ·rw [if_pos c4] at H
  have c4b0 : decide (a1 < 0) = true := decide_eq_true c4
  clear c4
  obtain rfl := Option.some.inj H
  go_enter Tryz.func45, Tryz.ntmps45
  go_wp2
  go_ret
  exact ⟨by first | rfl | (simp; done) | (simp [*]; done), by repeat (first | exact Drawn0.refl _ | apply Drawn0.step)⟩
 ·rw [if_neg c4] at H
  have c4b0 : decide (a1 < 0) = false := decide_eq_false c4
  clear c4
  by_cases c5 : a1 ≥ (l0.length : Int)
  ·rw [if_pos c5] at H
   have c5b0 : decide ((l0.length : Int) ≤ a1) = true := decide_eq_true c5
   clear c5
   obtain rfl := Option.some.inj H
   go_enter Tryz.func45, Tryz.ntmps45
   go_wp2
   go_ret
   exact ⟨by first | rfl | (simp; done) | (simp [*]; done), by repeat (first | exact Drawn0.refl _ | apply Drawn0.step)⟩
  ·rw [if_neg c5] at H
   have c5b0 : decide ((l0.length : Int) ≤ a1) = false := decide_eq_false c5
   clear c5
   by_cases c6 : 0 ≤ a1
   ·rw [if_pos c6] at H
    have c6b0 : decide (0 ≤ a1) = true := decide_eq_true c6
    clear c6
    by_cases c7 : a1 < (l0.length : Int)
    ·rw [if_pos c7] at H
     have c7b0 : decide (a1 < (l0.length : Int)) = true := decide_eq_true c7
     clear c7
     replace H := Option.bind_eq_some_iff.mp H
     obtain ⟨t178, A80, H⟩ := H
     replace H : (some t178) = some r := H
     have A8 := am_ A80
     clear A80
     obtain rfl := Option.some.inj H
     have p177 : 0 ≤ (a1 : Int) := of_decide_eq_true zq3
     have q177 : a1 < (l0.length : Int) := of_decide_eq_true zq3
     obtain ⟨ad177, e177, hx177_0⟩ := Kd.at_int HR0.out a1 p177 q177
     cases e177
     replace p177 := eq_true p177
     replace q177 := eq_true q177
     go_enter Tryz.func45, Tryz.ntmps45
     go_wp2_with (first | ((with_reducible refine gate_callee (f := 14) rfl ?_); refine goesL_ (some 20) rfl rfl Tryz.func14 (by kernel_rfl) rfl #[.int .i64 (rd l0 a1), .int .i64 a2] rfl zq6 ?_; (with_reducible refine (worldmintref01_Around.calls (rd l0 a1) a2 t178 _ A8.out).mono ?_); rintro e w' ⟨rfl, ⟨nd, rfl⟩⟩; refine ⟨_, rfl, ?_⟩))
     go_ret
     exact ⟨by first | rfl | (simp; done) | (simp [*]; done), by repeat (first | exact Drawn0.refl _ | apply Drawn0.step)⟩
    ·rw [if_neg c7] at H
     exact absurd H (by simp)
   ·rw [if_neg c6] at H
    exact absurd H (by simp)

/-! ### worldmintref05_Power: function 46 -/
def worldmintref05_Power.l0 : Nat → Int → Bool → List Int → Bool → List Int → Option (Bool × List Int)
 | 0, _, _, _, _, _ => none
 | k + 1, x0, x185000, x185001, x190000, x190001 => if x0 > 0 then (if (Int.tmod x0 2) = 1 then ((worldmintref05_Mul.f k x185000 x185001 x190000 x190001).bind fun bt190 => ((worldmintref05_Mul.f k x190000 x190001 x190000 x190001).bind fun bt194 => (worldmintref05_Power.l0 k (wrap64 (Int.tdiv x0 2)) bt190.1 bt190.2 bt194.1 bt194.2))) else ((worldmintref05_Mul.f k x190000 x190001 x190000 x190001).bind fun bt198 => (worldmintref05_Power.l0 k (wrap64 (Int.tdiv x0 2)) x185000 x185001 bt198.1 bt198.2))) else (some (x185000, x185001))
def worldmintref05_Power.f (k : Nat) (a0 : Int) : Option (Bool × List Int) := (worldmintref05_Of.f k 1).bind fun bt180 => ((worldmintref05_Of.f k 2).bind fun bt185 => (worldmintref05_Power.l0 k a0 bt180.1 bt180.2 bt185.1 bt185.2))
theorem worldmintref05_Power.mono_l : ∀ k, (∀ y0 y1 y2 y3 y4, LeO (worldmintref05_Power.l0 k y0 y1 y2 y3 y4) (worldmintref05_Power.l0 (k + 1) y0 y1 y2 y3 y4))
 | 0 => fun _ _ _ _ _ r h => by simp [worldmintref05_Power.l0] at h
 | k + 1 => by
  have ih0 := worldmintref05_Power.mono_l k
  ·intro y0 y1 y2 y3 y4
   unfold worldmintref05_Power.l0
   repeat' first
   | (with_reducible exact ih0 _ _ _ _ _)
   | (with_reducible exact worldmintref05_Mul.mono _ _ _ _ _)
   | (with_reducible exact worldmintref05_Of.mono _ _)
   | (with_reducible exact LeO.refl _)
   | (with_reducible exact LeO.none _)
   | (with_reducible refine LeO.ite ?_ ?_)
   | (with_reducible refine LeO.bind ?_ (fun _ => ?_))
   | exact ih0 _ _ _ _ _
   | exact worldmintref05_Mul.mono _ _ _ _ _
   | exact worldmintref05_Of.mono _ _
   | exact LeO.none _
   | refine LeO.ite ?_ ?_
   | refine LeO.bind ?_ (fun _ => ?_)
theorem worldmintref05_Power.mono : ∀ a0 k, LeO (worldmintref05_Power.f k a0) (worldmintref05_Power.f (k + 1) a0) := by
 intro a0 k
 have ih0 := worldmintref05_Power.mono_l k
 unfold worldmintref05_Power.f
 repeat' first
   | (with_reducible exact ih0 _ _ _ _ _)
   | (with_reducible exact worldmintref05_Mul.mono _ _ _ _ _)
   | (with_reducible exact worldmintref05_Of.mono _ _)
   | (with_reducible exact LeO.refl _)
   | (with_reducible exact LeO.none _)
   | (with_reducible refine LeO.ite ?_ ?_)
   | (with_reducible refine LeO.bind ?_ (fun _ => ?_))
   | exact ih0 _ _ _ _ _
   | exact worldmintref05_Mul.mono _ _ _ _ _
   | exact worldmintref05_Of.mono _ _
   | exact LeO.none _
   | refine LeO.ite ?_ ?_
   | refine LeO.bind ?_ (fun _ => ?_)
set_option maxHeartbeats 8000000 in
set_option maxRecDepth 100000 in
theorem worldmintref05_Power.calls (k : Nat) (a0 : Int) (r1 : Bool) (r2 : List Int) (w : World) (h : worldmintref05_Power.f k a0 = some (r1, r2)) :
  Calls Tryz.prog 46 #[.int .i64 a0] w fun e w' => ∃ v1_ : Value, e = .returned (.agg #[.bool r1, v1_]) ∧ Kd.V (Kd.int .i64) 3 w' w.heap.size (fun k_ => (w.heap.size ≤ k_)) v1_ r2 ∧ Below w.heap.size w w' := by
 have hu25 := Tryz.underlying25
 have HB := am_ (Below.refl w.heap.size w)
 have H : ((worldmintref05_Of.f k 1).bind fun bt180 => ((worldmintref05_Of.f k 2).bind fun bt185 => (worldmintref05_Power.l0 k a0 bt180.1 bt180.2 bt185.1 bt185.2))) = some (r1, r2) := h
 clear h
 replace H := Option.bind_eq_some_iff.mp H
 obtain ⟨⟨t180, t181⟩, A20, H⟩ := H
 replace H : ((worldmintref05_Of.f k 2).bind fun bt185 => (worldmintref05_Power.l0 k a0 t180 t181 bt185.1 bt185.2)) = some (r1, r2) := H
 have A2 := am_ A20
 clear A20
 replace H := Option.bind_eq_some_iff.mp H
 obtain ⟨⟨t185, t186⟩, A30, H⟩ := H
 replace H : (worldmintref05_Power.l0 k a0 t180 t181 t185 t186) = some (r1, r2) := H
 have A3 := am_ A30
 clear A30
 have H' := am_ H
 clear H
 go_enter Tryz.func46, Tryz.ntmps46
 go_wp2_with (first | ((with_reducible refine gate_dst (N := 2) rfl ?_); refine box_event ?hg (N := 2) ?hd (cs := #[.bool false, .slice none 0 0]) (t := 25) ?hr ?_; (case hd => rfl); (case hg => rfl); (case hr => exact zq0); intro gb179 hg w4 hbox hb; have n0_ := am_ (below_step zq2 hb); have n1_ := am_ (hbox); have n2_ := am_ ((by rw [hg]; exact (below_size zq2) : w.heap.size ≤ gb179)); clear HB; have HB := n0_; have BK179 := n1_; have GE179 := n2_; clear n0_ n1_ n2_; clear hb hbox hg) | ((with_reducible refine gate_callee (f := 23) rfl ?_); refine goesL_ (some 5) rfl rfl Tryz.func23 (by kernel_rfl) rfl #[.int .i64 1] rfl zq6 ?_; (with_reducible refine (worldmintref05_Of.calls k 1 t180 t181 _ A2.out).mono ?_); rintro e w5 ⟨v182, rfl, ho0, hb⟩; refine ⟨_, rfl, ?_⟩; have HO183 := am_ (Kd.V_lower (Kd.V_mono (ok' := fun k_ => (w.heap.size ≤ k_) ∧ k_ ≠ gb179) ho0 (fun k_ hk_ => ⟨(Nat.le_trans (below_size zq27) hk_), (Kd.freshB (g := gb179) (o := .cells #[.bool false, .slice none 0 0] 25 (0, 0)) (zq9 BK179.out) k_ hk_)⟩)) (below_size zq27)); replace BK179 := am_ (blk_below (g := gb179) (o := .cells #[.bool false, .slice none 0 0] 25 (0, 0)) (zq9 BK179.out) hb); replace HB := am_ (below_step zq27 hb); (try clear hb); (try clear ho0)) | ((with_reducible refine gate_dst (N := 3) rfl ?_); refine box_event ?hg (N := 3) ?hd (cs := #[.bool false, .slice none 0 0]) (t := 25) ?hr ?_; (case hd => rfl); (case hg => rfl); (case hr => exact zq0); intro gb184 hg w6 hbox hb; have n0_ := am_ (Kd.V_below (Kd.V_elderB (zq1 HO183.out) gb184 (Nat.le_of_eq hg.symm)) hb); have n1_ := am_ (blk_below (g := gb179) (o := .cells #[.bool false, .slice none 0 0] 25 (0, 0)) (zq9 BK179.out) hb); have n2_ := am_ (below_step zq27 hb); have n3_ := am_ (hbox); have n4_ := am_ ((by rw [hg]; exact (below_size zq27) : w.heap.size ≤ gb184)); have n5_ := am_ ((by rw [hg]; exact Nat.ne_of_lt (blk_lt (g := gb179) (zq9 BK179.out)) : gb179 ≠ gb184)); have n6_ := am_ ((by rw [hg]; exact Nat.ne_of_gt (blk_lt (g := gb179) (zq9 BK179.out)) : gb184 ≠ gb179)); clear HO183 BK179 HB; have HO183 := n0_; have BK179 := n1_; have HB := n2_; have BK184 := n3_; have GE184 := n4_; have NB179_184 := n5_; have NB184_179 := n6_; clear n0_ n1_ n2_ n3_ n4_ n5_ n6_; clear hb hbox hg; have hnb7 := NB184_179.out; have hnc7 := NB179_184.out; have hcz8_0 : w6.cell? ⟨gb184, 0, none⟩ = some (.bool false) := (blk_cell BK184.out 0).trans rfl; have hcz8_1 : w6.cell? ⟨gb184, 1, none⟩ = some (.slice none 0 0) := (blk_cell BK184.out 1).trans rfl; have hfz8_0 := blk_frozen BK184.out 0; have hfz8_1 := blk_frozen BK184.out 1; obtain ⟨Ao9, co9, eo9⟩ := Kd.V_slice HO183.out; subst eo9) | ((with_reducible refine gate_callee (f := 23) rfl ?_); refine goesL_ (some 6) rfl rfl Tryz.func23 (by kernel_rfl) rfl #[.int .i64 2] rfl zq6 ?_; (with_reducible refine (worldmintref05_Of.calls k 2 t185 t186 _ A3.out).mono ?_); rintro e w10 ⟨v187, rfl, ho0, hb⟩; refine ⟨_, rfl, ?_⟩; replace HO183 := am_ (Kd.V_below (by (with_reducible repeat (first | apply Kd.V_alloc | apply Kd.V_drewN | apply Kd.V_drew)); exact (Kd.V_mono (Kd.V_far (p := ⟨gb184, 1, none⟩) (Kd.V_far (p := ⟨gb184, 0, none⟩) (Kd.V_mono HO183.out (fun k_ hk => (⟨hk, hk.2⟩ : _ ∧ k_ ≠ gb184))) (fun _ hk => hk.2) (.bool t180)) (fun _ hk => hk.2) (.slice Ao9 t181.length co9)) (fun _ h_ => h_.1))) hb); have HO188 := am_ (Kd.V_lower (Kd.V_mono (ok' := fun k_ => (w.heap.size ≤ k_) ∧ k_ ≠ gb179 ∧ k_ ≠ gb184) ho0 (fun k_ hk_ => ⟨(Nat.le_trans (below_size zq28) hk_), (Kd.freshB (g := gb179) (o := .cells #[.bool false, .slice none 0 0] 25 (0, 0)) (zq29 BK179.out) k_ hk_), (Kd.freshB (g := gb184) (o := .cells #[.bool t180, .slice Ao9 t181.length co9] 25 (0, 0)) (zq30 BK184.out) k_ hk_)⟩)) (below_size zq28)); replace BK179 := am_ (blk_below (g := gb179) (o := .cells #[.bool false, .slice none 0 0] 25 (0, 0)) (zq29 BK179.out) hb); replace BK184 := am_ (blk_below (g := gb184) (o := .cells #[.bool t180, .slice Ao9 t181.length co9] 25 (0, 0)) (zq30 BK184.out) hb); replace HB := am_ (below_step zq28 hb); (try clear hb); (try clear ho0)) | ((with_reducible refine gate_dst (N := 4) rfl ?_); refine box_event ?hg (N := 4) ?hd (cs := #[.bool false, .slice none 0 0]) (t := 25) ?hr ?_; (case hd => rfl); (case hg => rfl); (case hr => exact zq0); intro gb189 hg w11 hbox hb; have n0_ := am_ (Kd.V_below (Kd.V_elderB (zq1 HO183.out) gb189 (Nat.le_of_eq hg.symm)) hb); have n1_ := am_ (Kd.V_below (Kd.V_elderB (zq1 HO188.out) gb189 (Nat.le_of_eq hg.symm)) hb); have n2_ := am_ (blk_below (g := gb179) (o := .cells #[.bool false, .slice none 0 0] 25 (0, 0)) (zq9 BK179.out) hb); have n3_ := am_ (blk_below (g := gb184) (o := .cells #[.bool t180, .slice Ao9 t181.length co9] 25 (0, 0)) (zq9 BK184.out) hb); have n4_ := am_ (below_step zq28 hb); have n5_ := am_ (hbox); have n6_ := am_ ((by rw [hg]; exact (below_size zq28) : w.heap.size ≤ gb189)); have n7_ := am_ ((by rw [hg]; exact Nat.ne_of_lt (blk_lt (g := gb179) (zq9 BK179.out)) : gb179 ≠ gb189)); have n8_ := am_ ((by rw [hg]; exact Nat.ne_of_gt (blk_lt (g := gb179) (zq9 BK179.out)) : gb189 ≠ gb179)); have n9_ := am_ ((by rw [hg]; exact Nat.ne_of_lt (blk_lt (g := gb184) (zq9 BK184.out)) : gb184 ≠ gb189)); have n10_ := am_ ((by rw [hg]; exact Nat.ne_of_gt (blk_lt (g := gb184) (zq9 BK184.out)) : gb189 ≠ gb184)); clear HO183 HO188 BK179 BK184 HB; have HO183 := n0_; have HO188 := n1_; have BK179 := n2_; have BK184 := n3_; have HB := n4_; have BK189 := n5_; have GE189 := n6_; have NB179_189 := n7_; have NB189_179 := n8_; have NB184_189 := n9_; have NB189_184 := n10_; clear n0_ n1_ n2_ n3_ n4_ n5_ n6_ n7_ n8_ n9_ n10_; clear hb hbox hg; have hnb12 := NB189_179.out; have hnc12 := NB179_189.out; have hnb13 := NB189_184.out; have hnc13 := NB184_189.out; have hcz14_0 : w11.cell? ⟨gb189, 0, none⟩ = some (.bool false) := (blk_cell BK189.out 0).trans rfl; have hcz14_1 : w11.cell? ⟨gb189, 1, none⟩ = some (.slice none 0 0) := (blk_cell BK189.out 1).trans rfl; have hfz14_0 := blk_frozen BK189.out 0; have hfz14_1 := blk_frozen BK189.out 1; obtain ⟨Ao15, co15, eo15⟩ := Kd.V_slice HO188.out; subst eo15))
 try simp only [Act.put, List.setIfInBounds_toArray, List.set_cons_zero, List.set_cons_succ]
 go_loopg [0] k (fun kq v0 w' => ∃ (x0_1 : Int) (x185000_1 : Bool) (x185001_1 : List Int) (x190000_1 : Bool) (x190001_1 : List Int) (u185001 : Value) (u190001 : Value), v0 = .int .i64 x0_1 ∧ Aside0 (worldmintref05_Power.l0 kq x0_1 x185000_1 x185001_1 x190000_1 x190001_1 = some (r1, r2)) ∧ Aside0 (kq ≤ k) ∧ Aside0 (Kd.V (Kd.int .i64) 3 w' w.heap.size (fun k_ => (w.heap.size ≤ k_) ∧ k_ ≠ gb179 ∧ k_ ≠ gb184 ∧ k_ ≠ gb189) u185001 x185001_1) ∧ Aside0 (Kd.V (Kd.int .i64) 3 w' w.heap.size (fun k_ => (w.heap.size ≤ k_) ∧ k_ ≠ gb179 ∧ k_ ≠ gb184 ∧ k_ ≠ gb189) u190001 x190001_1) ∧ Aside0 (w'.heap[gb179]? = some (.cells #[.bool false, (.slice none 0 0)] 25 (0, 0))) ∧ Aside0 (w'.heap[gb184]? = some (.cells #[.bool x185000_1, u185001] 25 (0, 0))) ∧ Aside0 (w'.heap[gb189]? = some (.cells #[.bool x190000_1, u190001] 25 (0, 0))) ∧ Aside0 (Below w.heap.size w w'))
 case atStart => exact ⟨(a0), (t180), (t181), (t185), (t186), (.slice Ao9 t181.length co9), (.slice Ao15 t186.length co15), zq5, H', ⟨Nat.le_refl _⟩, ⟨by (with_reducible repeat (first | apply Kd.V_alloc | apply Kd.V_drewN | apply Kd.V_drew)); exact Kd.V_mono (Kd.V_far (p := ⟨gb189, 1, none⟩) (Kd.V_far (p := ⟨gb189, 0, none⟩) (Kd.V_mono HO183.out (fun k_ hk => (⟨hk, hk.2⟩ : _ ∧ k_ ≠ gb189))) (fun _ hk => hk.2) (.bool t185)) (fun _ hk => hk.2) (.slice Ao15 t186.length co15)) (fun _ hk => ⟨hk.1.1.1.1, ⟨hk.1.1.1.2, ⟨hk.1.1.2, hk.1.2⟩⟩⟩)⟩, ⟨by (with_reducible repeat (first | apply Kd.V_alloc | apply Kd.V_drewN | apply Kd.V_drew)); exact Kd.V_mono (Kd.V_far (p := ⟨gb189, 1, none⟩) (Kd.V_far (p := ⟨gb189, 0, none⟩) (Kd.V_mono HO188.out (fun k_ hk => (⟨hk, hk.2⟩ : _ ∧ k_ ≠ gb189))) (fun _ hk => hk.2) (.bool t185)) (fun _ hk => hk.2) (.slice Ao15 t186.length co15)) (fun _ hk => ⟨hk.1.1.1, ⟨hk.1.1.2.1, ⟨hk.1.1.2.2, hk.1.2⟩⟩⟩)⟩, ⟨by (with_reducible repeat (first | refine blk_drewN ?_ _ | refine blk_drew ?_ | refine blk_alloc ?_ _)); refine blk_far ?_ NB179_189.out _; (with_reducible repeat (first | refine blk_drewN ?_ _ | refine blk_drew ?_ | refine blk_alloc ?_ _)); refine blk_far ?_ NB179_189.out _; (with_reducible repeat (first | refine blk_drewN ?_ _ | refine blk_drew ?_ | refine blk_alloc ?_ _)); exact BK179.out⟩, ⟨by (with_reducible repeat (first | refine blk_drewN ?_ _ | refine blk_drew ?_ | refine blk_alloc ?_ _)); refine blk_far ?_ NB184_189.out _; (with_reducible repeat (first | refine blk_drewN ?_ _ | refine blk_drew ?_ | refine blk_alloc ?_ _)); refine blk_far ?_ NB184_189.out _; (with_reducible repeat (first | refine blk_drewN ?_ _ | refine blk_drew ?_ | refine blk_alloc ?_ _)); exact BK184.out⟩, ⟨by (with_reducible repeat (first | refine blk_drewN ?_ _ | refine blk_drew ?_ | refine blk_alloc ?_ _)); refine blk_put (cs := #[.bool t185, .slice none 0 0]) ?_ 1 _ rfl; (with_reducible repeat (first | refine blk_drewN ?_ _ | refine blk_drew ?_ | refine blk_alloc ?_ _)); refine blk_put (cs := #[.bool false, .slice none 0 0]) ?_ 0 _ rfl; (with_reducible repeat (first | refine blk_drewN ?_ _ | refine blk_drew ?_ | refine blk_alloc ?_ _)); exact BK189.out⟩, ⟨by repeat (first | (with_reducible first | exact HB.out | apply below_alloc | apply pw_below_drewN | apply below_drew1 | refine below_set ?_ GE179.out | refine below_set ?_ GE184.out | refine below_set ?_ GE189.out) | exact HB.out)⟩⟩
 case round =>
  clear H'
  try clear c1
  try clear c2
  try clear p2
  try clear c4
  try clear c7
  try clear c12
  try clear c13
  try clear hcz14_0
  try clear hcz14_1
  try clear hcz8_0
  try clear hcz8_1
  try clear hfz14_0
  try clear hfz14_1
  try clear hfz8_0
  try clear hfz8_1
  obtain ⟨x0_1, x185000_1, x185001_1, x190000_1, x190001_1, u185001, u190001, rfl, HA, HK1, HO_185001, HO_190001, BK179, BK184, BK189, HB⟩ := hrel
  cases gk with
  | zero => exact absurd HA.out (by simp [worldmintref05_Power.l0])
  | succ k1 =>
   have H := HA.out
   clear HA
   simp only [worldmintref05_Power.l0] at H
   by_cases c16 : x0_1 > 0
   ·rw [if_pos c16] at H
    have c16b0 : decide (0 < x0_1) = true := decide_eq_true c16
    clear c16
    by_cases c17 : (Int.tmod x0_1 2) = 1
    ·rw [if_pos c17] at H
     have c17b0 : ((Int.tmod x0_1 2) == 1) = true := beq_iff_eq.mpr c17
     have c17b1 : ((Int.tmod x0_1 2) != 1) = false := bne_eq_false_iff_eq.mpr c17
     clear c17
     replace H := Option.bind_eq_some_iff.mp H
     obtain ⟨⟨t190, t191⟩, A180, H⟩ := H
     replace H : ((worldmintref05_Mul.f k1 x190000_1 x190001_1 x190000_1 x190001_1).bind fun bt194 => (worldmintref05_Power.l0 k1 (wrap64 (Int.tdiv x0_1 2)) t190 t191 bt194.1 bt194.2)) = some (r1, r2) := H
     have A18 := am_ A180
     clear A180
     replace H := Option.bind_eq_some_iff.mp H
     obtain ⟨⟨t194, t195⟩, A190, H⟩ := H
     replace H : (worldmintref05_Power.l0 k1 (wrap64 (Int.tdiv x0_1 2)) t190 t191 t194 t195) = some (r1, r2) := H
     have A19 := am_ A190
     clear A190
     have H' := am_ H
     clear H
     have hnb20 := NB184_179.out
     have hnc20 := NB179_184.out
     have hnb21 := NB184_189.out
     have hnc21 := NB189_184.out
     have hcz22_0 : wr.cell? ⟨gb184, 0, none⟩ = some (.bool x185000_1) := (blk_cell BK184.out 0).trans rfl
     have hcz22_1 : wr.cell? ⟨gb184, 1, none⟩ = some (u185001) := (blk_cell BK184.out 1).trans rfl
     have hfz22_0 := blk_frozen BK184.out 0
     have hfz22_1 := blk_frozen BK184.out 1
     have hnb23 := NB189_179.out
     have hnc23 := NB179_189.out
     have hcz24_0 : wr.cell? ⟨gb189, 0, none⟩ = some (.bool x190000_1) := (blk_cell BK189.out 0).trans rfl
     have hcz24_1 : wr.cell? ⟨gb189, 1, none⟩ = some (u190001) := (blk_cell BK189.out 1).trans rfl
     have hfz24_0 := blk_frozen BK189.out 0
     have hfz24_1 := blk_frozen BK189.out 1
     obtain ⟨Ao25, co25, eo25⟩ := Kd.V_slice HO_185001.out
     subst eo25
     obtain ⟨Ao26, co26, eo26⟩ := Kd.V_slice HO_190001.out
     subst eo26
     go_wp2_with (first | ((with_reducible refine gate_callee (f := 28) rfl ?_); refine goesL_ (some 14) rfl rfl Tryz.func28 (by kernel_rfl) rfl #[.agg #[.bool x185000_1, .slice Ao25 x185001_1.length co25], .agg #[.bool x190000_1, .slice Ao26 x190001_1.length co26]] rfl zq6 ?_; (with_reducible refine (worldmintref05_Mul.calls k1 x185000_1 _ _ x185001_1 x190000_1 _ _ x190001_1 t190 t191 _ ?side1 ?side2 ?side3 ?side4 A18.out).mono ?_); (case side1 => exact (zq31 HO_185001.out)); (case side2 => exact (Kd.V_reads' HO_185001.out).2.1); (case side3 => exact (zq31 HO_190001.out)); (case side4 => exact (Kd.V_reads' HO_190001.out).2.1); rintro e w27 ⟨v192, rfl, ho0, hb⟩; refine ⟨_, rfl, ?_⟩; replace HO_185001 := am_ (Kd.V_below (zq1 HO_185001.out) hb); replace HO_190001 := am_ (Kd.V_below (zq1 HO_190001.out) hb); have HO193 := am_ (Kd.V_lower (Kd.V_mono (ok' := fun k_ => (w.heap.size ≤ k_) ∧ k_ ≠ gb179 ∧ k_ ≠ gb184 ∧ k_ ≠ gb189) ho0 (fun k_ hk_ => ⟨(Nat.le_trans (below_size zq32) hk_), (Kd.freshB (g := gb179) (o := .cells #[.bool false, .slice none 0 0] 25 (0, 0)) (zq9 BK179.out) k_ hk_), (Kd.freshB (g := gb184) (o := .cells #[.bool x185000_1, .slice Ao25 x185001_1.length co25] 25 (0, 0)) (zq9 BK184.out) k_ hk_), (Kd.freshB (g := gb189) (o := .cells #[.bool x190000_1, .slice Ao26 x190001_1.length co26] 25 (0, 0)) (zq9 BK189.out) k_ hk_)⟩)) (below_size zq32)); replace BK179 := am_ (blk_below (g := gb179) (o := .cells #[.bool false, .slice none 0 0] 25 (0, 0)) (zq9 BK179.out) hb); replace BK184 := am_ (blk_below (g := gb184) (o := .cells #[.bool x185000_1, .slice Ao25 x185001_1.length co25] 25 (0, 0)) (zq9 BK184.out) hb); replace BK189 := am_ (blk_below (g := gb189) (o := .cells #[.bool x190000_1, .slice Ao26 x190001_1.length co26] 25 (0, 0)) (zq9 BK189.out) hb); replace HB := am_ (below_step zq32 hb); (try clear hb); (try clear ho0); have hcz28_0 : w27.cell? ⟨gb184, 0, none⟩ = some (.bool x185000_1) := (blk_cell BK184.out 0).trans rfl; have hcz28_1 : w27.cell? ⟨gb184, 1, none⟩ = some (.slice Ao25 x185001_1.length co25) := (blk_cell BK184.out 1).trans rfl; have hfz28_0 := blk_frozen BK184.out 0; have hfz28_1 := blk_frozen BK184.out 1; obtain ⟨Ao29, co29, eo29⟩ := Kd.V_slice HO193.out; subst eo29; have hcz30_0 : w27.cell? ⟨gb189, 0, none⟩ = some (.bool x190000_1) := (blk_cell BK189.out 0).trans rfl; have hcz30_1 : w27.cell? ⟨gb189, 1, none⟩ = some (.slice Ao26 x190001_1.length co26) := (blk_cell BK189.out 1).trans rfl; have hfz30_0 := blk_frozen BK189.out 0; have hfz30_1 := blk_frozen BK189.out 1) | ((with_reducible refine gate_callee (f := 28) rfl ?_); refine goesL_ (some 17) rfl rfl Tryz.func28 (by kernel_rfl) rfl #[.agg #[.bool x190000_1, .slice Ao26 x190001_1.length co26], .agg #[.bool x190000_1, .slice Ao26 x190001_1.length co26]] rfl zq6 ?_; (with_reducible refine (worldmintref05_Mul.calls k1 x190000_1 _ _ x190001_1 x190000_1 _ _ x190001_1 t194 t195 _ ?side1 ?side2 ?side3 ?side4 A19.out).mono ?_); (case side1 => exact (zq33 HO_190001.out)); (case side2 => exact (Kd.V_reads' HO_190001.out).2.1); (case side3 => exact (zq33 HO_190001.out)); (case side4 => exact (Kd.V_reads' HO_190001.out).2.1); rintro e w31 ⟨v196, rfl, ho0, hb⟩; refine ⟨_, rfl, ?_⟩; replace HO_185001 := am_ (Kd.V_below (zq34 HO_185001.out) hb); replace HO_190001 := am_ (Kd.V_below (zq34 HO_190001.out) hb); replace HO193 := am_ (Kd.V_below (zq34 HO193.out) hb); have HO197 := am_ (Kd.V_lower (Kd.V_mono (ok' := fun k_ => (w.heap.size ≤ k_) ∧ k_ ≠ gb179 ∧ k_ ≠ gb184 ∧ k_ ≠ gb189) ho0 (fun k_ hk_ => ⟨(Nat.le_trans (below_size zq32) hk_), (Kd.freshB (g := gb179) (o := .cells #[.bool false, .slice none 0 0] 25 (0, 0)) (zq29 BK179.out) k_ hk_), (Kd.freshB (g := gb184) (o := .cells #[.bool t190, .slice Ao29 t191.length co29] 25 (0, 0)) (zq35 BK184.out) k_ hk_), (Kd.freshB (g := gb189) (o := .cells #[.bool x190000_1, .slice Ao26 x190001_1.length co26] 25 (0, 0)) (zq36 BK189.out) k_ hk_)⟩)) (below_size zq32)); replace BK179 := am_ (blk_below (g := gb179) (o := .cells #[.bool false, .slice none 0 0] 25 (0, 0)) (zq29 BK179.out) hb); replace BK184 := am_ (blk_below (g := gb184) (o := .cells #[.bool t190, .slice Ao29 t191.length co29] 25 (0, 0)) (zq35 BK184.out) hb); replace BK189 := am_ (blk_below (g := gb189) (o := .cells #[.bool x190000_1, .slice Ao26 x190001_1.length co26] 25 (0, 0)) (zq36 BK189.out) hb); replace HB := am_ (below_step zq32 hb); (try clear hb); (try clear ho0); have hcz32_0 : w31.cell? ⟨gb189, 0, none⟩ = some (.bool x190000_1) := (blk_cell BK189.out 0).trans rfl; have hcz32_1 : w31.cell? ⟨gb189, 1, none⟩ = some (.slice Ao26 x190001_1.length co26) := (blk_cell BK189.out 1).trans rfl; have hfz32_0 := blk_frozen BK189.out 0; have hfz32_1 := blk_frozen BK189.out 1; obtain ⟨Ao33, co33, eo33⟩ := Kd.V_slice HO197.out; subst eo33))
     go_roundg k1
     case measure => have := HK1.out; omega
     case rel => exact ⟨(wrap64 (Int.tdiv x0_1 2)), (t190), (t191), (t194), (t195), (.slice Ao29 t191.length co29), (.slice Ao33 t195.length co33), zq5, H', ⟨by have := HK1.out; omega⟩, ⟨by (with_reducible repeat (first | apply Kd.V_alloc | apply Kd.V_drewN | apply Kd.V_drew)); exact Kd.V_mono (Kd.V_far (p := ⟨gb189, 1, none⟩) (Kd.V_far (p := ⟨gb189, 0, none⟩) (Kd.V_mono HO193.out (fun k_ hk => (⟨hk, hk.2.2.2⟩ : _ ∧ k_ ≠ gb189))) (fun _ hk => hk.2) (.bool t194)) (fun _ hk => hk.2) (.slice Ao33 t195.length co33)) (fun _ hk => ⟨hk.1.1, ⟨hk.1.2.1, ⟨hk.1.2.2.1, hk.1.2.2.2⟩⟩⟩)⟩, ⟨by (with_reducible repeat (first | apply Kd.V_alloc | apply Kd.V_drewN | apply Kd.V_drew)); exact Kd.V_mono (Kd.V_far (p := ⟨gb189, 1, none⟩) (Kd.V_far (p := ⟨gb189, 0, none⟩) (Kd.V_mono HO197.out (fun k_ hk => (⟨hk, hk.2.2.2⟩ : _ ∧ k_ ≠ gb189))) (fun _ hk => hk.2) (.bool t194)) (fun _ hk => hk.2) (.slice Ao33 t195.length co33)) (fun _ hk => ⟨hk.1.1, ⟨hk.1.2.1, ⟨hk.1.2.2.1, hk.1.2.2.2⟩⟩⟩)⟩, ⟨by (with_reducible repeat (first | refine blk_drewN ?_ _ | refine blk_drew ?_ | refine blk_alloc ?_ _)); refine blk_far ?_ NB179_189.out _; (with_reducible repeat (first | refine blk_drewN ?_ _ | refine blk_drew ?_ | refine blk_alloc ?_ _)); refine blk_far ?_ NB179_189.out _; (with_reducible repeat (first | refine blk_drewN ?_ _ | refine blk_drew ?_ | refine blk_alloc ?_ _)); exact BK179.out⟩, ⟨by (with_reducible repeat (first | refine blk_drewN ?_ _ | refine blk_drew ?_ | refine blk_alloc ?_ _)); refine blk_far ?_ NB184_189.out _; (with_reducible repeat (first | refine blk_drewN ?_ _ | refine blk_drew ?_ | refine blk_alloc ?_ _)); refine blk_far ?_ NB184_189.out _; (with_reducible repeat (first | refine blk_drewN ?_ _ | refine blk_drew ?_ | refine blk_alloc ?_ _)); exact BK184.out⟩, ⟨by (with_reducible repeat (first | refine blk_drewN ?_ _ | refine blk_drew ?_ | refine blk_alloc ?_ _)); refine blk_put (cs := #[.bool t194, .slice Ao26 x190001_1.length co26]) ?_ 1 _ rfl; (with_reducible repeat (first | refine blk_drewN ?_ _ | refine blk_drew ?_ | refine blk_alloc ?_ _)); refine blk_put (cs := #[.bool x190000_1, .slice Ao26 x190001_1.length co26]) ?_ 0 _ rfl; (with_reducible repeat (first | refine blk_drewN ?_ _ | refine blk_drew ?_ | refine blk_alloc ?_ _)); exact BK189.out⟩, ⟨by repeat (first | (with_reducible first | exact HB.out | apply below_alloc | apply pw_below_drewN | apply below_drew1 | refine below_set ?_ GE179.out | refine below_set ?_ GE184.out | refine below_set ?_ GE189.out) | exact HB.out)⟩⟩
    ·rw [if_neg c17] at H
     have c17b0 : ((Int.tmod x0_1 2) == 1) = false := beq_eq_false_iff_ne.mpr c17
     have c17b1 : ((Int.tmod x0_1 2) != 1) = true := bne_iff_ne.mpr c17
     replace H := Option.bind_eq_some_iff.mp H
     obtain ⟨⟨t198, t199⟩, A340, H⟩ := H
     replace H : (worldmintref05_Power.l0 k1 (wrap64 (Int.tdiv x0_1 2)) x185000_1 x185001_1 t198 t199) = some (r1, r2) := H
     have A34 := am_ A340
     clear A340
     have H' := am_ H
     clear H
     have hnb35 := NB189_179.out
     have hnc35 := NB179_189.out
     have hnb36 := NB189_184.out
     have hnc36 := NB184_189.out
     have hcz37_0 : wr.cell? ⟨gb189, 0, none⟩ = some (.bool x190000_1) := (blk_cell BK189.out 0).trans rfl
     have hcz37_1 : wr.cell? ⟨gb189, 1, none⟩ = some (u190001) := (blk_cell BK189.out 1).trans rfl
     have hfz37_0 := blk_frozen BK189.out 0
     have hfz37_1 := blk_frozen BK189.out 1
     obtain ⟨Ao38, co38, eo38⟩ := Kd.V_slice HO_190001.out
     subst eo38
     go_wp2_with (first | ((with_reducible refine gate_callee (f := 28) rfl ?_); refine goesL_ (some 17) rfl rfl Tryz.func28 (by kernel_rfl) rfl #[.agg #[.bool x190000_1, .slice Ao38 x190001_1.length co38], .agg #[.bool x190000_1, .slice Ao38 x190001_1.length co38]] rfl zq6 ?_; (with_reducible refine (worldmintref05_Mul.calls k1 x190000_1 _ _ x190001_1 x190000_1 _ _ x190001_1 t198 t199 _ ?side1 ?side2 ?side3 ?side4 A34.out).mono ?_); (case side1 => exact (zq31 HO_190001.out)); (case side2 => exact (Kd.V_reads' HO_190001.out).2.1); (case side3 => exact (zq31 HO_190001.out)); (case side4 => exact (Kd.V_reads' HO_190001.out).2.1); rintro e w39 ⟨v200, rfl, ho0, hb⟩; refine ⟨_, rfl, ?_⟩; replace HO_185001 := am_ (Kd.V_below (zq1 HO_185001.out) hb); have HO201 := am_ (Kd.V_lower (Kd.V_mono (ok' := fun k_ => (w.heap.size ≤ k_) ∧ k_ ≠ gb179 ∧ k_ ≠ gb184 ∧ k_ ≠ gb189) ho0 (fun k_ hk_ => ⟨(Nat.le_trans (below_size zq32) hk_), (Kd.freshB (g := gb179) (o := .cells #[.bool false, .slice none 0 0] 25 (0, 0)) (zq9 BK179.out) k_ hk_), (Kd.freshB (g := gb184) (o := .cells #[.bool x185000_1, u185001] 25 (0, 0)) (zq9 BK184.out) k_ hk_), (Kd.freshB (g := gb189) (o := .cells #[.bool x190000_1, .slice Ao38 x190001_1.length co38] 25 (0, 0)) (zq9 BK189.out) k_ hk_)⟩)) (below_size zq32)); replace BK179 := am_ (blk_below (g := gb179) (o := .cells #[.bool false, .slice none 0 0] 25 (0, 0)) (zq9 BK179.out) hb); replace BK184 := am_ (blk_below (g := gb184) (o := .cells #[.bool x185000_1, u185001] 25 (0, 0)) (zq9 BK184.out) hb); replace BK189 := am_ (blk_below (g := gb189) (o := .cells #[.bool x190000_1, .slice Ao38 x190001_1.length co38] 25 (0, 0)) (zq9 BK189.out) hb); replace HB := am_ (below_step zq32 hb); (try clear hb); (try clear ho0); have hcz40_0 : w39.cell? ⟨gb189, 0, none⟩ = some (.bool x190000_1) := (blk_cell BK189.out 0).trans rfl; have hcz40_1 : w39.cell? ⟨gb189, 1, none⟩ = some (.slice Ao38 x190001_1.length co38) := (blk_cell BK189.out 1).trans rfl; have hfz40_0 := blk_frozen BK189.out 0; have hfz40_1 := blk_frozen BK189.out 1; obtain ⟨Ao41, co41, eo41⟩ := Kd.V_slice HO201.out; subst eo41))
     go_roundg k1
     case measure => have := HK1.out; omega
     case rel => exact ⟨(wrap64 (Int.tdiv x0_1 2)), (x185000_1), (x185001_1), (t198), (t199), (u185001), (.slice Ao41 t199.length co41), zq5, H', ⟨by have := HK1.out; omega⟩, ⟨by (with_reducible repeat (first | apply Kd.V_alloc | apply Kd.V_drewN | apply Kd.V_drew)); exact Kd.V_mono (Kd.V_far (p := ⟨gb189, 1, none⟩) (Kd.V_far (p := ⟨gb189, 0, none⟩) (Kd.V_mono HO_185001.out (fun k_ hk => (⟨hk, hk.2.2.2⟩ : _ ∧ k_ ≠ gb189))) (fun _ hk => hk.2) (.bool t198)) (fun _ hk => hk.2) (.slice Ao41 t199.length co41)) (fun _ hk => ⟨hk.1.1, ⟨hk.1.2.1, ⟨hk.1.2.2.1, hk.1.2.2.2⟩⟩⟩)⟩, ⟨by (with_reducible repeat (first | apply Kd.V_alloc | apply Kd.V_drewN | apply Kd.V_drew)); exact Kd.V_mono (Kd.V_far (p := ⟨gb189, 1, none⟩) (Kd.V_far (p := ⟨gb189, 0, none⟩) (Kd.V_mono HO201.out (fun k_ hk => (⟨hk, hk.2.2.2⟩ : _ ∧ k_ ≠ gb189))) (fun _ hk => hk.2) (.bool t198)) (fun _ hk => hk.2) (.slice Ao41 t199.length co41)) (fun _ hk => ⟨hk.1.1, ⟨hk.1.2.1, ⟨hk.1.2.2.1, hk.1.2.2.2⟩⟩⟩)⟩, ⟨by (with_reducible repeat (first | refine blk_drewN ?_ _ | refine blk_drew ?_ | refine blk_alloc ?_ _)); refine blk_far ?_ NB179_189.out _; (with_reducible repeat (first | refine blk_drewN ?_ _ | refine blk_drew ?_ | refine blk_alloc ?_ _)); refine blk_far ?_ NB179_189.out _; (with_reducible repeat (first | refine blk_drewN ?_ _ | refine blk_drew ?_ | refine blk_alloc ?_ _)); exact BK179.out⟩, ⟨by (with_reducible repeat (first | refine blk_drewN ?_ _ | refine blk_drew ?_ | refine blk_alloc ?_ _)); refine blk_far ?_ NB184_189.out _; (with_reducible repeat (first | refine blk_drewN ?_ _ | refine blk_drew ?_ | refine blk_alloc ?_ _)); refine blk_far ?_ NB184_189.out _; (with_reducible repeat (first | refine blk_drewN ?_ _ | refine blk_drew ?_ | refine blk_alloc ?_ _)); exact BK184.out⟩, ⟨by (with_reducible repeat (first | refine blk_drewN ?_ _ | refine blk_drew ?_ | refine blk_alloc ?_ _)); refine blk_put (cs := #[.bool t198, .slice Ao38 x190001_1.length co38]) ?_ 1 _ rfl; (with_reducible repeat (first | refine blk_drewN ?_ _ | refine blk_drew ?_ | refine blk_alloc ?_ _)); refine blk_put (cs := #[.bool x190000_1, .slice Ao38 x190001_1.length co38]) ?_ 0 _ rfl; (with_reducible repeat (first | refine blk_drewN ?_ _ | refine blk_drew ?_ | refine blk_alloc ?_ _)); exact BK189.out⟩, ⟨by repeat (first | (with_reducible first | exact HB.out | apply below_alloc | apply pw_below_drewN | apply below_drew1 | refine below_set ?_ GE179.out | refine below_set ?_ GE184.out | refine below_set ?_ GE189.out) | exact HB.out)⟩⟩
   ·rw [if_neg c16] at H
    have c16b0 : decide (0 < x0_1) = false := decide_eq_false c16
    clear c16
    simp only [Option.some.injEq, Prod.mk.injEq] at H
    obtain ⟨rfl, rfl⟩ := H
    have hnb42 := NB184_179.out
    have hnc42 := NB179_184.out
    have hnb43 := NB184_189.out
    have hnc43 := NB189_184.out
    have hcz44_0 : wr.cell? ⟨gb184, 0, none⟩ = some (.bool x185000_1) := (blk_cell BK184.out 0).trans rfl
    have hcz44_1 : wr.cell? ⟨gb184, 1, none⟩ = some (u185001) := (blk_cell BK184.out 1).trans rfl
    have hfz44_0 := blk_frozen BK184.out 0
    have hfz44_1 := blk_frozen BK184.out 1
    have hnb45 := NB179_189.out
    have hnc45 := NB189_179.out
    have hcz46_0 : wr.cell? ⟨gb179, 0, none⟩ = some (.bool false) := (blk_cell BK179.out 0).trans rfl
    have hcz46_1 : wr.cell? ⟨gb179, 1, none⟩ = some (.slice none 0 0) := (blk_cell BK179.out 1).trans rfl
    have hfz46_0 := blk_frozen BK179.out 0
    have hfz46_1 := blk_frozen BK179.out 1
    obtain ⟨Ao47, co47, eo47⟩ := Kd.V_slice HO_185001.out
    subst eo47
    go_wp2
    refine bodyPost_ret (results_cell_row rfl _ _ gb179 25 #[.bool x185000_1, .slice Ao47 x185001_1.length co47] (0, 0) _ rfl (by (with_reducible repeat (first | refine blk_drewN ?_ _ | refine blk_drew ?_ | refine blk_alloc ?_ _)); refine blk_put (cs := #[.bool x185000_1, .slice none 0 0]) ?_ 1 _ rfl; (with_reducible repeat (first | refine blk_drewN ?_ _ | refine blk_drew ?_ | refine blk_alloc ?_ _)); refine blk_put (cs := #[.bool false, .slice none 0 0]) ?_ 0 _ rfl; (with_reducible repeat (first | refine blk_drewN ?_ _ | refine blk_drew ?_ | refine blk_alloc ?_ _)); exact BK179.out) Tryz.underlying25 rfl (by kernel_rfl)) rfl ?_
    exact ⟨_, by first | rfl | (simp [errW_none, errW_some] <;> rfl) | (simp [*, errW_none, errW_some] <;> rfl), by (with_reducible repeat (first | apply Kd.V_alloc | apply Kd.V_drewN | apply Kd.V_drew)); exact Kd.V_mono (Kd.V_far (p := ⟨gb179, 1, none⟩) (Kd.V_far (p := ⟨gb179, 0, none⟩) (Kd.V_mono HO_185001.out (fun k_ hk => (⟨hk, hk.2.1⟩ : _ ∧ k_ ≠ gb179))) (fun _ hk => hk.2) (.bool x185000_1)) (fun _ hk => hk.2) (.slice Ao47 x185001_1.length co47)) (fun _ hk => hk.1.1), by repeat (first | (with_reducible first | exact HB.out | apply below_alloc | apply pw_below_drewN | apply below_drew1 | refine below_set ?_ GE179.out | refine below_set ?_ GE184.out | refine below_set ?_ GE189.out) | exact HB.out)⟩

end Go.Proofs.YtlceokefdihdkaaGreatDoor.X
