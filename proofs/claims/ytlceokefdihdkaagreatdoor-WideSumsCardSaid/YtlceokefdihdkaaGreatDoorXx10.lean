-- Written by a program of this session (xprint) out of the translation: Lean checks it.
import Derived.Test.YtlceokefdihdkaaGreatDoorXx0
import Derived.Test.YtlceokefdihdkaaGreatDoorXx1
import Derived.Test.YtlceokefdihdkaaGreatDoorXx3
namespace Go.Proofs.YtlceokefdihdkaaGreatDoor.X
open Go.RowKit Go.Proofs.YtlceokefdihdkaaGreatDoorW.PrintWords Go.Proofs.YtlceokefdihdkaaGreatDoorW.PrintLast Go.Proofs.YtlceokefdihdkaaGreatDoorW.PrintMore
attribute [local go_sem] max2_int min2_int max_two min_two max_three min_three max_four min_four   -- for this text's walks alone
set_option linter.unusedVariables false
set_option linter.unusedSimpArgs false

/-! ### worldmintref05_Neg: function 36 -/
def worldmintref05_Neg.f (k : Nat) (a0_0 : Bool) (l0_1 : List Int) : Option (Bool × List Int) := (worldmintref05_normal.f k (!a0_0) l0_1).bind fun bt489 => (some (bt489.1, bt489.2))
theorem worldmintref05_Neg.mono : ∀ a0 a1 k, LeO (worldmintref05_Neg.f k a0 a1) (worldmintref05_Neg.f (k + 1) a0 a1) := by
 intro a0 a1 k
 unfold worldmintref05_Neg.f
 repeat' first
   | (with_reducible exact worldmintref05_normal.mono _ _ _)
   | (with_reducible exact LeO.refl _)
   | (with_reducible exact LeO.none _)
   | (with_reducible refine LeO.ite ?_ ?_)
   | (with_reducible refine LeO.bind ?_ (fun _ => ?_))
   | exact worldmintref05_normal.mono _ _ _
   | exact LeO.none _
   | refine LeO.ite ?_ ?_
   | refine LeO.bind ?_ (fun _ => ?_)
set_option maxHeartbeats 8000000 in
set_option maxRecDepth 100000 in
theorem worldmintref05_Neg.calls (k : Nat) (a0_0 : Bool) (P0_1_ : Nat → Prop) (A0_1 : Option Addr) (c0_1 : Nat) (l0_1 : List Int) (r1 : Bool) (r2 : List Int) (w : World) (hs0_1 : Kd.V (Kd.int .i64) 3 w w.heap.size (fun k_ => P0_1_ k_) (.slice A0_1 l0_1.length c0_1) l0_1) (h : worldmintref05_Neg.f k a0_0 l0_1 = some (r1, r2)) :
  Calls Tryz.prog 36 #[.agg #[.bool a0_0, .slice A0_1 l0_1.length c0_1]] w fun e w' => ∃ v1_ : Value, e = .returned (.agg #[.bool r1, v1_]) ∧ Kd.V (Kd.int .i64) 3 w' w.heap.size (fun k_ => (P0_1_ k_ ∨ w.heap.size ≤ k_)) v1_ r2 ∧ Below w.heap.size w w' := by
 have hu25 := Tryz.underlying25
 have HO0_1 := am_ (show Kd.V (Kd.int .i64) 3 w w.heap.size (fun k_ => (P0_1_ k_ ∨ w.heap.size ≤ k_)) (.slice A0_1 l0_1.length c0_1) l0_1 from Kd.V_mono hs0_1 (fun k_ hk => .inl hk))
 have HB := am_ (Below.refl w.heap.size w)
 have H : ((worldmintref05_normal.f k (!a0_0) l0_1).bind fun bt489 => (some (bt489.1, bt489.2))) = some (r1, r2) := h
 clear h
 replace H := Option.bind_eq_some_iff.mp H
 obtain ⟨⟨t489, t490⟩, A20, H⟩ := H
 replace H : (some (t489, t490)) = some (r1, r2) := H
 have A2 := am_ A20
 clear A20
 simp only [Option.some.injEq, Prod.mk.injEq] at H
 obtain ⟨rfl, rfl⟩ := H
 go_enter Tryz.func36, Tryz.ntmps36
 go_wp2_with (first | ((with_reducible refine gate_dst (N := 1) rfl ?_); refine box_event ?hg (N := 1) ?hd (cs := #[.bool a0_0, .slice A0_1 l0_1.length c0_1]) (t := 25) ?hr ?_; (case hd => rfl); (case hg => rfl); (case hr => exact zq0); intro gb487 hg w3 hbox hb; have n0_ := am_ (Kd.V_below (Kd.V_elderB (zq1 HO0_1.out) gb487 (Nat.le_of_eq hg.symm)) hb); have n1_ := am_ (below_step zq2 hb); have n2_ := am_ (hbox); have n3_ := am_ ((by rw [hg]; exact (below_size zq2) : w.heap.size ≤ gb487)); clear HO0_1 HB; have HO0_1 := n0_; have HB := n1_; have BK487 := n2_; have GE487 := n3_; clear n0_ n1_ n2_ n3_; clear hb hbox hg) | ((with_reducible refine gate_dst (N := 2) rfl ?_); refine box_event ?hg (N := 2) ?hd (cs := #[.bool false, .slice none 0 0]) (t := 25) ?hr ?_; (case hd => rfl); (case hg => rfl); (case hr => exact zq0); intro gb488 hg w4 hbox hb; have n0_ := am_ (Kd.V_below (Kd.V_elderB (zq1 HO0_1.out) gb488 (Nat.le_of_eq hg.symm)) hb); have n1_ := am_ (blk_below (g := gb487) (o := .cells #[.bool a0_0, .slice A0_1 l0_1.length c0_1] 25 (0, 0)) (zq9 BK487.out) hb); have n2_ := am_ (below_step zq91 hb); have n3_ := am_ (hbox); have n4_ := am_ ((by rw [hg]; exact (below_size zq91) : w.heap.size ≤ gb488)); have n5_ := am_ ((by rw [hg]; exact Nat.ne_of_lt (blk_lt (g := gb487) (zq9 BK487.out)) : gb487 ≠ gb488)); have n6_ := am_ ((by rw [hg]; exact Nat.ne_of_gt (blk_lt (g := gb487) (zq9 BK487.out)) : gb488 ≠ gb487)); clear HO0_1 BK487 HB; have HO0_1 := n0_; have BK487 := n1_; have HB := n2_; have BK488 := n3_; have GE488 := n4_; have NB487_488 := n5_; have NB488_487 := n6_; clear n0_ n1_ n2_ n3_ n4_ n5_ n6_; clear hb hbox hg; have hnb5 := NB487_488.out; have hnc5 := NB488_487.out; have hcz6_0 : w4.cell? ⟨gb487, 0, none⟩ = some (.bool a0_0) := (blk_cell BK487.out 0).trans rfl; have hcz6_1 : w4.cell? ⟨gb487, 1, none⟩ = some (.slice A0_1 l0_1.length c0_1) := (blk_cell BK487.out 1).trans rfl; have hfz6_0 := blk_frozen BK487.out 0; have hfz6_1 := blk_frozen BK487.out 1) | ((with_reducible refine gate_callee (f := 54) rfl ?_); refine goesL_ (some 8) rfl rfl Tryz.func54 (by kernel_rfl) rfl #[.bool (!a0_0), .slice A0_1 l0_1.length c0_1] rfl zq6 ?_; (with_reducible refine (worldmintref05_normal.calls k (!a0_0) (fun k_ => (((P0_1_ k_ ∨ w.heap.size ≤ k_) ∧ k_ ≠ gb487) ∧ k_ ≠ gb488)) _ _ l0_1 t489 t490 _ ?side1 A2.out).mono ?_); (case side1 => exact HO0_1.out); rintro e w7 ⟨v491, rfl, ho0, hb⟩; refine ⟨_, rfl, ?_⟩; have HO492 := am_ (Kd.V_lower (Kd.V_mono (ok' := fun k_ => (P0_1_ k_ ∨ w.heap.size ≤ k_) ∧ k_ ≠ gb487 ∧ k_ ≠ gb488) ho0 (fun k_ hk_ => ⟨Or.elim hk_ (fun hs_ => hs_.1.1) (fun hn_ => (.inr (Nat.le_trans (below_size zq92) hn_))), Or.elim hk_ (fun hs_ => hs_.1.2) (fun hn_ => (Kd.freshB (g := gb487) (o := .cells #[.bool a0_0, .slice A0_1 l0_1.length c0_1] 25 (0, 0)) (zq9 BK487.out) k_ hn_)), Or.elim hk_ (fun hs_ => hs_.2) (fun hn_ => (Kd.freshB (g := gb488) (o := .cells #[.bool false, .slice none 0 0] 25 (0, 0)) (zq9 BK488.out) k_ hn_))⟩)) (below_size zq92)); replace BK487 := am_ (blk_below (g := gb487) (o := .cells #[.bool a0_0, .slice A0_1 l0_1.length c0_1] 25 (0, 0)) (zq9 BK487.out) hb); replace BK488 := am_ (blk_below (g := gb488) (o := .cells #[.bool false, .slice none 0 0] 25 (0, 0)) (zq9 BK488.out) hb); replace HB := am_ (below_step zq92 hb); (try clear hb); (try clear ho0); have hcz8_0 : w7.cell? ⟨gb488, 0, none⟩ = some (.bool false) := (blk_cell BK488.out 0).trans rfl; have hcz8_1 : w7.cell? ⟨gb488, 1, none⟩ = some (.slice none 0 0) := (blk_cell BK488.out 1).trans rfl; have hfz8_0 := blk_frozen BK488.out 0; have hfz8_1 := blk_frozen BK488.out 1; obtain ⟨Ao9, co9, eo9⟩ := Kd.V_slice HO492.out; subst eo9))
 refine bodyPost_ret (results_cell_row rfl _ _ gb488 25 #[.bool t489, .slice Ao9 t490.length co9] (0, 0) _ rfl (by (with_reducible repeat (first | refine blk_drewN ?_ _ | refine blk_drew ?_ | refine blk_alloc ?_ _)); refine blk_put (cs := #[.bool t489, .slice none 0 0]) ?_ 1 _ rfl; (with_reducible repeat (first | refine blk_drewN ?_ _ | refine blk_drew ?_ | refine blk_alloc ?_ _)); refine blk_put (cs := #[.bool false, .slice none 0 0]) ?_ 0 _ rfl; (with_reducible repeat (first | refine blk_drewN ?_ _ | refine blk_drew ?_ | refine blk_alloc ?_ _)); exact BK488.out) Tryz.underlying25 rfl (by kernel_rfl)) rfl ?_
 exact ⟨_, by first | rfl | (simp [errW_none, errW_some] <;> rfl) | (simp [*, errW_none, errW_some] <;> rfl), by (with_reducible repeat (first | apply Kd.V_alloc | apply Kd.V_drewN | apply Kd.V_drew)); exact Kd.V_mono (Kd.V_far (p := ⟨gb488, 1, none⟩) (Kd.V_far (p := ⟨gb488, 0, none⟩) (Kd.V_mono HO492.out (fun k_ hk => (⟨hk, hk.2.2⟩ : _ ∧ k_ ≠ gb488))) (fun _ hk => hk.2) (.bool t489)) (fun _ hk => hk.2) (.slice Ao9 t490.length co9)) (fun _ hk => hk.1.1), by repeat (first | (with_reducible first | exact HB.out | apply below_alloc | apply pw_below_drewN | apply below_drew1 | refine below_set ?_ GE487.out | refine below_set ?_ GE488.out) | exact HB.out)⟩

/-! ### worldmintref05_Sub: function 34 -/
def worldmintref05_Sub.f (k : Nat) (a0_0 : Bool) (l0_1 : List Int) (a1_0 : Bool) (l1_1 : List Int) : Option (Bool × List Int) := (worldmintref05_Neg.f k a1_0 l1_1).bind fun bt496 => ((worldmintref05_Add.f k a0_0 l0_1 bt496.1 bt496.2).bind fun bt500 => (some (bt500.1, bt500.2)))
theorem worldmintref05_Sub.mono : ∀ a0 a1 a2 a3 k, LeO (worldmintref05_Sub.f k a0 a1 a2 a3) (worldmintref05_Sub.f (k + 1) a0 a1 a2 a3) := by
 intro a0 a1 a2 a3 k
 unfold worldmintref05_Sub.f
 repeat' first
   | (with_reducible exact worldmintref05_Add.mono _ _ _ _ _)
   | (with_reducible exact worldmintref05_Neg.mono _ _ _)
   | (with_reducible exact LeO.refl _)
   | (with_reducible exact LeO.none _)
   | (with_reducible refine LeO.ite ?_ ?_)
   | (with_reducible refine LeO.bind ?_ (fun _ => ?_))
   | exact worldmintref05_Add.mono _ _ _ _ _
   | exact worldmintref05_Neg.mono _ _ _
   | exact LeO.none _
   | refine LeO.ite ?_ ?_
   | refine LeO.bind ?_ (fun _ => ?_)
set_option maxHeartbeats 8000000 in
set_option maxRecDepth 100000 in
theorem worldmintref05_Sub.calls (k : Nat) (a0_0 : Bool) (A0_1 : Option Addr) (c0_1 : Nat) (l0_1 : List Int) (a1_0 : Bool) (P1_1_ : Nat → Prop) (A1_1 : Option Addr) (c1_1 : Nat) (l1_1 : List Int) (r1 : Bool) (r2 : List Int) (w : World) (hr0_1 : Kd.C (Kd.int .i64) w A0_1 l0_1.length l0_1) (hc0_1 : l0_1.length ≤ c0_1) (hs1_1 : Kd.V (Kd.int .i64) 3 w w.heap.size (fun k_ => P1_1_ k_) (.slice A1_1 l1_1.length c1_1) l1_1) (h : worldmintref05_Sub.f k a0_0 l0_1 a1_0 l1_1 = some (r1, r2)) :
  Calls Tryz.prog 34 #[.agg #[.bool a0_0, .slice A0_1 l0_1.length c0_1], .agg #[.bool a1_0, .slice A1_1 l1_1.length c1_1]] w fun e w' => ∃ v1_ : Value, e = .returned (.agg #[.bool r1, v1_]) ∧ Kd.V (Kd.int .i64) 3 w' w.heap.size (fun k_ => (P1_1_ k_ ∨ w.heap.size ≤ k_)) v1_ r2 ∧ Below w.heap.size w w' := by
 have hu25 := Tryz.underlying25
 have HR0_1 := am_ hr0_1
 have HC0_1 := am_ hc0_1
 clear hr0_1 hc0_1
 have HO1_1 := am_ (show Kd.V (Kd.int .i64) 3 w w.heap.size (fun k_ => (P1_1_ k_ ∨ w.heap.size ≤ k_)) (.slice A1_1 l1_1.length c1_1) l1_1 from Kd.V_mono hs1_1 (fun k_ hk => .inl hk))
 have HB := am_ (Below.refl w.heap.size w)
 have H : ((worldmintref05_Neg.f k a1_0 l1_1).bind fun bt496 => ((worldmintref05_Add.f k a0_0 l0_1 bt496.1 bt496.2).bind fun bt500 => (some (bt500.1, bt500.2)))) = some (r1, r2) := h
 clear h
 replace H := Option.bind_eq_some_iff.mp H
 obtain ⟨⟨t496, t497⟩, A30, H⟩ := H
 replace H : ((worldmintref05_Add.f k a0_0 l0_1 t496 t497).bind fun bt500 => (some (bt500.1, bt500.2))) = some (r1, r2) := H
 have A3 := am_ A30
 clear A30
 replace H := Option.bind_eq_some_iff.mp H
 obtain ⟨⟨t500, t501⟩, A40, H⟩ := H
 replace H : (some (t500, t501)) = some (r1, r2) := H
 have A4 := am_ A40
 clear A40
 simp only [Option.some.injEq, Prod.mk.injEq] at H
 obtain ⟨rfl, rfl⟩ := H
 go_enter Tryz.func34, Tryz.ntmps34
 try go_wp2_with (first | ((with_reducible refine gate_dst (N := 2) rfl ?_); refine box_event ?hg (N := 2) ?hd (cs := #[.bool a0_0, .slice A0_1 l0_1.length c0_1]) (t := 25) ?hr ?_; (case hd => rfl); (case hg => rfl); (case hr => exact zq0); intro gb493 hg w5 hbox hb; have n0_ := am_ (Kd.V_below (Kd.V_elderB (zq1 HO1_1.out) gb493 (Nat.le_of_eq hg.symm)) hb); have n1_ := am_ (below_step zq2 hb); have n2_ := am_ (hbox); have n3_ := am_ ((by rw [hg]; exact (below_size zq2) : w.heap.size ≤ gb493)); clear HO1_1 HB; have HO1_1 := n0_; have HB := n1_; have BK493 := n2_; have GE493 := n3_; clear n0_ n1_ n2_ n3_; clear hb hbox hg) | ((with_reducible refine gate_dst (N := 3) rfl ?_); refine box_event ?hg (N := 3) ?hd (cs := #[.bool a1_0, .slice A1_1 l1_1.length c1_1]) (t := 25) ?hr ?_; (case hd => rfl); (case hg => rfl); (case hr => exact zq0); intro gb494 hg w6 hbox hb; have n0_ := am_ (Kd.V_below (Kd.V_elderB (zq1 HO1_1.out) gb494 (Nat.le_of_eq hg.symm)) hb); have n1_ := am_ (blk_below (g := gb493) (o := .cells #[.bool a0_0, .slice A0_1 l0_1.length c0_1] 25 (0, 0)) (zq9 BK493.out) hb); have n2_ := am_ (below_step zq93 hb); have n3_ := am_ (hbox); have n4_ := am_ ((by rw [hg]; exact (below_size zq93) : w.heap.size ≤ gb494)); clear HO1_1 BK493 HB; have HO1_1 := n0_; have BK493 := n1_; have HB := n2_; have BK494 := n3_; have GE494 := n4_; clear n0_ n1_ n2_ n3_ n4_; clear hb hbox hg) | ((with_reducible refine gate_dst (N := 4) rfl ?_); refine box_event ?hg (N := 4) ?hd (cs := #[.bool false, .slice none 0 0]) (t := 25) ?hr ?_; (case hd => rfl); (case hg => rfl); (case hr => exact zq0); intro gb495 hg w7 hbox hb; have n0_ := am_ (Kd.V_below (Kd.V_elderB (zq1 HO1_1.out) gb495 (Nat.le_of_eq hg.symm)) hb); have n1_ := am_ (blk_below (g := gb493) (o := .cells #[.bool a0_0, .slice A0_1 l0_1.length c0_1] 25 (0, 0)) (zq9 BK493.out) hb); have n2_ := am_ (blk_below (g := gb494) (o := .cells #[.bool a1_0, .slice A1_1 l1_1.length c1_1] 25 (0, 0)) (zq9 BK494.out) hb); have n3_ := am_ (below_step zq94 hb); have n4_ := am_ (hbox); have n5_ := am_ ((by rw [hg]; exact (below_size zq94) : w.heap.size ≤ gb495)); have n6_ := am_ ((by rw [hg]; exact Nat.ne_of_lt (blk_lt (g := gb493) (zq9 BK493.out)) : gb493 ≠ gb495)); have n7_ := am_ ((by rw [hg]; exact Nat.ne_of_gt (blk_lt (g := gb493) (zq9 BK493.out)) : gb495 ≠ gb493)); have n8_ := am_ ((by rw [hg]; exact Nat.ne_of_lt (blk_lt (g := gb494) (zq9 BK494.out)) : gb494 ≠ gb495)); have n9_ := am_ ((by rw [hg]; exact Nat.ne_of_gt (blk_lt (g := gb494) (zq9 BK494.out)) : gb495 ≠ gb494)); clear HO1_1 BK493 BK494 HB; have HO1_1 := n0_; have BK493 := n1_; have BK494 := n2_; have HB := n3_; have BK495 := n4_; have GE495 := n5_; have NB493_495 := n6_; have NB495_493 := n7_; have NB494_495 := n8_; have NB495_494 := n9_; clear n0_ n1_ n2_ n3_ n4_ n5_ n6_ n7_ n8_ n9_; clear hb hbox hg))
 replace HO1_1 := am_ (Kd.V_drew HO1_1.out); replace BK493 := am_ (blk_drew BK493.out); replace BK494 := am_ (blk_drew BK494.out); replace BK495 := am_ (blk_drew BK495.out); replace HB := am_ (below_drew1 HB.out)
 refine start_ (n := 5) (S := fun w' => w'.cell? ⟨gb493, 0, none⟩ = some (.bool a0_0) ∧ w'.cell? ⟨gb493, 1, none⟩ = some (.slice A0_1 l0_1.length c0_1) ∧ w'.cell? ⟨gb494, 0, none⟩ = some (.bool a1_0) ∧ w'.cell? ⟨gb494, 1, none⟩ = some (.slice A1_1 l1_1.length c1_1)) (ds := []) #[false, false, false, false, false] (by kernel_rfl) rfl rfl ⟨(blk_cell BK493.out 0).trans rfl, (blk_cell BK493.out 1).trans rfl, (blk_cell BK494.out 0).trans rfl, (blk_cell BK494.out 1).trans rfl⟩ (fun hHeld => ?_)
 generalize w7.drew = w8 at HO1_1 BK493 BK494 BK495 HB hHeld ⊢
 refine take_ (i := 0) (N := some 5) (v := ?_) (a' := ?_) #[true, false, false, false, false] rfl rfl (by kernel_rfl) (fun _ _ _ h => h) (Or.inl ⟨by rfl, ?_⟩) hHeld ?_ ?_
 rotate_left
 ·rintro w' ⟨s0, s1, s2, s3⟩
  go_simp
  with_reducible rfl
 rotate_left
 ·exact za_
 refine take_ (i := 1) (N := some 6) (v := ?_) (a' := ?_) #[true, true, false, false, false] rfl rfl (by kernel_rfl) (fun _ _ _ h => h) (Or.inl ⟨by rfl, ?_⟩) hHeld ?_ ?_
 rotate_left
 ·rintro w' ⟨s0, s1, s2, s3⟩
  go_simp
  with_reducible rfl
 rotate_left
 ·exact za_
 refine one_ (i := 2) (N := some 7) #[true, true, true, false, false] rfl rfl (by kernel_rfl) (by decide) (fun K hK => ?_)
 refine goes_ Tryz.func36 (by kernel_rfl) rfl #[.agg #[.bool a1_0, .slice A1_1 l1_1.length c1_1]] (by rfl) rfl rfl zq6 ?_
 with_reducible refine (worldmintref05_Neg.calls k a1_0 (fun k_ => ((((P1_1_ k_ ∨ w.heap.size ≤ k_) ∧ k_ ≠ gb493) ∧ k_ ≠ gb494) ∧ k_ ≠ gb495)) _ _ l1_1 t496 t497 _ ?side1 A3.out).mono ?_
 (case side1 => exact HO1_1.out)
 rintro e w9 ⟨v498, rfl, ho0, hb⟩
 refine ⟨_, rfl, ?_⟩
 have HO499 := am_ (Kd.V_lower (Kd.V_mono (ok' := fun k_ => (P1_1_ k_ ∨ w.heap.size ≤ k_) ∧ k_ ≠ gb493 ∧ k_ ≠ gb494 ∧ k_ ≠ gb495) ho0 (fun k_ hk_ => ⟨Or.elim hk_ (fun hs_ => hs_.1.1.1) (fun hn_ => (.inr (Nat.le_trans (below_size zq95) hn_))), Or.elim hk_ (fun hs_ => hs_.1.1.2) (fun hn_ => (Kd.freshB (g := gb493) (o := .cells #[.bool a0_0, .slice A0_1 l0_1.length c0_1] 25 (0, 0)) (zq9 BK493.out) k_ hn_)), Or.elim hk_ (fun hs_ => hs_.1.2) (fun hn_ => (Kd.freshB (g := gb494) (o := .cells #[.bool a1_0, .slice A1_1 l1_1.length c1_1] 25 (0, 0)) (zq9 BK494.out) k_ hn_)), Or.elim hk_ (fun hs_ => hs_.2) (fun hn_ => (Kd.freshB (g := gb495) (o := .cells #[.bool false, .slice none 0 0] 25 (0, 0)) (zq9 BK495.out) k_ hn_))⟩)) (below_size zq95)); replace BK493 := am_ (blk_below (g := gb493) (o := .cells #[.bool a0_0, .slice A0_1 l0_1.length c0_1] 25 (0, 0)) (zq9 BK493.out) hb); replace BK494 := am_ (blk_below (g := gb494) (o := .cells #[.bool a1_0, .slice A1_1 l1_1.length c1_1] 25 (0, 0)) (zq9 BK494.out) hb); replace BK495 := am_ (blk_below (g := gb495) (o := .cells #[.bool false, .slice none 0 0] 25 (0, 0)) (zq9 BK495.out) hb); replace HB := am_ (below_step zq95 hb); (try clear hb); (try clear ho0)
 obtain ⟨Ao10, co10, eo10⟩ := Kd.V_slice HO499.out
 (first | subst eo10 | (injection eo10 with f1_ f2_ f3_; have f4_ := f1_.symm; have f5_ := f3_.symm; clear f1_ f2_ f3_; subst f4_; subst f5_))
 refine hK.out _ _ ⟨(blk_cell BK493.out 0).trans rfl, (blk_cell BK493.out 1).trans rfl, (blk_cell BK494.out 0).trans rfl, (blk_cell BK494.out 1).trans rfl⟩ (fun hHeld => ?_)
 clear hK K
 refine norm_ (a' := ?_) ?_ ?_
 rotate_left
 ·show Act.put _ (some 7) _ = _
  exact za_
 refine one_ (i := 3) (N := some 8) #[true, true, true, true, false] rfl rfl (by kernel_rfl) (by decide) (fun K hK => ?_)
 refine goes_ Tryz.func29 (by kernel_rfl) rfl #[.agg #[.bool a0_0, .slice A0_1 l0_1.length c0_1], .agg #[.bool t496, .slice Ao10 t497.length co10]] (by rfl) rfl rfl zq6 ?_
 with_reducible refine (worldmintref05_Add.calls k a0_0 _ _ l0_1 t496 _ _ t497 t500 t501 _ ?side1 ?side2 ?side3 ?side4 A4.out).mono ?_
 (case side1 => exact zq24)
 (case side2 => exact HC0_1.out)
 (case side3 => exact (zq31 HO499.out))
 (case side4 => exact (Kd.V_reads' HO499.out).2.1)
 rintro e w11 ⟨v502, rfl, ho0, hb⟩
 refine ⟨_, rfl, ?_⟩
 have HO503 := am_ (Kd.V_lower (Kd.V_mono (ok' := fun k_ => (P1_1_ k_ ∨ w.heap.size ≤ k_) ∧ k_ ≠ gb493 ∧ k_ ≠ gb494 ∧ k_ ≠ gb495) ho0 (fun k_ hk_ => ⟨(.inr (Nat.le_trans (below_size zq95) hk_)), (Kd.freshB (g := gb493) (o := .cells #[.bool a0_0, .slice A0_1 l0_1.length c0_1] 25 (0, 0)) (zq9 BK493.out) k_ hk_), (Kd.freshB (g := gb494) (o := .cells #[.bool a1_0, .slice A1_1 l1_1.length c1_1] 25 (0, 0)) (zq9 BK494.out) k_ hk_), (Kd.freshB (g := gb495) (o := .cells #[.bool false, .slice none 0 0] 25 (0, 0)) (zq9 BK495.out) k_ hk_)⟩)) (below_size zq95)); replace BK493 := am_ (blk_below (g := gb493) (o := .cells #[.bool a0_0, .slice A0_1 l0_1.length c0_1] 25 (0, 0)) (zq9 BK493.out) hb); replace BK494 := am_ (blk_below (g := gb494) (o := .cells #[.bool a1_0, .slice A1_1 l1_1.length c1_1] 25 (0, 0)) (zq9 BK494.out) hb); replace BK495 := am_ (blk_below (g := gb495) (o := .cells #[.bool false, .slice none 0 0] 25 (0, 0)) (zq9 BK495.out) hb); replace HB := am_ (below_step zq95 hb); (try clear hb); (try clear ho0)
 obtain ⟨Ao13, co13, eo13⟩ := Kd.V_slice HO503.out
 (first | subst eo13 | (injection eo13 with f1_ f2_ f3_; have f4_ := f1_.symm; have f5_ := f3_.symm; clear f1_ f2_ f3_; subst f4_; subst f5_))
 refine hK.out _ _ ⟨(blk_cell BK493.out 0).trans rfl, (blk_cell BK493.out 1).trans rfl, (blk_cell BK494.out 0).trans rfl, (blk_cell BK494.out 1).trans rfl⟩ (fun hHeld => ?_)
 clear hK K
 refine norm_ (a' := ?_) ?_ ?_
 rotate_left
 ·show Act.put _ (some 8) _ = _
  exact za_
 refine one_ (i := 4) (N := none) #[true, true, true, true, true] rfl rfl (by kernel_rfl) (by decide) (fun K hK => ?_)
 have hs12 : w11.cell? ⟨gb495, 0, none⟩ = some (.bool false) := (blk_cell BK495.out 0).trans rfl
 have hfs12 := blk_frozen BK495.out 0
 have hns12_0 := NB493_495.out
 have hns12_1 := NB494_495.out
 have hms12_0 := NB495_493.out
 have hms12_1 := NB495_494.out
 have hs14 : w11.cell? ⟨gb495, 1, none⟩ = some (.slice none 0 0) := (blk_cell BK495.out 1).trans rfl
 have hfs14 := blk_frozen BK495.out 1
 have hns14_0 := NB493_495.out
 have hns14_1 := NB494_495.out
 have hms14_0 := NB495_493.out
 have hms14_1 := NB495_494.out
 refine skip_ (w1 := ?_) (by rfl) rfl ?_ ?_
 rotate_left
 ·go_simp
  rfl
 refine hK.out _ _ ⟨((cell_far (p := ⟨gb495, _, none⟩) NB493_495.out _).trans (((cell_far (p := ⟨gb495, _, none⟩) NB493_495.out _).trans (hHeld.1)))), ((cell_far (p := ⟨gb495, _, none⟩) NB493_495.out _).trans (((cell_far (p := ⟨gb495, _, none⟩) NB493_495.out _).trans (hHeld.2.1)))), ((cell_far (p := ⟨gb495, _, none⟩) NB494_495.out _).trans (((cell_far (p := ⟨gb495, _, none⟩) NB494_495.out _).trans (hHeld.2.2.1)))), ((cell_far (p := ⟨gb495, _, none⟩) NB494_495.out _).trans (((cell_far (p := ⟨gb495, _, none⟩) NB494_495.out _).trans (hHeld.2.2.2))))⟩ (fun hHeld => ?_)
 clear hK K
 refine done_ (by kernel_rfl) ?_
 try go_wp2
 refine bodyPost_ret (results_cell_row rfl _ _ gb495 25 #[.bool t500, .slice Ao13 t501.length co13] (0, 0) _ rfl (by (with_reducible repeat (first | refine blk_drewN ?_ _ | refine blk_drew ?_ | refine blk_alloc ?_ _)); refine blk_put (cs := #[.bool t500, .slice none 0 0]) ?_ 1 _ rfl; (with_reducible repeat (first | refine blk_drewN ?_ _ | refine blk_drew ?_ | refine blk_alloc ?_ _)); refine blk_put (cs := #[.bool false, .slice none 0 0]) ?_ 0 _ rfl; (with_reducible repeat (first | refine blk_drewN ?_ _ | refine blk_drew ?_ | refine blk_alloc ?_ _)); exact BK495.out) Tryz.underlying25 rfl (by kernel_rfl)) rfl ?_
 exact ⟨_, by first | rfl | (simp [errW_none, errW_some] <;> rfl) | (simp [*, errW_none, errW_some] <;> rfl), by (with_reducible repeat (first | apply Kd.V_alloc | apply Kd.V_drewN | apply Kd.V_drew)); exact Kd.V_mono (Kd.V_far (p := ⟨gb495, 1, none⟩) (Kd.V_far (p := ⟨gb495, 0, none⟩) (Kd.V_mono HO503.out (fun k_ hk => (⟨hk, hk.2.2.2⟩ : _ ∧ k_ ≠ gb495))) (fun _ hk => hk.2) (.bool t500)) (fun _ hk => hk.2) (.slice Ao13 t501.length co13)) (fun _ hk => hk.1.1), by repeat (first | (with_reducible first | exact HB.out | apply below_alloc | apply pw_below_drewN | apply below_drew1 | refine below_set ?_ GE493.out | refine below_set ?_ GE494.out | refine below_set ?_ GE495.out) | exact HB.out)⟩

end Go.Proofs.YtlceokefdihdkaaGreatDoor.X
