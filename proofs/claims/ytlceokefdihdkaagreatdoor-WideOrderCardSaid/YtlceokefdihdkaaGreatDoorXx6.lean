-- Written by a program of this session (xprint) out of the translation: Lean checks it.
import Derived.Test.YtlceokefdihdkaaGreatDoorXx0
import Derived.Test.YtlceokefdihdkaaGreatDoorXx5
import Derived.Test.YtlceokefdihdkaaGreatDoorExa
import Derived.Test.YtlceokefdihdkaaGreatDoorExp
namespace Go.Proofs.YtlceokefdihdkaaGreatDoor.X
open Go.RowKit Go.Proofs.YtlceokefdihdkaaGreatDoorW.PrintWords Go.Proofs.YtlceokefdihdkaaGreatDoorW.PrintLast Go.Proofs.YtlceokefdihdkaaGreatDoorW.PrintMore
attribute [local go_sem] max2_int min2_int max_two min_two max_three min_three max_four min_four   -- for this text's walks alone
set_option linter.unusedVariables false
set_option linter.unusedSimpArgs false

/-! ### wide_signed: function 53 -/
def wide_signed.f (k : Nat) (a0 : Bool) (l1 : List Int) : Option (Bool × List Int × Int) := (wide_normal.f k l1).bind fun t255 => (if (t255.length : Int) > 512 then (some (false, ([] : List Int), 4)) else (if a0 = true then (some (decide (0 < t255.length), t255, 0)) else (some (false, t255, 0))))
theorem wide_signed.mono : ∀ a0 a1 k, LeO (wide_signed.f k a0 a1) (wide_signed.f (k + 1) a0 a1) := by
 intro a0 a1 k
 unfold wide_signed.f
 repeat' first
   | (with_reducible exact wide_normal.mono _ _)
   | (with_reducible exact LeO.refl _)
   | (with_reducible exact LeO.none _)
   | (with_reducible refine LeO.ite ?_ ?_)
   | (with_reducible refine LeO.bind ?_ (fun _ => ?_))
   | exact wide_normal.mono _ _
   | exact LeO.none _
   | refine LeO.ite ?_ ?_
   | refine LeO.bind ?_ (fun _ => ?_)
set_option maxHeartbeats 8000000 in
set_option maxRecDepth 100000 in
theorem wide_signed.calls (k : Nat) (a0 : Bool) (P1_ : Nat → Prop) (A1 : Option Addr) (c1 : Nat) (l1 : List Int) (r1 : Bool) (r2 : List Int) (r3 : Int) (w : World) (hs1 : Kd.V (Kd.int .u32) 81 w w.heap.size (fun k_ => P1_ k_) (.slice A1 l1.length c1) l1) (h : wide_signed.f k a0 l1 = some (r1, r2, r3)) :
  Calls Tryz.prog 53 #[.bool a0, .slice A1 l1.length c1] w fun e w' => ∃ v1_ : Value, e = .returned (.tuple #[.agg #[.bool r1, v1_], .int .i64 r3]) ∧ Kd.V (Kd.int .u32) 81 w' w.heap.size (fun k_ => (P1_ k_ ∨ w.heap.size ≤ k_)) v1_ r2 ∧ Below w.heap.size w w' := by
 have hu33 := Tryz.underlying33
 have HO1 := am_ (show Kd.V (Kd.int .u32) 81 w w.heap.size (fun k_ => (P1_ k_ ∨ w.heap.size ≤ k_)) (.slice A1 l1.length c1) l1 from Kd.V_mono hs1 (fun k_ hk => .inl hk))
 have HB := am_ (Below.refl w.heap.size w)
 have H : ((wide_normal.f k l1).bind fun t255 => (if (t255.length : Int) > 512 then (some (false, ([] : List Int), 4)) else (if a0 = true then (some (decide (0 < t255.length), t255, 0)) else (some (false, t255, 0))))) = some (r1, r2, r3) := h
 clear h
 replace H := Option.bind_eq_some_iff.mp H
 obtain ⟨t255, A30, H⟩ := H
 replace H : (if (t255.length : Int) > 512 then (some (false, ([] : List Int), 4)) else (if a0 = true then (some (decide (0 < t255.length), t255, 0)) else (some (false, t255, 0)))) = some (r1, r2, r3) := H
 have A3 := am_ A30
 clear A30
 by_cases c4 : (t255.length : Int) > 512
 ·rw [if_pos c4] at H
  have c4b0 : decide (512 < (t255.length : Int)) = true := decide_eq_true c4
  have c4b1 : decide (512 < t255.length) = true := decide_eq_true (by omega)
  clear c4
  simp only [Option.some.injEq, Prod.mk.injEq] at H
  obtain ⟨rfl, rfl, rfl⟩ := H
  go_enter Tryz.func53, Tryz.ntmps53
  go_wp2_with (first | ((with_reducible refine gate_dst (N := 4) rfl ?_); (try (refine gate_guard (by rfl) ?_; dsimp only)); refine box_event ?hg (N := 4) ?hd (cs := #[.bool false, .slice none 0 0]) (t := 33) ?hr ?_; (case hd => rfl); (case hg => rfl); (case hr => exact zq0); intro gb254 hg w5 hbox hb; have n0_ := am_ (Kd.V_below (Kd.V_elderB (zq1 HO1.out) gb254 (Nat.le_of_eq hg.symm)) hb); have n1_ := am_ (below_step zq2 hb); have n2_ := am_ (hbox); have n3_ := am_ ((by rw [hg]; exact (below_size zq2) : w.heap.size ≤ gb254)); clear HO1 HB; have HO1 := n0_; have HB := n1_; have BK254 := n2_; have GE254 := n3_; clear n0_ n1_ n2_ n3_; clear hb hbox hg) | ((with_reducible refine gate_callee (f := 50) rfl ?_); refine goesL_ (some 7) rfl rfl Tryz.func50 (by kernel_rfl) rfl #[.slice A1 l1.length c1] rfl zq6 ?_; (with_reducible refine (wide_normal.calls k (fun k_ => ((P1_ k_ ∨ w.heap.size ≤ k_) ∧ k_ ≠ gb254)) _ _ l1 t255 _ ?side1 A3.out).mono ?_); (case side1 => exact HO1.out); rintro e w6 ⟨v256, rfl, ho0, hb⟩; refine ⟨_, rfl, ?_⟩; replace HO1 := am_ (Kd.V_below (zq1 HO1.out) hb); have HO257 := am_ (Kd.V_lower (Kd.V_mono (ok' := fun k_ => (P1_ k_ ∨ w.heap.size ≤ k_) ∧ k_ ≠ gb254) ho0 (fun k_ hk_ => ⟨Or.elim hk_ (fun hs_ => hs_.1) (fun hn_ => (.inr (Nat.le_trans (below_size zq43) hn_))), Or.elim hk_ (fun hs_ => hs_.2) (fun hn_ => (Kd.freshB (g := gb254) (o := .cells #[.bool false, .slice none 0 0] 33 (0, 0)) (zq9 BK254.out) k_ hn_))⟩)) (below_size zq43)); replace BK254 := am_ (blk_below (g := gb254) (o := .cells #[.bool false, .slice none 0 0] 33 (0, 0)) (zq9 BK254.out) hb); replace HB := am_ (below_step zq43 hb); (try clear hb); (try clear ho0); obtain ⟨Ao7, co7, eo7⟩ := Kd.V_slice HO257.out; subst eo7; have hcz8_0 : w6.cell? ⟨gb254, 0, none⟩ = some (.bool false) := (blk_cell BK254.out 0).trans rfl; have hcz8_1 : w6.cell? ⟨gb254, 1, none⟩ = some (.slice none 0 0) := (blk_cell BK254.out 1).trans rfl; have hfz8_0 := blk_frozen BK254.out 0; have hfz8_1 := blk_frozen BK254.out 1))
  refine bodyPost_ret (results_ct rfl _ _ gb254 33 #[.bool false, .slice none 0 0] (0, 0) _ rfl (zq4 BK254.out) Tryz.underlying33 rfl (by kernel_rfl)) rfl ?_
  exact ⟨_, by first | rfl | (simp [errW_none, errW_some] <;> rfl) | (simp [*, errW_none, errW_some] <;> rfl), Kd.V_mono (ok := fun _ => False) (Kd.V_nil _ _ _ _ _) (fun _ hk => hk.elim), by repeat (first | (with_reducible first | exact HB.out | apply below_alloc | apply pw_below_drewN | apply below_drew1 | refine below_set ?_ GE254.out) | exact HB.out)⟩
 ·rw [if_neg c4] at H
  have c4b0 : decide (512 < (t255.length : Int)) = false := decide_eq_false c4
  have c4b1 : decide (512 < t255.length) = false := decide_eq_false (by omega)
  clear c4
  by_cases c9 : a0 = true
  ·subst c9
   have H1 : (some (decide (0 < t255.length), t255, 0)) = some (r1, r2, r3) := by rw [if_pos rfl] at H; exact H
   clear H
   have H := H1
   clear H1
   simp only [Option.some.injEq, Prod.mk.injEq] at H
   obtain ⟨rfl, rfl, rfl⟩ := H
   go_enter Tryz.func53, Tryz.ntmps53
   go_wp2_with (first | ((with_reducible refine gate_dst (N := 4) rfl ?_); (try (refine gate_guard (by rfl) ?_; dsimp only)); refine box_event ?hg (N := 4) ?hd (cs := #[.bool false, .slice none 0 0]) (t := 33) ?hr ?_; (case hd => rfl); (case hg => rfl); (case hr => exact zq0); intro gb254 hg w10 hbox hb; have n0_ := am_ (Kd.V_below (Kd.V_elderB (zq1 HO1.out) gb254 (Nat.le_of_eq hg.symm)) hb); have n1_ := am_ (below_step zq2 hb); have n2_ := am_ (hbox); have n3_ := am_ ((by rw [hg]; exact (below_size zq2) : w.heap.size ≤ gb254)); clear HO1 HB; have HO1 := n0_; have HB := n1_; have BK254 := n2_; have GE254 := n3_; clear n0_ n1_ n2_ n3_; clear hb hbox hg) | ((with_reducible refine gate_callee (f := 50) rfl ?_); refine goesL_ (some 7) rfl rfl Tryz.func50 (by kernel_rfl) rfl #[.slice A1 l1.length c1] rfl zq6 ?_; (with_reducible refine (wide_normal.calls k (fun k_ => ((P1_ k_ ∨ w.heap.size ≤ k_) ∧ k_ ≠ gb254)) _ _ l1 t255 _ ?side1 A3.out).mono ?_); (case side1 => exact HO1.out); rintro e w11 ⟨v256, rfl, ho0, hb⟩; refine ⟨_, rfl, ?_⟩; replace HO1 := am_ (Kd.V_below (zq1 HO1.out) hb); have HO257 := am_ (Kd.V_lower (Kd.V_mono (ok' := fun k_ => (P1_ k_ ∨ w.heap.size ≤ k_) ∧ k_ ≠ gb254) ho0 (fun k_ hk_ => ⟨Or.elim hk_ (fun hs_ => hs_.1) (fun hn_ => (.inr (Nat.le_trans (below_size zq43) hn_))), Or.elim hk_ (fun hs_ => hs_.2) (fun hn_ => (Kd.freshB (g := gb254) (o := .cells #[.bool false, .slice none 0 0] 33 (0, 0)) (zq9 BK254.out) k_ hn_))⟩)) (below_size zq43)); replace BK254 := am_ (blk_below (g := gb254) (o := .cells #[.bool false, .slice none 0 0] 33 (0, 0)) (zq9 BK254.out) hb); replace HB := am_ (below_step zq43 hb); (try clear hb); (try clear ho0); obtain ⟨Ao12, co12, eo12⟩ := Kd.V_slice HO257.out; subst eo12; have hcz13_0 : w11.cell? ⟨gb254, 0, none⟩ = some (.bool false) := (blk_cell BK254.out 0).trans rfl; have hcz13_1 : w11.cell? ⟨gb254, 1, none⟩ = some (.slice none 0 0) := (blk_cell BK254.out 1).trans rfl; have hfz13_0 := blk_frozen BK254.out 0; have hfz13_1 := blk_frozen BK254.out 1))
   refine bodyPost_ret (results_ct rfl _ _ gb254 33 #[.bool (decide (0 < t255.length)), .slice Ao12 t255.length co12] (0, 0) _ rfl (by (with_reducible repeat (first | refine blk_drewN ?_ _ | refine blk_drew ?_ | refine blk_alloc ?_ _)); refine blk_put (cs := #[.bool (decide (0 < t255.length)), .slice none 0 0]) ?_ 1 _ rfl; (with_reducible repeat (first | refine blk_drewN ?_ _ | refine blk_drew ?_ | refine blk_alloc ?_ _)); refine blk_put (cs := #[.bool false, .slice none 0 0]) ?_ 0 _ rfl; (with_reducible repeat (first | refine blk_drewN ?_ _ | refine blk_drew ?_ | refine blk_alloc ?_ _)); exact BK254.out) Tryz.underlying33 rfl (by kernel_rfl)) rfl ?_
   exact ⟨_, by first | rfl | (simp [errW_none, errW_some] <;> rfl) | (simp [*, errW_none, errW_some] <;> rfl), by (with_reducible repeat (first | apply Kd.V_alloc | apply Kd.V_drewN | apply Kd.V_drew)); exact Kd.V_mono (Kd.V_far (p := ⟨gb254, 1, none⟩) (Kd.V_far (p := ⟨gb254, 0, none⟩) (Kd.V_mono HO257.out (fun k_ hk => (⟨hk, hk.2⟩ : _ ∧ k_ ≠ gb254))) (fun _ hk => hk.2) (.bool (decide (0 < t255.length)))) (fun _ hk => hk.2) (.slice Ao12 t255.length co12)) (fun _ hk => hk.1.1), by repeat (first | (with_reducible first | exact HB.out | apply below_alloc | apply pw_below_drewN | apply below_drew1 | refine below_set ?_ GE254.out) | exact HB.out)⟩
  ·replace c9 := Bool.eq_false_iff.mpr c9
   subst c9
   have H1 : (some (false, t255, 0)) = some (r1, r2, r3) := by rw [if_neg (show ¬ (false = true) by decide)] at H; exact H
   clear H
   have H := H1
   clear H1
   simp only [Option.some.injEq, Prod.mk.injEq] at H
   obtain ⟨rfl, rfl, rfl⟩ := H
   go_enter Tryz.func53, Tryz.ntmps53
   go_wp2_with (first | ((with_reducible refine gate_dst (N := 4) rfl ?_); (try (refine gate_guard (by rfl) ?_; dsimp only)); refine box_event ?hg (N := 4) ?hd (cs := #[.bool false, .slice none 0 0]) (t := 33) ?hr ?_; (case hd => rfl); (case hg => rfl); (case hr => exact zq0); intro gb254 hg w14 hbox hb; have n0_ := am_ (Kd.V_below (Kd.V_elderB (zq1 HO1.out) gb254 (Nat.le_of_eq hg.symm)) hb); have n1_ := am_ (below_step zq2 hb); have n2_ := am_ (hbox); have n3_ := am_ ((by rw [hg]; exact (below_size zq2) : w.heap.size ≤ gb254)); clear HO1 HB; have HO1 := n0_; have HB := n1_; have BK254 := n2_; have GE254 := n3_; clear n0_ n1_ n2_ n3_; clear hb hbox hg) | ((with_reducible refine gate_callee (f := 50) rfl ?_); refine goesL_ (some 7) rfl rfl Tryz.func50 (by kernel_rfl) rfl #[.slice A1 l1.length c1] rfl zq6 ?_; (with_reducible refine (wide_normal.calls k (fun k_ => ((P1_ k_ ∨ w.heap.size ≤ k_) ∧ k_ ≠ gb254)) _ _ l1 t255 _ ?side1 A3.out).mono ?_); (case side1 => exact HO1.out); rintro e w15 ⟨v256, rfl, ho0, hb⟩; refine ⟨_, rfl, ?_⟩; have HO257 := am_ (Kd.V_lower (Kd.V_mono (ok' := fun k_ => (P1_ k_ ∨ w.heap.size ≤ k_) ∧ k_ ≠ gb254) ho0 (fun k_ hk_ => ⟨Or.elim hk_ (fun hs_ => hs_.1) (fun hn_ => (.inr (Nat.le_trans (below_size zq43) hn_))), Or.elim hk_ (fun hs_ => hs_.2) (fun hn_ => (Kd.freshB (g := gb254) (o := .cells #[.bool false, .slice none 0 0] 33 (0, 0)) (zq9 BK254.out) k_ hn_))⟩)) (below_size zq43)); replace BK254 := am_ (blk_below (g := gb254) (o := .cells #[.bool false, .slice none 0 0] 33 (0, 0)) (zq9 BK254.out) hb); replace HB := am_ (below_step zq43 hb); (try clear hb); (try clear ho0); obtain ⟨Ao16, co16, eo16⟩ := Kd.V_slice HO257.out; subst eo16; have hcz17_0 : w15.cell? ⟨gb254, 0, none⟩ = some (.bool false) := (blk_cell BK254.out 0).trans rfl; have hcz17_1 : w15.cell? ⟨gb254, 1, none⟩ = some (.slice none 0 0) := (blk_cell BK254.out 1).trans rfl; have hfz17_0 := blk_frozen BK254.out 0; have hfz17_1 := blk_frozen BK254.out 1))
   refine bodyPost_ret (results_ct rfl _ _ gb254 33 #[.bool false, .slice Ao16 t255.length co16] (0, 0) _ rfl (zq4 BK254.out) Tryz.underlying33 rfl (by kernel_rfl)) rfl ?_
   exact ⟨_, by first | rfl | (simp [errW_none, errW_some] <;> rfl) | (simp [*, errW_none, errW_some] <;> rfl), by (with_reducible repeat (first | apply Kd.V_alloc | apply Kd.V_drewN | apply Kd.V_drew)); exact Kd.V_mono (Kd.V_far (p := ⟨gb254, 1, none⟩) (Kd.V_far (p := ⟨gb254, 0, none⟩) (Kd.V_mono HO257.out (fun k_ hk => (⟨hk, hk.2⟩ : _ ∧ k_ ≠ gb254))) (fun _ hk => hk.2) (.bool false)) (fun _ hk => hk.2) (.slice Ao16 t255.length co16)) (fun _ hk => hk.1.1), by repeat (first | (with_reducible first | exact HB.out | apply below_alloc | apply pw_below_drewN | apply below_drew1 | refine below_set ?_ GE254.out) | exact HB.out)⟩

/-! ### wide_Parse: function 16 -/
mutual
def wide_Parse.j0 : Nat → ByteArray → Bool → Bool → Option (Bool × List Int × Int)
 | 0, _, _, _ => none
 | k + 1, x4, x5, x38 => if x38 = true then (some (false, ([] : List Int), 2)) else (wide_Parse.l0 k x4 x5 ([] : List Int))
def wide_Parse.l0 : Nat → ByteArray → Bool → List Int → Option (Bool × List Int × Int)
 | 0, _, _, _ => none
 | k + 1, x4, x5, x6 => if (x4.size : Int) > 0 then (if 0 ≤ (wrap64 ((Int.tmod (wrap64 ((x4.size : Int) - 1)) 9) + 1)) then (if (wrap64 ((Int.tmod (wrap64 ((x4.size : Int) - 1)) 9) + 1)) ≤ (x4.size : Int) then ((strconv_Atoi.f (x4.extract 0 ((wrap64 ((Int.tmod (wrap64 ((x4.size : Int) - 1)) 9) + 1)) : Int).toNat)).bind fun bt267 => ((wide_times.f k x6 (([1000000000] : List Int))).bind fun t272 => ((wide_sum.f t272 (([(bt267.1) % 4294967296] : List Int))).bind fun t278 => ((wide_normal.f k t278).bind fun t281 => (wide_Parse.l0 k (x4.extract ((wrap64 ((Int.tmod (wrap64 ((x4.size : Int) - 1)) 9) + 1)) : Int).toNat x4.size) x5 t281))))) else (none)) else (none)) else ((wide_signed.f k x5 x6).bind fun bt262 => (some (bt262.1, bt262.2.1, bt262.2.2)))
end
def wide_Parse.f (k : Nat) (a0 : ByteArray) : Option (Bool × List Int × Int) := if (a0.size : Int) > 5000 then (some (false, ([] : List Int), 4)) else ((strings_CutPrefix.f a0 (⟨#[45]⟩ : ByteArray)).bind fun bt259 => (if bt259.1.toList = ([] : List UInt8) then (wide_Parse.j0 k bt259.1 bt259.2 true) else ((strings_Trim.f bt259.1 (⟨#[48, 49, 50, 51, 52, 53, 54, 55, 56, 57]⟩ : ByteArray)).bind fun t261 => (if t261.toList = ([] : List UInt8) then (if 0 < (bt259.1.size : Int) then (if (bt bt259.1 0) = 48 then (if bt259.2 = true then (wide_Parse.j0 k bt259.1 bt259.2 true) else (wide_Parse.j0 k bt259.1 bt259.2 (decide ((bt259.1.size : Int) > 1)))) else (wide_Parse.j0 k bt259.1 bt259.2 false)) else (none)) else (wide_Parse.j0 k bt259.1 bt259.2 true)))))
theorem wide_Parse.mono_l : ∀ k, (∀ y0 y1 y2, LeO (wide_Parse.j0 k y0 y1 y2) (wide_Parse.j0 (k + 1) y0 y1 y2)) ∧ (∀ y0 y1 y2, LeO (wide_Parse.l0 k y0 y1 y2) (wide_Parse.l0 (k + 1) y0 y1 y2))
 | 0 => ⟨fun _ _ _ r h => by simp [wide_Parse.j0] at h, fun _ _ _ r h => by simp [wide_Parse.l0] at h⟩
 | k + 1 => by
  obtain ⟨ih0, ih1⟩ := wide_Parse.mono_l k
  refine ⟨?_, ?_⟩
  ·intro y0 y1 y2
   unfold wide_Parse.j0
   repeat' first
   | (with_reducible exact ih0 _ _ _)
   | (with_reducible exact ih1 _ _ _)
   | (with_reducible exact wide_normal.mono _ _)
   | (with_reducible exact wide_signed.mono _ _ _)
   | (with_reducible exact wide_times.mono _ _ _)
   | (with_reducible exact LeO.refl _)
   | (with_reducible exact LeO.none _)
   | (with_reducible refine LeO.ite ?_ ?_)
   | (with_reducible refine LeO.bind ?_ (fun _ => ?_))
   | exact ih0 _ _ _
   | exact ih1 _ _ _
   | exact wide_normal.mono _ _
   | exact wide_signed.mono _ _ _
   | exact wide_times.mono _ _ _
   | exact LeO.none _
   | refine LeO.ite ?_ ?_
   | refine LeO.bind ?_ (fun _ => ?_)
  ·intro y0 y1 y2
   unfold wide_Parse.l0
   repeat' first
   | (with_reducible exact ih0 _ _ _)
   | (with_reducible exact ih1 _ _ _)
   | (with_reducible exact wide_normal.mono _ _)
   | (with_reducible exact wide_signed.mono _ _ _)
   | (with_reducible exact wide_times.mono _ _ _)
   | (with_reducible exact LeO.refl _)
   | (with_reducible exact LeO.none _)
   | (with_reducible refine LeO.ite ?_ ?_)
   | (with_reducible refine LeO.bind ?_ (fun _ => ?_))
   | exact ih0 _ _ _
   | exact ih1 _ _ _
   | exact wide_normal.mono _ _
   | exact wide_signed.mono _ _ _
   | exact wide_times.mono _ _ _
   | exact LeO.none _
   | refine LeO.ite ?_ ?_
   | refine LeO.bind ?_ (fun _ => ?_)
theorem wide_Parse.mono : ∀ a0 k, LeO (wide_Parse.f k a0) (wide_Parse.f (k + 1) a0) := by
 intro a0 k
 obtain ⟨ih0, ih1⟩ := wide_Parse.mono_l k
 unfold wide_Parse.f
 repeat' first
   | (with_reducible exact ih0 _ _ _)
   | (with_reducible exact ih1 _ _ _)
   | (with_reducible exact wide_normal.mono _ _)
   | (with_reducible exact wide_signed.mono _ _ _)
   | (with_reducible exact wide_times.mono _ _ _)
   | (with_reducible exact LeO.refl _)
   | (with_reducible exact LeO.none _)
   | (with_reducible refine LeO.ite ?_ ?_)
   | (with_reducible refine LeO.bind ?_ (fun _ => ?_))
   | exact ih0 _ _ _
   | exact ih1 _ _ _
   | exact wide_normal.mono _ _
   | exact wide_signed.mono _ _ _
   | exact wide_times.mono _ _ _
   | exact LeO.none _
   | refine LeO.ite ?_ ?_
   | refine LeO.bind ?_ (fun _ => ?_)
set_option maxHeartbeats 8000000 in
set_option maxRecDepth 100000 in
theorem wide_Parse.calls (k : Nat) (a0 : ByteArray) (r1 : Bool) (r2 : List Int) (r3 : Int) (w : World) (h : wide_Parse.f k a0 = some (r1, r2, r3)) :
  Calls Tryz.prog 16 #[.string a0] w fun e w' => ∃ v1_ : Value, e = .returned (.tuple #[.agg #[.bool r1, v1_], .int .i64 r3]) ∧ Kd.V (Kd.int .u32) 81 w' w.heap.size (fun k_ => (w.heap.size ≤ k_)) v1_ r2 ∧ Below w.heap.size w w' := by
 have hu33 := Tryz.underlying33
 have HB := am_ (Below.refl w.heap.size w)
 have H : (if (a0.size : Int) > 5000 then (some (false, ([] : List Int), 4)) else ((strings_CutPrefix.f a0 (⟨#[45]⟩ : ByteArray)).bind fun bt259 => (if bt259.1.toList = ([] : List UInt8) then (wide_Parse.j0 k bt259.1 bt259.2 true) else ((strings_Trim.f bt259.1 (⟨#[48, 49, 50, 51, 52, 53, 54, 55, 56, 57]⟩ : ByteArray)).bind fun t261 => (if t261.toList = ([] : List UInt8) then (if 0 < (bt259.1.size : Int) then (if (bt bt259.1 0) = 48 then (if bt259.2 = true then (wide_Parse.j0 k bt259.1 bt259.2 true) else (wide_Parse.j0 k bt259.1 bt259.2 (decide ((bt259.1.size : Int) > 1)))) else (wide_Parse.j0 k bt259.1 bt259.2 false)) else (none)) else (wide_Parse.j0 k bt259.1 bt259.2 true)))))) = some (r1, r2, r3) := h
 clear h
 by_cases c2 : (a0.size : Int) > 5000
 ·rw [if_pos c2] at H
  have c2b0 : decide (5000 < (a0.size : Int)) = true := decide_eq_true c2
  have c2b1 : decide (5000 < a0.size) = true := decide_eq_true (by omega)
  clear c2
  simp only [Option.some.injEq, Prod.mk.injEq] at H
  obtain ⟨rfl, rfl, rfl⟩ := H
  go_enter Tryz.func16, Tryz.ntmps16
  go_wp2_with (first | ((with_reducible refine gate_dst (N := 2) rfl ?_); (try (refine gate_guard (by rfl) ?_; dsimp only)); refine box_event ?hg (N := 2) ?hd (cs := #[.bool false, .slice none 0 0]) (t := 33) ?hr ?_; (case hd => rfl); (case hg => rfl); (case hr => exact zq0); intro gb258 hg w3 hbox hb; have n0_ := am_ (below_step zq2 hb); have n1_ := am_ (hbox); have n2_ := am_ ((by rw [hg]; exact (below_size zq2) : w.heap.size ≤ gb258)); clear HB; have HB := n0_; have BK258 := n1_; have GE258 := n2_; clear n0_ n1_ n2_; clear hb hbox hg; have hcz4_0 : w3.cell? ⟨gb258, 0, none⟩ = some (.bool false) := (blk_cell BK258.out 0).trans rfl; have hcz4_1 : w3.cell? ⟨gb258, 1, none⟩ = some (.slice none 0 0) := (blk_cell BK258.out 1).trans rfl; have hfz4_0 := blk_frozen BK258.out 0; have hfz4_1 := blk_frozen BK258.out 1))
  refine bodyPost_ret (results_ct rfl _ _ gb258 33 #[.bool false, .slice none 0 0] (0, 0) _ rfl (zq4 BK258.out) Tryz.underlying33 rfl (by kernel_rfl)) rfl ?_
  exact ⟨_, by first | rfl | (simp [errW_none, errW_some] <;> rfl) | (simp [*, errW_none, errW_some] <;> rfl), Kd.R_V (base := 0) zq38, by repeat (first | (with_reducible first | exact HB.out | apply below_alloc | apply pw_below_drewN | apply below_drew1 | refine below_set ?_ GE258.out) | exact HB.out)⟩
 ·rw [if_neg c2] at H
  have c2b0 : decide (5000 < (a0.size : Int)) = false := decide_eq_false c2
  have c2b1 : decide (5000 < a0.size) = false := decide_eq_false (by omega)
  clear c2
  replace H := Option.bind_eq_some_iff.mp H
  obtain ⟨⟨t259, t260⟩, A50, H⟩ := H
  replace H : (if t259.toList = ([] : List UInt8) then (wide_Parse.j0 k t259 t260 true) else ((strings_Trim.f t259 (⟨#[48, 49, 50, 51, 52, 53, 54, 55, 56, 57]⟩ : ByteArray)).bind fun t261 => (if t261.toList = ([] : List UInt8) then (if 0 < (t259.size : Int) then (if (bt t259 0) = 48 then (if t260 = true then (wide_Parse.j0 k t259 t260 true) else (wide_Parse.j0 k t259 t260 (decide ((t259.size : Int) > 1)))) else (wide_Parse.j0 k t259 t260 false)) else (none)) else (wide_Parse.j0 k t259 t260 true)))) = some (r1, r2, r3) := H
  have A5 := am_ A50
  clear A50
  have HC6 := am_ H
  clear H
  go_enter Tryz.func16, Tryz.ntmps16
  go_upto_region 4 with (first | ((with_reducible refine gate_dst (N := 2) rfl ?_); (try (refine gate_guard (by rfl) ?_; dsimp only)); refine box_event ?hg (N := 2) ?hd (cs := #[.bool false, .slice none 0 0]) (t := 33) ?hr ?_; (case hd => rfl); (case hg => rfl); (case hr => exact zq0); intro gb258 hg w7 hbox hb; have n0_ := am_ (below_step zq2 hb); have n1_ := am_ (hbox); have n2_ := am_ ((by rw [hg]; exact (below_size zq2) : w.heap.size ≤ gb258)); clear HB; have HB := n0_; have BK258 := n1_; have GE258 := n2_; clear n0_ n1_ n2_; clear hb hbox hg) | ((with_reducible refine gate_callee (f := 47) rfl ?_); refine goesL_ (some 16) rfl rfl Tryz.func47 (by kernel_rfl) rfl #[.string a0, .string (⟨#[45]⟩ : ByteArray)] rfl zq6 ?_; (with_reducible refine (strings_CutPrefix.calls a0 (⟨#[45]⟩ : ByteArray) t259 t260 _ A5.out).mono ?_); rintro e w' ⟨rfl, ⟨nd, rfl⟩⟩; refine ⟨_, rfl, ?_⟩))
  (try simp only [Act.put, List.setIfInBounds_toArray, List.set_cons_zero, List.set_cons_succ])
  go_cut [38] (fun v38 wc => ∃ (kq : Nat) (x38_5 : Bool), v38 = .bool x38_5 ∧ Aside0 (wide_Parse.j0 kq t259 t260 x38_5 = some (r1, r2, r3)) ∧ Aside0 (kq ≤ k) ∧ Aside0 (wc.heap[gb258]? = some (.cells #[.bool false, (.slice none 0 0)] 33 (0, 0))) ∧ Aside0 (Below w.heap.size w wc))
  case first =>
   have H := HC6.out
   clear HC6
   by_cases c8 : t259.toList = ([] : List UInt8)
   ·rw [if_pos c8] at H
    have c8b0 : (t259.toList == ([] : List UInt8)) = true := beq_iff_eq.mpr c8
    have c8b1 : (t259.toList != ([] : List UInt8)) = false := bne_eq_false_iff_eq.mpr c8
    clear c8
    (first | rw [c8b0] | (simp only [i64_w, i32_w]; rw [c8b0]) | skip)
    have H' := am_ H
    clear H
    go_wp2
    go_meet
    case rel => exact ⟨_, (true), zq5, H', ⟨by first | omega | exact Nat.le_refl _⟩, ⟨by (with_reducible repeat (first | refine blk_drewN ?_ _ | refine blk_drew ?_ | refine blk_alloc ?_ _)); exact BK258.out⟩, ⟨by repeat (first | (with_reducible first | exact HB.out | apply below_alloc | apply pw_below_drewN | apply below_drew1 | refine below_set ?_ GE258.out) | exact HB.out)⟩⟩
   ·rw [if_neg c8] at H
    have c8b0 : (t259.toList == ([] : List UInt8)) = false := beq_eq_false_iff_ne.mpr c8
    have c8b1 : (t259.toList != ([] : List UInt8)) = true := bne_iff_ne.mpr c8
    (first | rw [c8b0] | (simp only [i64_w, i32_w]; rw [c8b0]) | skip)
    replace H := Option.bind_eq_some_iff.mp H
    obtain ⟨t261, A90, H⟩ := H
    replace H : (if t261.toList = ([] : List UInt8) then (if 0 < (t259.size : Int) then (if (bt t259 0) = 48 then (if t260 = true then (wide_Parse.j0 k t259 t260 true) else (wide_Parse.j0 k t259 t260 (decide ((t259.size : Int) > 1)))) else (wide_Parse.j0 k t259 t260 false)) else (none)) else (wide_Parse.j0 k t259 t260 true)) = some (r1, r2, r3) := H
    have A9 := am_ A90
    clear A90
    by_cases c10 : t261.toList = ([] : List UInt8)
    ·rw [if_pos c10] at H
     have c10b0 : (t261.toList == ([] : List UInt8)) = true := beq_iff_eq.mpr c10
     have c10b1 : (t261.toList != ([] : List UInt8)) = false := bne_eq_false_iff_eq.mpr c10
     clear c10
     by_cases c11 : 0 < (t259.size : Int)
     ·rw [if_pos c11] at H
      have c11b0 : decide (0 < (t259.size : Int)) = true := decide_eq_true c11
      have c11b1 : decide (0 < t259.size) = true := decide_eq_true (by omega)
      clear c11
      by_cases c13 : (bt t259 0) = 48
      ·rw [if_pos c13] at H
       have c13b0 : ((bt t259 0) == 48) = true := beq_iff_eq.mpr c13
       have c13b1 : ((bt t259 0) != 48) = false := bne_eq_false_iff_eq.mpr c13
       clear c13
       by_cases c14 : t260 = true
       ·subst c14
        have H1 : (wide_Parse.j0 k t259 true true) = some (r1, r2, r3) := by rw [if_pos rfl] at H; exact H
        clear H
        have H := H1
        clear H1
        have H' := am_ H
        clear H
        go_wp2_with (first | (go_at_call 48; (with_reducible refine (strings_Trim.calls t259 (⟨#[48, 49, 50, 51, 52, 53, 54, 55, 56, 57]⟩ : ByteArray) t261 _ A9.out).mono ?_); rintro e w15 ⟨rfl, hb⟩; replace BK258 := am_ (blk_below (g := gb258) (o := .cells #[.bool false, .slice none 0 0] 33 (0, 0)) (zq9 BK258.out) hb); replace HB := am_ (below_step zq44 hb); (try clear hb); have p12 : 0 ≤ (0 : Int) := (by omega); have q12 : 0 < t259.size := (by have : (0 : Int) < (t259.size : Int) := of_decide_eq_true zq3; omega); have hx12 : ∀ h : 0 < t259.size, ((t259[0]'h).toNat : Int) = bt t259 0 := bt_at t259 0; clear p12; have qi12 : (0 < (t259.size : Int)) = True := eq_true (of_decide_eq_true zq3); replace q12 := eq_true q12))
        go_meet
        case rel => exact ⟨_, (true), zq5, H', ⟨by first | omega | exact Nat.le_refl _⟩, ⟨by (with_reducible repeat (first | refine blk_drewN ?_ _ | refine blk_drew ?_ | refine blk_alloc ?_ _)); exact BK258.out⟩, ⟨by repeat (first | (with_reducible first | exact HB.out | apply below_alloc | apply pw_below_drewN | apply below_drew1 | refine below_set ?_ GE258.out) | exact HB.out)⟩⟩
       ·replace c14 := Bool.eq_false_iff.mpr c14
        subst c14
        have H1 : (wide_Parse.j0 k t259 false (decide ((t259.size : Int) > 1))) = some (r1, r2, r3) := by rw [if_neg (show ¬ (false = true) by decide)] at H; exact H
        clear H
        have H := H1
        clear H1
        have H' := am_ H
        clear H
        go_wp2_with (first | (go_at_call 48; (with_reducible refine (strings_Trim.calls t259 (⟨#[48, 49, 50, 51, 52, 53, 54, 55, 56, 57]⟩ : ByteArray) t261 _ A9.out).mono ?_); rintro e w16 ⟨rfl, hb⟩; replace BK258 := am_ (blk_below (g := gb258) (o := .cells #[.bool false, .slice none 0 0] 33 (0, 0)) (zq9 BK258.out) hb); replace HB := am_ (below_step zq44 hb); (try clear hb); have p12 : 0 ≤ (0 : Int) := (by omega); have q12 : 0 < t259.size := (by have : (0 : Int) < (t259.size : Int) := of_decide_eq_true zq3; omega); have hx12 : ∀ h : 0 < t259.size, ((t259[0]'h).toNat : Int) = bt t259 0 := bt_at t259 0; clear p12; have qi12 : (0 < (t259.size : Int)) = True := eq_true (of_decide_eq_true zq3); replace q12 := eq_true q12))
        go_meet
        case rel => exact ⟨_, (decide ((t259.size : Int) > 1)), zq5, H', ⟨by first | omega | exact Nat.le_refl _⟩, ⟨by (with_reducible repeat (first | refine blk_drewN ?_ _ | refine blk_drew ?_ | refine blk_alloc ?_ _)); exact BK258.out⟩, ⟨by repeat (first | (with_reducible first | exact HB.out | apply below_alloc | apply pw_below_drewN | apply below_drew1 | refine below_set ?_ GE258.out) | exact HB.out)⟩⟩
      ·rw [if_neg c13] at H
       have c13b0 : ((bt t259 0) == 48) = false := beq_eq_false_iff_ne.mpr c13
       have c13b1 : ((bt t259 0) != 48) = true := bne_iff_ne.mpr c13
       have H' := am_ H
       clear H
       go_wp2_with (first | (go_at_call 48; (with_reducible refine (strings_Trim.calls t259 (⟨#[48, 49, 50, 51, 52, 53, 54, 55, 56, 57]⟩ : ByteArray) t261 _ A9.out).mono ?_); rintro e w17 ⟨rfl, hb⟩; replace BK258 := am_ (blk_below (g := gb258) (o := .cells #[.bool false, .slice none 0 0] 33 (0, 0)) (zq9 BK258.out) hb); replace HB := am_ (below_step zq44 hb); (try clear hb); have p12 : 0 ≤ (0 : Int) := (by omega); have q12 : 0 < t259.size := (by have : (0 : Int) < (t259.size : Int) := of_decide_eq_true zq3; omega); have hx12 : ∀ h : 0 < t259.size, ((t259[0]'h).toNat : Int) = bt t259 0 := bt_at t259 0; clear p12; have qi12 : (0 < (t259.size : Int)) = True := eq_true (of_decide_eq_true zq3); replace q12 := eq_true q12))
       go_meet
       case rel => exact ⟨_, (false), zq5, H', ⟨by first | omega | exact Nat.le_refl _⟩, ⟨by (with_reducible repeat (first | refine blk_drewN ?_ _ | refine blk_drew ?_ | refine blk_alloc ?_ _)); exact BK258.out⟩, ⟨by repeat (first | (with_reducible first | exact HB.out | apply below_alloc | apply pw_below_drewN | apply below_drew1 | refine below_set ?_ GE258.out) | exact HB.out)⟩⟩
     ·rw [if_neg c11] at H
      exact absurd H (by simp)
    ·rw [if_neg c10] at H
     have c10b0 : (t261.toList == ([] : List UInt8)) = false := beq_eq_false_iff_ne.mpr c10
     have c10b1 : (t261.toList != ([] : List UInt8)) = true := bne_iff_ne.mpr c10
     have H' := am_ H
     clear H
     go_wp2_with (first | (go_at_call 48; (with_reducible refine (strings_Trim.calls t259 (⟨#[48, 49, 50, 51, 52, 53, 54, 55, 56, 57]⟩ : ByteArray) t261 _ A9.out).mono ?_); rintro e w18 ⟨rfl, hb⟩; replace BK258 := am_ (blk_below (g := gb258) (o := .cells #[.bool false, .slice none 0 0] 33 (0, 0)) (zq9 BK258.out) hb); replace HB := am_ (below_step zq44 hb); (try clear hb)))
     go_meet
     case rel => exact ⟨_, (true), zq5, H', ⟨by first | omega | exact Nat.le_refl _⟩, ⟨by (with_reducible repeat (first | refine blk_drewN ?_ _ | refine blk_drew ?_ | refine blk_alloc ?_ _)); exact BK258.out⟩, ⟨by repeat (first | (with_reducible first | exact HB.out | apply below_alloc | apply pw_below_drewN | apply below_drew1 | refine below_set ?_ GE258.out) | exact HB.out)⟩⟩
  case rest =>
   clear HC6
   try clear c1
   try clear p1
   try clear q1
   try clear hx1
   try clear qi1
   try clear c2
   try clear c2b0
   try clear c2b1
   try clear p2
   try clear c4
   try clear c8
   try clear c8b0
   try clear c8b1
   try clear c10
   try clear c10b0
   try clear c10b1
   try clear c11
   try clear c11b0
   try clear c11b1
   try clear p12
   try clear q12
   try clear hx12
   try clear qi12
   try clear c13
   try clear c13b0
   try clear c13b1
   try clear c14
   try clear c16
   try clear hcz4_0
   try clear hcz4_1
   try clear hfz4_0
   try clear hfz4_1
   try clear p12
   try clear q12
   obtain ⟨kq, x38_5, rfl, HA, HJ5, BK258, HB⟩ := hcut
   cases kq with
   | zero => exact absurd HA.out (by simp [wide_Parse.j0])
   | succ kj5 =>
    have H := HA.out
    clear HA
    simp only [wide_Parse.j0] at H
    by_cases c19 : x38_5 = true
    ·subst c19
     have H1 : (some (false, ([] : List Int), 2)) = some (r1, r2, r3) := by rw [if_pos rfl] at H; exact H
     clear H
     have H := H1
     clear H1
     simp only [Option.some.injEq, Prod.mk.injEq] at H
     obtain ⟨rfl, rfl, rfl⟩ := H
     have hcz20_0 : wc.cell? ⟨gb258, 0, none⟩ = some (.bool false) := (blk_cell BK258.out 0).trans rfl
     have hcz20_1 : wc.cell? ⟨gb258, 1, none⟩ = some (.slice none 0 0) := (blk_cell BK258.out 1).trans rfl
     have hfz20_0 := blk_frozen BK258.out 0
     have hfz20_1 := blk_frozen BK258.out 1
     go_wp2
     refine bodyPost_ret (results_ct rfl _ _ gb258 33 #[.bool false, .slice none 0 0] (0, 0) _ rfl (zq4 BK258.out) Tryz.underlying33 rfl (by kernel_rfl)) rfl ?_
     exact ⟨_, by first | rfl | (simp [errW_none, errW_some] <;> rfl) | (simp [*, errW_none, errW_some] <;> rfl), Kd.R_V (base := 0) zq38, by repeat (first | (with_reducible first | exact HB.out | apply below_alloc | apply pw_below_drewN | apply below_drew1 | refine below_set ?_ GE258.out) | exact HB.out)⟩
    ·replace c19 := Bool.eq_false_iff.mpr c19
     subst c19
     have H1 : (wide_Parse.l0 kj5 t259 t260 ([] : List Int)) = some (r1, r2, r3) := by rw [if_neg (show ¬ (false = true) by decide)] at H; exact H
     clear H
     have H := H1
     clear H1
     have H' := am_ H
     clear H
     go_wp2
     try simp only [Act.put, List.setIfInBounds_toArray, List.set_cons_zero, List.set_cons_succ]
     go_loopg [4, 6] kj5 (fun kq v4 v6 w' => ∃ (x4_2 : ByteArray) (x6_2 : List Int), v4 = .string x4_2 ∧ Aside0 (wide_Parse.l0 kq x4_2 t260 x6_2 = some (r1, r2, r3)) ∧ Aside0 (kq ≤ kj5) ∧ Aside0 (Kd.V (Kd.int .u32) 81 w' w.heap.size (fun k_ => (w.heap.size ≤ k_) ∧ k_ ≠ gb258) v6 x6_2) ∧ Aside0 (w'.heap[gb258]? = some (.cells #[.bool false, (.slice none 0 0)] 33 (0, 0))) ∧ Aside0 (Below w.heap.size w w'))
     case atStart => exact ⟨(t259), (([] : List Int)), zq5, H', ⟨Nat.le_refl _⟩, ⟨Kd.R_V (base := 0) zq38⟩, ⟨by (with_reducible repeat (first | refine blk_drewN ?_ _ | refine blk_drew ?_ | refine blk_alloc ?_ _)); exact BK258.out⟩, ⟨by repeat (first | (with_reducible first | exact HB.out | apply below_alloc | apply pw_below_drewN | apply below_drew1 | refine below_set ?_ GE258.out) | exact HB.out)⟩⟩
     case round =>
      clear H'
      try clear c1
      try clear p1
      try clear q1
      try clear hx1
      try clear qi1
      try clear c2
      try clear c2b0
      try clear c2b1
      try clear p2
      try clear c4
      try clear c8
      try clear c8b0
      try clear c8b1
      try clear c10
      try clear c10b0
      try clear c10b1
      try clear c11
      try clear c11b0
      try clear c11b1
      try clear p12
      try clear q12
      try clear hx12
      try clear qi12
      try clear c13
      try clear c13b0
      try clear c13b1
      try clear c14
      try clear c16
      try clear c19
      try clear hcz20_0
      try clear hcz20_1
      try clear hcz4_0
      try clear hcz4_1
      try clear hfz20_0
      try clear hfz20_1
      try clear hfz4_0
      try clear hfz4_1
      try clear p1
      try clear p12
      try clear p2
      try clear q1
      try clear q12
      obtain ⟨x4_2, x6_2, rfl, HA, HK2, HO_6, BK258, HB⟩ := hrel
      cases gk with
      | zero => exact absurd HA.out (by simp [wide_Parse.l0])
      | succ k2 =>
       have H := HA.out
       clear HA
       simp only [wide_Parse.l0] at H
       by_cases c21 : (x4_2.size : Int) > 0
       ·rw [if_pos c21] at H
        have c21b0 : decide (0 < (x4_2.size : Int)) = true := decide_eq_true c21
        have c21b1 : decide (0 < x4_2.size) = true := decide_eq_true (by omega)
        clear c21
        obtain ⟨ji22, hji22⟩ : ∃ j_ : Int, (wrap64 ((Int.tmod (wrap64 ((x4_2.size : Int) - 1)) 9) + 1)) = j_ := ⟨_, rfl⟩
        replace H : (if 0 ≤ (ji22) then (if (ji22) ≤ (x4_2.size : Int) then ((strconv_Atoi.f (x4_2.extract 0 ((ji22) : Int).toNat)).bind fun bt267 => ((wide_times.f k2 x6_2 (([1000000000] : List Int))).bind fun t272 => ((wide_sum.f t272 (([(bt267.1) % 4294967296] : List Int))).bind fun t278 => ((wide_normal.f k2 t278).bind fun t281 => (wide_Parse.l0 k2 (x4_2.extract ((ji22) : Int).toNat x4_2.size) t260 t281))))) else (none)) else (none)) = some (r1, r2, r3) := by first | (rw [hji22] at H; exact H) | (simp only [hji22] at H ⊢; exact H)
        have hji22w : (IntKind.i64.wrap ((Int.tmod (wrap64 ((x4_2.size : Int) - 1)) 9) + 1)) = ji22 := (i64_w _).trans hji22
        by_cases c23 : 0 ≤ (ji22)
        ·rw [if_pos c23] at H
         have c23b0 := eq_true c23
         have c23b1 : decide (0 ≤ (ji22)) = true := decide_eq_true c23
         clear c23
         by_cases c24 : (ji22) ≤ (x4_2.size : Int)
         ·rw [if_pos c24] at H
          have c24b0 := eq_true c24
          have c24b1 : decide ((ji22) ≤ (x4_2.size : Int)) = true := decide_eq_true c24
          clear c24
          replace H := Option.bind_eq_some_iff.mp H
          obtain ⟨⟨t267, t268⟩, A250, H⟩ := H
          replace H : ((wide_times.f k2 x6_2 (([1000000000] : List Int))).bind fun t272 => ((wide_sum.f t272 (([(t267) % 4294967296] : List Int))).bind fun t278 => ((wide_normal.f k2 t278).bind fun t281 => (wide_Parse.l0 k2 (x4_2.extract ((ji22) : Int).toNat x4_2.size) t260 t281)))) = some (r1, r2, r3) := H
          have A25 := am_ A250
          clear A250
          have c26b0 := eq_true (of_decide_eq_true zq3 : 0 ≤ (ji22))
          have c27b0 := eq_true (of_decide_eq_true zq3 : (ji22) ≤ (x4_2.size : Int))
          obtain ⟨y269, hy269⟩ : ∃ y_ : List Int, y_ = (([1000000000] : List Int)) := ⟨_, rfl⟩
          replace H : ((wide_times.f k2 x6_2 y269).bind fun t272 => ((wide_sum.f t272 (([(t267) % 4294967296] : List Int))).bind fun t278 => ((wide_normal.f k2 t278).bind fun t281 => (wide_Parse.l0 k2 (x4_2.extract ((ji22) : Int).toNat x4_2.size) t260 t281)))) = some (r1, r2, r3) := by first | (rw [hy269]; with_reducible exact H) | (have H2_ := (Option.bind_some _ _).symm.trans H; rw [hy269]; with_reducible exact H2_) | (have H2_ := (Option.bind_some _ _).symm.trans H; with_reducible exact H2_) | with_reducible exact H | (rw [hy269]; exact H) | exact H
          have Ny269 := am_ hy269
          clear hy269
          replace H := Option.bind_eq_some_iff.mp H
          obtain ⟨t272, A280, H⟩ := H
          replace H : ((wide_sum.f t272 (([(t267) % 4294967296] : List Int))).bind fun t278 => ((wide_normal.f k2 t278).bind fun t281 => (wide_Parse.l0 k2 (x4_2.extract ((ji22) : Int).toNat x4_2.size) t260 t281))) = some (r1, r2, r3) := H
          have A28 := am_ A280
          clear A280
          obtain ⟨y275, hy275⟩ : ∃ y_ : List Int, y_ = (([(t267) % 4294967296] : List Int)) := ⟨_, rfl⟩
          replace H : ((wide_sum.f t272 y275).bind fun t278 => ((wide_normal.f k2 t278).bind fun t281 => (wide_Parse.l0 k2 (x4_2.extract ((ji22) : Int).toNat x4_2.size) t260 t281))) = some (r1, r2, r3) := by first | (rw [hy275]; with_reducible exact H) | (have H2_ := (Option.bind_some _ _).symm.trans H; rw [hy275]; with_reducible exact H2_) | (have H2_ := (Option.bind_some _ _).symm.trans H; with_reducible exact H2_) | with_reducible exact H | (rw [hy275]; exact H) | exact H
          have Ny275 := am_ hy275
          clear hy275
          replace H := Option.bind_eq_some_iff.mp H
          obtain ⟨t278, A290, H⟩ := H
          replace H : ((wide_normal.f k2 t278).bind fun t281 => (wide_Parse.l0 k2 (x4_2.extract ((ji22) : Int).toNat x4_2.size) t260 t281)) = some (r1, r2, r3) := H
          have A29 := am_ A290
          clear A290
          replace H := Option.bind_eq_some_iff.mp H
          obtain ⟨t281, A300, H⟩ := H
          replace H : (wide_Parse.l0 k2 (x4_2.extract ((ji22) : Int).toNat x4_2.size) t260 t281) = some (r1, r2, r3) := H
          have A30 := am_ A300
          clear A300
          have H' := am_ H
          clear H
          go_wp2_with (first | ((with_reducible refine gate_callee (f := 49) rfl ?_); refine goesL_ (some 52) rfl rfl Tryz.func49 (by kernel_rfl) rfl #[.string (x4_2.extract 0 ((ji22) : Int).toNat)] rfl (by (try simp only [List.map_toArray, List.map_cons, List.map_nil]); first | done | (simp only [hji22]; rfl) | rfl | (simp only [List.length_drop, List.length_take]; rfl)) ?_; (with_reducible refine (strconv_Atoi.calls (x4_2.extract 0 ((ji22) : Int).toNat) t267 t268 _ A25.out).mono ?_); rintro e w31 ⟨rfl, hb⟩; refine ⟨_, rfl, ?_⟩; replace HO_6 := am_ (Kd.V_below (zq1 HO_6.out) hb); replace BK258 := am_ (blk_below (g := gb258) (o := .cells #[.bool false, .slice none 0 0] 33 (0, 0)) (zq9 BK258.out) hb); replace HB := am_ (below_step zq44 hb); (try clear hb); (try simp only [errW_none, errW_some])) | ((with_reducible refine gate_dst (N := 59) rfl ?_); (try (refine gate_guard (by rfl) ?_; dsimp only)); refine Kd.R_lit (Kd.int .u32) _ 81 ?hg (N := 59) ?hd (xs := ([1000000000] : List Int)) (inner := [.int .u32 1000000000]) (ok := fun _ => True) (okp := fun _ => True) ?hr ?hp (fun _ hk => hk) trivial (Below.refl _ _) (Nat.le_refl _) (by simp) ?_; (case hd => rfl); (case hg => rfl); (case hr => exact zq0); (case hp => exact (Reps.one (show Kd.M (Kd.int .u32) _ _ _ 1000000000 [.int .u32 1000000000] from rfl) (Reps.none _ _))); intro v270 w32 ho33 hb hg_ hnew_; clear hg_ hnew_; (first | rw [← Ny269.out] at ho33 | (simp only [Int.reduceToNat] at ho33; rw [← Ny269.out] at ho33)); replace HO_6 := am_ (Kd.V_elder' (zq1 HO_6.out) (Kd.R_base ho33) hb); have HO271 := am_ (Kd.R_lower (Kd.R_newM (M := fun k_ => (w.heap.size ≤ k_)) ho33 (below_size zq44) (fun k_ h_ => h_)) (below_size zq44)); replace BK258 := am_ (blk_below (g := gb258) (o := .cells #[.bool false, .slice none 0 0] 33 (0, 0)) (zq9 BK258.out) hb); replace HB := am_ (below_step zq44 hb); clear hb ho33; obtain ⟨Ao34, co34, eo34⟩ := Kd.V_slice HO_6.out; subst eo34; obtain ⟨Ao35, co35, eo35⟩ := Kd.R_slice HO271.out; subst eo35) | ((with_reducible refine gate_callee (f := 52) rfl ?_); refine goesL_ (some 60) rfl rfl Tryz.func52 (by kernel_rfl) rfl #[.slice Ao34 x6_2.length co34, .slice Ao35 y269.length co35] rfl zq6 ?_; (with_reducible refine (wide_times.calls k2 _ _ x6_2 _ _ y269 t272 _ ?side1 ?side2 ?side3 ?side4 A28.out).mono ?_); (case side1 => exact (zq31 HO_6.out)); (case side2 => exact (Kd.V_reads' HO_6.out).2.1); (case side3 => exact (zq45 HO271.out)); (case side4 => exact (Kd.R_reads' HO271.out).2.1); rintro e w36 ⟨v273, rfl, ho0, hb⟩; refine ⟨_, rfl, ?_⟩; have n0_ := am_ (Kd.V_elder' (zq1 HO_6.out) (Kd.R_base ho0) hb); have n1_ := am_ (Kd.R_elder' (zq7 HO271.out) (Kd.R_base ho0) hb); have n2_ := am_ (Kd.R_lower (Kd.R_new' (Kd.R_newM (M := fun k_ => (w.heap.size ≤ k_)) ho0 (below_size zq44) (fun k_ h_ => h_)) (Kd.R_lt (zq7 HO271.out))) (below_size zq44)); have n3_ := am_ (blk_below (g := gb258) (o := .cells #[.bool false, .slice none 0 0] 33 (0, 0)) (zq9 BK258.out) hb); have n4_ := am_ (below_step zq44 hb); clear HO_6 HO271 BK258 HB; have HO_6 := n0_; have HO271 := n1_; have HO274 := n2_; have BK258 := n3_; have HB := n4_; clear n0_ n1_ n2_ n3_ n4_; (try clear hb); (try clear ho0)) | ((with_reducible refine gate_dst (N := 63) rfl ?_); (try (refine gate_guard (by rfl) ?_; dsimp only)); refine Kd.R_lit (Kd.int .u32) _ 81 ?hg (N := 63) ?hd (xs := ([(t267) % 4294967296] : List Int)) (inner := [.int .u32 ((t267) % 4294967296)]) (ok := fun _ => True) (okp := fun _ => True) ?hr ?hp (fun _ hk => hk) trivial (Below.refl _ _) (Nat.le_refl _) (by simp) ?_; (case hd => rfl); (case hg => rfl); (case hr => exact zq0); (case hp => exact (Reps.one (show Kd.M (Kd.int .u32) _ _ _ ((t267) % 4294967296) [.int .u32 ((t267) % 4294967296)] from rfl) (Reps.none _ _))); intro v276 w37 ho38 hb hg_ hnew_; clear hg_ hnew_; (first | rw [← Ny275.out] at ho38 | (simp only [Int.reduceToNat] at ho38; rw [← Ny275.out] at ho38)); have n0_ := am_ (Kd.V_elder' (zq1 HO_6.out) (Kd.R_base ho38) hb); have n1_ := am_ (Kd.R_elder' (zq7 HO271.out) (Kd.R_base ho38) hb); have n2_ := am_ (Kd.R_elder' (zq7 HO274.out) (Kd.R_base ho38) hb); have n3_ := am_ (Kd.R_lower (Kd.R_new' (Kd.R_new' (Kd.R_newM (M := fun k_ => (w.heap.size ≤ k_)) ho38 (below_size zq44) (fun k_ h_ => h_)) (Kd.R_lt (zq7 HO271.out))) (Kd.R_lt (zq7 HO274.out))) (below_size zq44)); have n4_ := am_ (blk_below (g := gb258) (o := .cells #[.bool false, .slice none 0 0] 33 (0, 0)) (zq9 BK258.out) hb); have n5_ := am_ (below_step zq44 hb); clear HO_6 HO271 HO274 BK258 HB; have HO_6 := n0_; have HO271 := n1_; have HO274 := n2_; have HO277 := n3_; have BK258 := n4_; have HB := n5_; clear n0_ n1_ n2_ n3_ n4_ n5_; clear hb ho38; obtain ⟨Ao39, co39, eo39⟩ := Kd.R_slice HO274.out; subst eo39; obtain ⟨Ao40, co40, eo40⟩ := Kd.R_slice HO277.out; subst eo40) | ((with_reducible refine gate_callee (f := 51) rfl ?_); refine goesL_ (some 64) rfl rfl Tryz.func51 (by kernel_rfl) rfl #[.slice Ao39 t272.length co39, .slice Ao40 y275.length co40] rfl zq6 ?_; (with_reducible refine (wide_sum.calls _ _ t272 _ _ y275 t278 _ ?side1 ?side2 ?side3 ?side4 A29.out).mono ?_); (case side1 => exact (zq45 HO274.out)); (case side2 => exact (Kd.R_reads' HO274.out).2.1); (case side3 => exact (zq45 HO277.out)); (case side4 => exact (Kd.R_reads' HO277.out).2.1); rintro e w41 ⟨v279, rfl, ho0, hb⟩; refine ⟨_, rfl, ?_⟩; have n0_ := am_ (Kd.V_elder' (zq1 HO_6.out) (Kd.R_base ho0) hb); have n1_ := am_ (Kd.R_elder' (zq7 HO271.out) (Kd.R_base ho0) hb); have n2_ := am_ (Kd.R_elder' (zq7 HO274.out) (Kd.R_base ho0) hb); have n3_ := am_ (Kd.R_elder' (zq7 HO277.out) (Kd.R_base ho0) hb); have n4_ := am_ (Kd.R_lower (Kd.R_new' (Kd.R_new' (Kd.R_new' (Kd.R_newM (M := fun k_ => (w.heap.size ≤ k_)) ho0 (below_size zq44) (fun k_ h_ => h_)) (Kd.R_lt (zq7 HO271.out))) (Kd.R_lt (zq7 HO274.out))) (Kd.R_lt (zq7 HO277.out))) (below_size zq44)); have n5_ := am_ (blk_below (g := gb258) (o := .cells #[.bool false, .slice none 0 0] 33 (0, 0)) (zq9 BK258.out) hb); have n6_ := am_ (below_step zq44 hb); clear HO_6 HO271 HO274 HO277 BK258 HB; have HO_6 := n0_; have HO271 := n1_; have HO274 := n2_; have HO277 := n3_; have HO280 := n4_; have BK258 := n5_; have HB := n6_; clear n0_ n1_ n2_ n3_ n4_ n5_ n6_; (try clear hb); (try clear ho0); obtain ⟨Ao42, co42, eo42⟩ := Kd.R_slice HO280.out; subst eo42) | ((with_reducible refine gate_callee (f := 50) rfl ?_); refine goesL_ (some 65) rfl rfl Tryz.func50 (by kernel_rfl) rfl #[.slice Ao42 t278.length co42] rfl zq6 ?_; (with_reducible refine (wide_normal.calls k2 (fun k_ => some k_ = (.slice Ao42 t278.length co42 : Value).ownBlock) _ _ t278 t281 _ ?side1 A30.out).mono ?_); (case side1 => exact Kd.R_V (Kd.R_tight rfl (Kd.R_types (HO280.out) BK258.out (by decide)))); rintro e w43 ⟨v282, rfl, ho0, hb⟩; refine ⟨_, rfl, ?_⟩; have n0_ := am_ (Kd.V_below (zq1 HO_6.out) hb); have n1_ := am_ (Kd.R_below (zq7 HO271.out) hb); have n2_ := am_ (Kd.R_below (zq7 HO274.out) hb); have n3_ := am_ (Kd.R_below (zq7 HO277.out) hb); have n4_ := am_ (Kd.R_below (zq7 HO280.out) hb); have n5_ := am_ (Kd.V_lower (Kd.V_mono (ok' := fun k_ => (w.heap.size ≤ k_) ∧ some k_ ≠ (.slice Ao35 y269.length co35 : Value).ownBlock ∧ some k_ ≠ (.slice Ao39 t272.length co39 : Value).ownBlock ∧ some k_ ≠ (.slice Ao40 y275.length co40 : Value).ownBlock ∧ k_ ≠ gb258) ho0 (fun k_ hk_ => ⟨Or.elim hk_ (fun hs_ => ((Kd.R_types (HO280.out) BK258.out (by decide)).1 k_ hs_.symm).1.1.1.1.1) (fun hn_ => (Nat.le_trans (below_size zq44) hn_)), Or.elim hk_ (fun hs_ => ((Kd.R_types (HO280.out) BK258.out (by decide)).1 k_ hs_.symm).1.1.1.2) (fun hn_ => (Kd.fresh' (Kd.R_lt (zq7 HO271.out)) k_ hn_)), Or.elim hk_ (fun hs_ => ((Kd.R_types (HO280.out) BK258.out (by decide)).1 k_ hs_.symm).1.1.2) (fun hn_ => (Kd.fresh' (Kd.R_lt (zq7 HO274.out)) k_ hn_)), Or.elim hk_ (fun hs_ => ((Kd.R_types (HO280.out) BK258.out (by decide)).1 k_ hs_.symm).1.2) (fun hn_ => (Kd.fresh' (Kd.R_lt (zq7 HO277.out)) k_ hn_)), Or.elim hk_ (fun hs_ => ((Kd.R_types (HO280.out) BK258.out (by decide)).1 k_ hs_.symm).2) (fun hn_ => (Kd.freshB (g := gb258) (o := .cells #[.bool false, .slice none 0 0] 33 (0, 0)) (zq9 BK258.out) k_ hn_))⟩)) (below_size zq44)); have n6_ := am_ (blk_below (g := gb258) (o := .cells #[.bool false, .slice none 0 0] 33 (0, 0)) (zq9 BK258.out) hb); have n7_ := am_ (below_step zq44 hb); clear HO_6 HO271 HO274 HO277 HO280 BK258 HB; have HO_6 := n0_; have HO271 := n1_; have HO274 := n2_; have HO277 := n3_; have HO280 := n4_; have HO283 := n5_; have BK258 := n6_; have HB := n7_; clear n0_ n1_ n2_ n3_ n4_ n5_ n6_ n7_; (try clear hb); (try clear ho0)))
          go_roundg k2
          case measure => have := HJ5.out; have := HK2.out; omega
          case rel => exact ⟨(x4_2.extract ((ji22) : Int).toNat x4_2.size), (t281), (by first | rfl | (simp; done) | (simp only [← hji22] <;> (first | rfl | simp)) | (simp [*]; done)), H', ⟨by have := HJ5.out; have := HK2.out; omega⟩, ⟨by (with_reducible repeat (first | apply Kd.V_alloc | apply Kd.V_drewN | apply Kd.V_drew)); exact Kd.V_mono HO283.out (fun _ hk => ⟨hk.1, hk.2.2.2.2⟩)⟩, ⟨by (with_reducible repeat (first | refine blk_drewN ?_ _ | refine blk_drew ?_ | refine blk_alloc ?_ _)); exact BK258.out⟩, ⟨by repeat (first | (with_reducible first | exact HB.out | apply below_alloc | apply pw_below_drewN | apply below_drew1 | refine below_set ?_ GE258.out) | exact HB.out)⟩⟩
         ·rw [if_neg c24] at H
          exact absurd H (by simp)
        ·rw [if_neg c23] at H
         exact absurd H (by simp)
       ·rw [if_neg c21] at H
        have c21b0 : decide (0 < (x4_2.size : Int)) = false := decide_eq_false c21
        have c21b1 : decide (0 < x4_2.size) = false := decide_eq_false (by omega)
        clear c21
        replace H := Option.bind_eq_some_iff.mp H
        obtain ⟨⟨t262, t263, t266⟩, A440, H⟩ := H
        replace H : (some (t262, t263, t266)) = some (r1, r2, r3) := H
        have A44 := am_ A440
        clear A440
        simp only [Option.some.injEq, Prod.mk.injEq] at H
        obtain ⟨rfl, rfl, rfl⟩ := H
        obtain ⟨Ao45, co45, eo45⟩ := Kd.V_slice HO_6.out
        subst eo45
        go_wp2_with (first | ((with_reducible refine gate_callee (f := 53) rfl ?_); refine goesL_ (some 68) rfl rfl Tryz.func53 (by kernel_rfl) rfl #[.bool t260, .slice Ao45 x6_2.length co45] rfl zq6 ?_; (with_reducible refine (wide_signed.calls k2 t260 (fun k_ => ((w.heap.size ≤ k_) ∧ k_ ≠ gb258)) _ _ x6_2 t262 t263 t266 _ ?side1 A44.out).mono ?_); (case side1 => exact HO_6.out); rintro e w46 ⟨v264, rfl, ho0, hb⟩; refine ⟨_, rfl, ?_⟩; have HO265 := am_ (Kd.V_lower (Kd.V_mono (ok' := fun k_ => (w.heap.size ≤ k_) ∧ k_ ≠ gb258) ho0 (fun k_ hk_ => ⟨Or.elim hk_ (fun hs_ => hs_.1) (fun hn_ => (Nat.le_trans (below_size zq44) hn_)), Or.elim hk_ (fun hs_ => hs_.2) (fun hn_ => (Kd.freshB (g := gb258) (o := .cells #[.bool false, .slice none 0 0] 33 (0, 0)) (zq9 BK258.out) k_ hn_))⟩)) (below_size zq44)); replace BK258 := am_ (blk_below (g := gb258) (o := .cells #[.bool false, .slice none 0 0] 33 (0, 0)) (zq9 BK258.out) hb); replace HB := am_ (below_step zq44 hb); (try clear hb); (try clear ho0); have hcz47_0 : w46.cell? ⟨gb258, 0, none⟩ = some (.bool false) := (blk_cell BK258.out 0).trans rfl; have hcz47_1 : w46.cell? ⟨gb258, 1, none⟩ = some (.slice none 0 0) := (blk_cell BK258.out 1).trans rfl; have hfz47_0 := blk_frozen BK258.out 0; have hfz47_1 := blk_frozen BK258.out 1; obtain ⟨Ao48, co48, eo48⟩ := Kd.V_slice HO265.out; subst eo48))
        refine bodyPost_ret (results_ct rfl _ _ gb258 33 #[.bool t262, .slice Ao48 t263.length co48] (0, 0) _ rfl (by (with_reducible repeat (first | refine blk_drewN ?_ _ | refine blk_drew ?_ | refine blk_alloc ?_ _)); refine blk_put (cs := #[.bool t262, .slice none 0 0]) ?_ 1 _ rfl; (with_reducible repeat (first | refine blk_drewN ?_ _ | refine blk_drew ?_ | refine blk_alloc ?_ _)); refine blk_put (cs := #[.bool false, .slice none 0 0]) ?_ 0 _ rfl; (with_reducible repeat (first | refine blk_drewN ?_ _ | refine blk_drew ?_ | refine blk_alloc ?_ _)); exact BK258.out) Tryz.underlying33 rfl (by kernel_rfl)) rfl ?_
        exact ⟨_, by first | rfl | (simp [errW_none, errW_some] <;> rfl) | (simp [*, errW_none, errW_some] <;> rfl), by (with_reducible repeat (first | apply Kd.V_alloc | apply Kd.V_drewN | apply Kd.V_drew)); exact Kd.V_mono (Kd.V_far (p := ⟨gb258, 1, none⟩) (Kd.V_far (p := ⟨gb258, 0, none⟩) (Kd.V_mono HO265.out (fun k_ hk => (⟨hk, hk.2⟩ : _ ∧ k_ ≠ gb258))) (fun _ hk => hk.2) (.bool t262)) (fun _ hk => hk.2) (.slice Ao48 t263.length co48)) (fun _ hk => hk.1.1), by repeat (first | (with_reducible first | exact HB.out | apply below_alloc | apply pw_below_drewN | apply below_drew1 | refine below_set ?_ GE258.out) | exact HB.out)⟩

/-! ### wide_From: function 21 -/
def wide_From.f (k : Nat) (a0 : Int) : Option (Bool × List Int) := if a0 < 0 then ((wide_signed.f k true (([(IntKind.u64.wrap (-(IntKind.u64.wrap (a0)))) % 4294967296, ((IntKind.u64.wrap (-(IntKind.u64.wrap (a0)))) / 4294967296) % 4294967296] : List Int))).bind fun bt288 => (some (bt288.1, bt288.2.1))) else ((wide_signed.f k false (([(IntKind.u64.wrap (a0)) % 4294967296, ((IntKind.u64.wrap (a0)) / 4294967296) % 4294967296] : List Int))).bind fun bt297 => (some (bt297.1, bt297.2.1)))
theorem wide_From.mono : ∀ a0 k, LeO (wide_From.f k a0) (wide_From.f (k + 1) a0) := by
 intro a0 k
 unfold wide_From.f
 repeat' first
   | (with_reducible exact wide_signed.mono _ _ _)
   | (with_reducible exact LeO.refl _)
   | (with_reducible exact LeO.none _)
   | (with_reducible refine LeO.ite ?_ ?_)
   | (with_reducible refine LeO.bind ?_ (fun _ => ?_))
   | exact wide_signed.mono _ _ _
   | exact LeO.none _
   | refine LeO.ite ?_ ?_
   | refine LeO.bind ?_ (fun _ => ?_)
set_option maxHeartbeats 8000000 in
set_option maxRecDepth 100000 in
theorem wide_From.calls (k : Nat) (a0 : Int) (r1 : Bool) (r2 : List Int) (w : World) (h : wide_From.f k a0 = some (r1, r2)) :
  Calls Tryz.prog 21 #[.int .i64 a0] w fun e w' => ∃ v1_ : Value, e = .returned (.agg #[.bool r1, v1_]) ∧ Kd.V (Kd.int .u32) 81 w' w.heap.size (fun k_ => (w.heap.size ≤ k_)) v1_ r2 ∧ Below w.heap.size w w' := by
 have hu33 := Tryz.underlying33
 have HB := am_ (Below.refl w.heap.size w)
 have H : (if a0 < 0 then ((wide_signed.f k true (([(IntKind.u64.wrap (-(IntKind.u64.wrap (a0)))) % 4294967296, ((IntKind.u64.wrap (-(IntKind.u64.wrap (a0)))) / 4294967296) % 4294967296] : List Int))).bind fun bt288 => (some (bt288.1, bt288.2.1))) else ((wide_signed.f k false (([(IntKind.u64.wrap (a0)) % 4294967296, ((IntKind.u64.wrap (a0)) / 4294967296) % 4294967296] : List Int))).bind fun bt297 => (some (bt297.1, bt297.2.1)))) = some (r1, r2) := h
 clear h
 by_cases c2 : a0 < 0
 ·rw [if_pos c2] at H
  have c2b0 : decide (a0 < 0) = true := decide_eq_true c2
  clear c2
  obtain ⟨y285, hy285⟩ : ∃ y_ : List Int, y_ = (([(IntKind.u64.wrap (-(IntKind.u64.wrap (a0)))) % 4294967296, ((IntKind.u64.wrap (-(IntKind.u64.wrap (a0)))) / 4294967296) % 4294967296] : List Int)) := ⟨_, rfl⟩
  replace H : ((wide_signed.f k true y285).bind fun bt288 => (some (bt288.1, bt288.2.1))) = some (r1, r2) := by first | (rw [hy285]; with_reducible exact H) | (have H2_ := (Option.bind_some _ _).symm.trans H; rw [hy285]; with_reducible exact H2_) | (have H2_ := (Option.bind_some _ _).symm.trans H; with_reducible exact H2_) | with_reducible exact H | (rw [hy285]; exact H) | exact H
  have Ny285 := am_ hy285
  clear hy285
  replace H := Option.bind_eq_some_iff.mp H
  obtain ⟨⟨t288, t289, t292⟩, A30, H⟩ := H
  replace H : (some (t288, t289)) = some (r1, r2) := H
  have A3 := am_ A30
  clear A30
  simp only [Option.some.injEq, Prod.mk.injEq] at H
  obtain ⟨rfl, rfl⟩ := H
  go_enter Tryz.func21, Tryz.ntmps21
  go_wp2_with (first | ((with_reducible refine gate_dst (N := 2) rfl ?_); refine box_event ?hg (N := 2) ?hd (cs := #[.bool false, .slice none 0 0]) (t := 33) ?hr ?_; (case hd => rfl); (case hg => rfl); (case hr => exact zq0); intro gb284 hg w4 hbox hb; have n0_ := am_ (below_step zq2 hb); have n1_ := am_ (hbox); have n2_ := am_ ((by rw [hg]; exact (below_size zq2) : w.heap.size ≤ gb284)); clear HB; have HB := n0_; have BK284 := n1_; have GE284 := n2_; clear n0_ n1_ n2_; clear hb hbox hg) | ((with_reducible refine gate_dst (N := 20) rfl ?_); refine Kd.R_lit (Kd.int .u32) _ 81 ?hg (N := 20) ?hd (xs := ([(IntKind.u64.wrap (-(IntKind.u64.wrap (a0)))) % 4294967296, ((IntKind.u64.wrap (-(IntKind.u64.wrap (a0)))) / 4294967296) % 4294967296] : List Int)) (inner := [.int .u32 ((IntKind.u64.wrap (-(IntKind.u64.wrap (a0)))) % 4294967296), .int .u32 (((IntKind.u64.wrap (-(IntKind.u64.wrap (a0)))) / 4294967296) % 4294967296)]) (ok := fun _ => True) (okp := fun _ => True) ?hr ?hp (fun _ hk => hk) trivial (Below.refl _ _) (Nat.le_refl _) (by simp) ?_; (case hd => rfl); (case hg => rfl); (case hr => exact zq0); (case hp => exact (Reps.one (show Kd.M (Kd.int .u32) _ _ _ ((IntKind.u64.wrap (-(IntKind.u64.wrap (a0)))) % 4294967296) [.int .u32 ((IntKind.u64.wrap (-(IntKind.u64.wrap (a0)))) % 4294967296)] from rfl) (Reps.one (show Kd.M (Kd.int .u32) _ _ _ (((IntKind.u64.wrap (-(IntKind.u64.wrap (a0)))) / 4294967296) % 4294967296) [.int .u32 (((IntKind.u64.wrap (-(IntKind.u64.wrap (a0)))) / 4294967296) % 4294967296)] from rfl) (Reps.none _ _)))); intro v286 w5 ho6 hb hg_ hnew_; clear hg_ hnew_; (first | rw [← Ny285.out] at ho6 | (simp only [Int.reduceToNat] at ho6; rw [← Ny285.out] at ho6)); have HO287 := am_ (Kd.R_lower (Kd.R_newM (M := fun k_ => (w.heap.size ≤ k_)) ho6 (below_size zq46) (fun k_ h_ => h_)) (below_size zq46)); replace BK284 := am_ (blk_below (g := gb284) (o := .cells #[.bool false, .slice none 0 0] 33 (0, 0)) (zq9 BK284.out) hb); replace HB := am_ (below_step zq46 hb); clear hb ho6; obtain ⟨Ao7, co7, eo7⟩ := Kd.R_slice HO287.out; subst eo7) | ((with_reducible refine gate_callee (f := 53) rfl ?_); refine goesL_ (some 21) rfl rfl Tryz.func53 (by kernel_rfl) rfl #[.bool true, .slice Ao7 y285.length co7] rfl zq6 ?_; (with_reducible refine (wide_signed.calls k true (fun k_ => some k_ = (.slice Ao7 y285.length co7 : Value).ownBlock) _ _ y285 t288 t289 t292 _ ?side1 A3.out).mono ?_); (case side1 => exact Kd.R_V (Kd.R_tight rfl (Kd.R_types (HO287.out) BK284.out (by decide)))); rintro e w8 ⟨v290, rfl, ho0, hb⟩; refine ⟨_, rfl, ?_⟩; have n0_ := am_ (Kd.R_below (zq7 HO287.out) hb); have n1_ := am_ (Kd.V_lower (Kd.V_mono (ok' := fun k_ => (w.heap.size ≤ k_) ∧ k_ ≠ gb284) ho0 (fun k_ hk_ => ⟨Or.elim hk_ (fun hs_ => ((Kd.R_types (HO287.out) BK284.out (by decide)).1 k_ hs_.symm).1.1) (fun hn_ => (Nat.le_trans (below_size zq46) hn_)), Or.elim hk_ (fun hs_ => ((Kd.R_types (HO287.out) BK284.out (by decide)).1 k_ hs_.symm).2) (fun hn_ => (Kd.freshB (g := gb284) (o := .cells #[.bool false, .slice none 0 0] 33 (0, 0)) (zq9 BK284.out) k_ hn_))⟩)) (below_size zq46)); have n2_ := am_ (blk_below (g := gb284) (o := .cells #[.bool false, .slice none 0 0] 33 (0, 0)) (zq9 BK284.out) hb); have n3_ := am_ (below_step zq46 hb); clear HO287 BK284 HB; have HO287 := n0_; have HO291 := n1_; have BK284 := n2_; have HB := n3_; clear n0_ n1_ n2_ n3_; (try clear hb); (try clear ho0)) | ((with_reducible refine gate_dst (N := 4) rfl ?_); refine box_event ?hg (N := 4) ?hd (cs := #[.bool false, .slice none 0 0]) (t := 33) ?hr ?_; (case hd => rfl); (case hg => rfl); (case hr => exact zq0); intro gb293 hg w9 hbox hb; have n0_ := am_ (Kd.V_below (Kd.V_elderB (zq1 HO291.out) gb293 (Nat.le_of_eq hg.symm)) hb); have n1_ := am_ (blk_below (g := gb284) (o := .cells #[.bool false, .slice none 0 0] 33 (0, 0)) (zq9 BK284.out) hb); have n2_ := am_ (below_step zq46 hb); have n3_ := am_ (hbox); have n4_ := am_ ((by rw [hg]; exact (below_size zq46) : w.heap.size ≤ gb293)); have n5_ := am_ ((by rw [hg]; exact Nat.ne_of_lt (blk_lt (g := gb284) (zq9 BK284.out)) : gb284 ≠ gb293)); have n6_ := am_ ((by rw [hg]; exact Nat.ne_of_gt (blk_lt (g := gb284) (zq9 BK284.out)) : gb293 ≠ gb284)); clear HO291 BK284 HB; have HO291 := n0_; have BK284 := n1_; have HB := n2_; have BK293 := n3_; have GE293 := n4_; have NB284_293 := n5_; have NB293_284 := n6_; clear n0_ n1_ n2_ n3_ n4_ n5_ n6_; clear hb hbox hg; have hnb10 := NB293_284.out; have hnc10 := NB284_293.out; have hcz11_0 : w9.cell? ⟨gb293, 0, none⟩ = some (.bool false) := (blk_cell BK293.out 0).trans rfl; have hcz11_1 : w9.cell? ⟨gb293, 1, none⟩ = some (.slice none 0 0) := (blk_cell BK293.out 1).trans rfl; have hfz11_0 := blk_frozen BK293.out 0; have hfz11_1 := blk_frozen BK293.out 1; obtain ⟨Ao12, co12, eo12⟩ := Kd.V_slice HO291.out; subst eo12; have hcz13_0 : w9.cell? ⟨gb284, 0, none⟩ = some (.bool false) := (blk_cell BK284.out 0).trans rfl; have hcz13_1 : w9.cell? ⟨gb284, 1, none⟩ = some (.slice none 0 0) := (blk_cell BK284.out 1).trans rfl; have hfz13_0 := blk_frozen BK284.out 0; have hfz13_1 := blk_frozen BK284.out 1))
  refine bodyPost_ret (results_cell_row rfl _ _ gb284 33 #[.bool t288, .slice Ao12 t289.length co12] (0, 0) _ rfl (by (with_reducible repeat (first | refine blk_drewN ?_ _ | refine blk_drew ?_ | refine blk_alloc ?_ _)); refine blk_put (cs := #[.bool t288, .slice none 0 0]) ?_ 1 _ rfl; (with_reducible repeat (first | refine blk_drewN ?_ _ | refine blk_drew ?_ | refine blk_alloc ?_ _)); refine blk_put (cs := #[.bool false, .slice none 0 0]) ?_ 0 _ rfl; (with_reducible repeat (first | refine blk_drewN ?_ _ | refine blk_drew ?_ | refine blk_alloc ?_ _)); refine blk_far ?_ NB284_293.out _; (with_reducible repeat (first | refine blk_drewN ?_ _ | refine blk_drew ?_ | refine blk_alloc ?_ _)); refine blk_far ?_ NB284_293.out _; (with_reducible repeat (first | refine blk_drewN ?_ _ | refine blk_drew ?_ | refine blk_alloc ?_ _)); exact BK284.out) Tryz.underlying33 rfl (by kernel_rfl)) rfl ?_
  exact ⟨_, by first | rfl | (simp [errW_none, errW_some] <;> rfl) | (simp [*, errW_none, errW_some] <;> rfl), by (with_reducible repeat (first | apply Kd.V_alloc | apply Kd.V_drewN | apply Kd.V_drew)); exact Kd.V_mono (Kd.V_far (p := ⟨gb284, 1, none⟩) (Kd.V_far (p := ⟨gb284, 0, none⟩) (Kd.V_far (p := ⟨gb293, 1, none⟩) (Kd.V_far (p := ⟨gb293, 0, none⟩) (Kd.V_mono (Kd.V_mono HO291.out (fun k_ hk => (⟨hk, hk.2⟩ : _ ∧ k_ ≠ gb293))) (fun k_ hk => (⟨hk, hk.1.1.2⟩ : _ ∧ k_ ≠ gb284))) (fun _ hk => hk.1.2) (.bool t288)) (fun _ hk => hk.1.2) (.slice Ao12 t289.length co12)) (fun _ hk => hk.2) (.bool t288)) (fun _ hk => hk.2) (.slice Ao12 t289.length co12)) (fun _ hk => hk.1.1.1.1), by repeat (first | (with_reducible first | exact HB.out | apply below_alloc | apply pw_below_drewN | apply below_drew1 | refine below_set ?_ GE284.out | refine below_set ?_ GE293.out) | exact HB.out)⟩
 ·rw [if_neg c2] at H
  have c2b0 : decide (a0 < 0) = false := decide_eq_false c2
  clear c2
  obtain ⟨y294, hy294⟩ : ∃ y_ : List Int, y_ = (([(IntKind.u64.wrap (a0)) % 4294967296, ((IntKind.u64.wrap (a0)) / 4294967296) % 4294967296] : List Int)) := ⟨_, rfl⟩
  replace H : ((wide_signed.f k false y294).bind fun bt297 => (some (bt297.1, bt297.2.1))) = some (r1, r2) := by first | (rw [hy294]; with_reducible exact H) | (have H2_ := (Option.bind_some _ _).symm.trans H; rw [hy294]; with_reducible exact H2_) | (have H2_ := (Option.bind_some _ _).symm.trans H; with_reducible exact H2_) | with_reducible exact H | (rw [hy294]; exact H) | exact H
  have Ny294 := am_ hy294
  clear hy294
  replace H := Option.bind_eq_some_iff.mp H
  obtain ⟨⟨t297, t298, t301⟩, A140, H⟩ := H
  replace H : (some (t297, t298)) = some (r1, r2) := H
  have A14 := am_ A140
  clear A140
  simp only [Option.some.injEq, Prod.mk.injEq] at H
  obtain ⟨rfl, rfl⟩ := H
  go_enter Tryz.func21, Tryz.ntmps21
  go_wp2_with (first | ((with_reducible refine gate_dst (N := 2) rfl ?_); refine box_event ?hg (N := 2) ?hd (cs := #[.bool false, .slice none 0 0]) (t := 33) ?hr ?_; (case hd => rfl); (case hg => rfl); (case hr => exact zq0); intro gb284 hg w15 hbox hb; have n0_ := am_ (below_step zq2 hb); have n1_ := am_ (hbox); have n2_ := am_ ((by rw [hg]; exact (below_size zq2) : w.heap.size ≤ gb284)); clear HB; have HB := n0_; have BK284 := n1_; have GE284 := n2_; clear n0_ n1_ n2_; clear hb hbox hg) | ((with_reducible refine gate_dst (N := 20) rfl ?_); refine Kd.R_lit (Kd.int .u32) _ 81 ?hg (N := 20) ?hd (xs := ([(IntKind.u64.wrap (a0)) % 4294967296, ((IntKind.u64.wrap (a0)) / 4294967296) % 4294967296] : List Int)) (inner := [.int .u32 ((IntKind.u64.wrap (a0)) % 4294967296), .int .u32 (((IntKind.u64.wrap (a0)) / 4294967296) % 4294967296)]) (ok := fun _ => True) (okp := fun _ => True) ?hr ?hp (fun _ hk => hk) trivial (Below.refl _ _) (Nat.le_refl _) (by simp) ?_; (case hd => rfl); (case hg => rfl); (case hr => exact zq0); (case hp => exact (Reps.one (show Kd.M (Kd.int .u32) _ _ _ ((IntKind.u64.wrap (a0)) % 4294967296) [.int .u32 ((IntKind.u64.wrap (a0)) % 4294967296)] from rfl) (Reps.one (show Kd.M (Kd.int .u32) _ _ _ (((IntKind.u64.wrap (a0)) / 4294967296) % 4294967296) [.int .u32 (((IntKind.u64.wrap (a0)) / 4294967296) % 4294967296)] from rfl) (Reps.none _ _)))); intro v295 w16 ho17 hb hg_ hnew_; clear hg_ hnew_; (first | rw [← Ny294.out] at ho17 | (simp only [Int.reduceToNat] at ho17; rw [← Ny294.out] at ho17)); have HO296 := am_ (Kd.R_lower (Kd.R_newM (M := fun k_ => (w.heap.size ≤ k_)) ho17 (below_size zq46) (fun k_ h_ => h_)) (below_size zq46)); replace BK284 := am_ (blk_below (g := gb284) (o := .cells #[.bool false, .slice none 0 0] 33 (0, 0)) (zq9 BK284.out) hb); replace HB := am_ (below_step zq46 hb); clear hb ho17; obtain ⟨Ao18, co18, eo18⟩ := Kd.R_slice HO296.out; subst eo18) | ((with_reducible refine gate_callee (f := 53) rfl ?_); refine goesL_ (some 21) rfl rfl Tryz.func53 (by kernel_rfl) rfl #[.bool false, .slice Ao18 y294.length co18] rfl zq6 ?_; (with_reducible refine (wide_signed.calls k false (fun k_ => some k_ = (.slice Ao18 y294.length co18 : Value).ownBlock) _ _ y294 t297 t298 t301 _ ?side1 A14.out).mono ?_); (case side1 => exact Kd.R_V (Kd.R_tight rfl (Kd.R_types (HO296.out) BK284.out (by decide)))); rintro e w19 ⟨v299, rfl, ho0, hb⟩; refine ⟨_, rfl, ?_⟩; have n0_ := am_ (Kd.R_below (zq7 HO296.out) hb); have n1_ := am_ (Kd.V_lower (Kd.V_mono (ok' := fun k_ => (w.heap.size ≤ k_) ∧ k_ ≠ gb284) ho0 (fun k_ hk_ => ⟨Or.elim hk_ (fun hs_ => ((Kd.R_types (HO296.out) BK284.out (by decide)).1 k_ hs_.symm).1.1) (fun hn_ => (Nat.le_trans (below_size zq46) hn_)), Or.elim hk_ (fun hs_ => ((Kd.R_types (HO296.out) BK284.out (by decide)).1 k_ hs_.symm).2) (fun hn_ => (Kd.freshB (g := gb284) (o := .cells #[.bool false, .slice none 0 0] 33 (0, 0)) (zq9 BK284.out) k_ hn_))⟩)) (below_size zq46)); have n2_ := am_ (blk_below (g := gb284) (o := .cells #[.bool false, .slice none 0 0] 33 (0, 0)) (zq9 BK284.out) hb); have n3_ := am_ (below_step zq46 hb); clear HO296 BK284 HB; have HO296 := n0_; have HO300 := n1_; have BK284 := n2_; have HB := n3_; clear n0_ n1_ n2_ n3_; (try clear hb); (try clear ho0)) | ((with_reducible refine gate_dst (N := 4) rfl ?_); refine box_event ?hg (N := 4) ?hd (cs := #[.bool false, .slice none 0 0]) (t := 33) ?hr ?_; (case hd => rfl); (case hg => rfl); (case hr => exact zq0); intro gb302 hg w20 hbox hb; have n0_ := am_ (Kd.V_below (Kd.V_elderB (zq1 HO300.out) gb302 (Nat.le_of_eq hg.symm)) hb); have n1_ := am_ (blk_below (g := gb284) (o := .cells #[.bool false, .slice none 0 0] 33 (0, 0)) (zq9 BK284.out) hb); have n2_ := am_ (below_step zq46 hb); have n3_ := am_ (hbox); have n4_ := am_ ((by rw [hg]; exact (below_size zq46) : w.heap.size ≤ gb302)); have n5_ := am_ ((by rw [hg]; exact Nat.ne_of_lt (blk_lt (g := gb284) (zq9 BK284.out)) : gb284 ≠ gb302)); have n6_ := am_ ((by rw [hg]; exact Nat.ne_of_gt (blk_lt (g := gb284) (zq9 BK284.out)) : gb302 ≠ gb284)); clear HO300 BK284 HB; have HO300 := n0_; have BK284 := n1_; have HB := n2_; have BK302 := n3_; have GE302 := n4_; have NB284_302 := n5_; have NB302_284 := n6_; clear n0_ n1_ n2_ n3_ n4_ n5_ n6_; clear hb hbox hg; have hnb21 := NB302_284.out; have hnc21 := NB284_302.out; have hcz22_0 : w20.cell? ⟨gb302, 0, none⟩ = some (.bool false) := (blk_cell BK302.out 0).trans rfl; have hcz22_1 : w20.cell? ⟨gb302, 1, none⟩ = some (.slice none 0 0) := (blk_cell BK302.out 1).trans rfl; have hfz22_0 := blk_frozen BK302.out 0; have hfz22_1 := blk_frozen BK302.out 1; obtain ⟨Ao23, co23, eo23⟩ := Kd.V_slice HO300.out; subst eo23; have hcz24_0 : w20.cell? ⟨gb284, 0, none⟩ = some (.bool false) := (blk_cell BK284.out 0).trans rfl; have hcz24_1 : w20.cell? ⟨gb284, 1, none⟩ = some (.slice none 0 0) := (blk_cell BK284.out 1).trans rfl; have hfz24_0 := blk_frozen BK284.out 0; have hfz24_1 := blk_frozen BK284.out 1))
  refine bodyPost_ret (results_cell_row rfl _ _ gb284 33 #[.bool t297, .slice Ao23 t298.length co23] (0, 0) _ rfl (by (with_reducible repeat (first | refine blk_drewN ?_ _ | refine blk_drew ?_ | refine blk_alloc ?_ _)); refine blk_put (cs := #[.bool t297, .slice none 0 0]) ?_ 1 _ rfl; (with_reducible repeat (first | refine blk_drewN ?_ _ | refine blk_drew ?_ | refine blk_alloc ?_ _)); refine blk_put (cs := #[.bool false, .slice none 0 0]) ?_ 0 _ rfl; (with_reducible repeat (first | refine blk_drewN ?_ _ | refine blk_drew ?_ | refine blk_alloc ?_ _)); refine blk_far ?_ NB284_302.out _; (with_reducible repeat (first | refine blk_drewN ?_ _ | refine blk_drew ?_ | refine blk_alloc ?_ _)); refine blk_far ?_ NB284_302.out _; (with_reducible repeat (first | refine blk_drewN ?_ _ | refine blk_drew ?_ | refine blk_alloc ?_ _)); exact BK284.out) Tryz.underlying33 rfl (by kernel_rfl)) rfl ?_
  exact ⟨_, by first | rfl | (simp [errW_none, errW_some] <;> rfl) | (simp [*, errW_none, errW_some] <;> rfl), by (with_reducible repeat (first | apply Kd.V_alloc | apply Kd.V_drewN | apply Kd.V_drew)); exact Kd.V_mono (Kd.V_far (p := ⟨gb284, 1, none⟩) (Kd.V_far (p := ⟨gb284, 0, none⟩) (Kd.V_far (p := ⟨gb302, 1, none⟩) (Kd.V_far (p := ⟨gb302, 0, none⟩) (Kd.V_mono (Kd.V_mono HO300.out (fun k_ hk => (⟨hk, hk.2⟩ : _ ∧ k_ ≠ gb302))) (fun k_ hk => (⟨hk, hk.1.1.2⟩ : _ ∧ k_ ≠ gb284))) (fun _ hk => hk.1.2) (.bool t297)) (fun _ hk => hk.1.2) (.slice Ao23 t298.length co23)) (fun _ hk => hk.2) (.bool t297)) (fun _ hk => hk.2) (.slice Ao23 t298.length co23)) (fun _ hk => hk.1.1.1.1), by repeat (first | (with_reducible first | exact HB.out | apply below_alloc | apply pw_below_drewN | apply below_drew1 | refine below_set ?_ GE284.out | refine below_set ?_ GE302.out) | exact HB.out)⟩

/-! ### wide_Int_Small: function 22 -/
def wide_Int_Small.l0 : Nat → Int → List Int → Int → Int → Bool → List Int → Option (Int × Bool)
 | 0, _, _, _, _, _, _ => none
 | k + 1, x4, x9, x10, x11, x304000, x304001 => if x11 < x10 then (if 0 ≤ x11 then (if x11 < (x9.length : Int) then (if x11 > 1 then (some (0, false)) else (if 0 ≤ (wrap64 (32 * x11)) then (wide_Int_Small.l0 k (Go.bits .or .u64 x4 (shl .u64 (IntKind.u64.wrap (rd x9 x11)) (wrap64 (32 * x11)))) x9 x10 (wrap64 (x11 + 1)) x304000 x304001) else (none))) else (none)) else (none)) else (if x304000 = true then (if x4 = 0 then (some (wrap64 (-(wrap64 (x4))), true)) else (if (!((decide ((wrap64 (-(wrap64 (x4)))) < 0)) == x304000)) = true then (some (0, false)) else (some (wrap64 (-(wrap64 (x4))), true)))) else (if x4 = 0 then (some (wrap64 (x4), true)) else (if (!((decide ((wrap64 (x4)) < 0)) == x304000)) = true then (some (0, false)) else (some (wrap64 (x4), true)))))
def wide_Int_Small.f (k : Nat) (a0_0 : Bool) (l0_1 : List Int) : Option (Int × Bool) := wide_Int_Small.l0 k 0 l0_1 (l0_1.length : Int) 0 a0_0 l0_1
theorem wide_Int_Small.mono_l : ∀ k, (∀ y0 y1 y2 y3 y4 y5, LeO (wide_Int_Small.l0 k y0 y1 y2 y3 y4 y5) (wide_Int_Small.l0 (k + 1) y0 y1 y2 y3 y4 y5))
 | 0 => fun _ _ _ _ _ _ r h => by simp [wide_Int_Small.l0] at h
 | k + 1 => by
  have ih0 := wide_Int_Small.mono_l k
  ·intro y0 y1 y2 y3 y4 y5
   unfold wide_Int_Small.l0
   repeat' first
   | (with_reducible exact ih0 _ _ _ _ _ _)
   | (with_reducible exact LeO.refl _)
   | (with_reducible exact LeO.none _)
   | (with_reducible refine LeO.ite ?_ ?_)
   | (with_reducible refine LeO.bind ?_ (fun _ => ?_))
   | exact ih0 _ _ _ _ _ _
   | exact LeO.none _
   | refine LeO.ite ?_ ?_
   | refine LeO.bind ?_ (fun _ => ?_)
theorem wide_Int_Small.mono : ∀ a0 a1 k, LeO (wide_Int_Small.f k a0 a1) (wide_Int_Small.f (k + 1) a0 a1) := by
 intro a0 a1 k
 have ih0 := wide_Int_Small.mono_l k
 unfold wide_Int_Small.f
 repeat' first
   | (with_reducible exact ih0 _ _ _ _ _ _)
   | (with_reducible exact LeO.refl _)
   | (with_reducible exact LeO.none _)
   | (with_reducible refine LeO.ite ?_ ?_)
   | (with_reducible refine LeO.bind ?_ (fun _ => ?_))
   | exact ih0 _ _ _ _ _ _
   | exact LeO.none _
   | refine LeO.ite ?_ ?_
   | refine LeO.bind ?_ (fun _ => ?_)
set_option maxHeartbeats 8000000 in
set_option maxRecDepth 100000 in
theorem wide_Int_Small.calls (k : Nat) (a0_0 : Bool) (A0_1 : Option Addr) (c0_1 : Nat) (l0_1 : List Int) (r1 : Int) (r2 : Bool) (w : World) (hr0_1 : Kd.C (Kd.int .u32) w A0_1 l0_1.length l0_1) (hc0_1 : l0_1.length ≤ c0_1) (h : wide_Int_Small.f k a0_0 l0_1 = some (r1, r2)) :
  Calls Tryz.prog 22 #[.agg #[.bool a0_0, .slice A0_1 l0_1.length c0_1]] w fun e w' => e = .returned (.tuple #[.int .i64 r1, .bool r2]) ∧ Below w.heap.size w w' := by
 have hu33 := Tryz.underlying33
 have HR0_1 := am_ hr0_1
 have HC0_1 := am_ hc0_1
 clear hr0_1 hc0_1
 have HB := am_ (Below.refl w.heap.size w)
 have H : (wide_Int_Small.l0 k 0 l0_1 (l0_1.length : Int) 0 a0_0 l0_1) = some (r1, r2) := h
 clear h
 have H' := am_ H
 clear H
 go_enter Tryz.func22, Tryz.ntmps22
 go_wp2_with (first | ((with_reducible refine gate_dst (N := 1) rfl ?_); refine box_event ?hg (N := 1) ?hd (cs := #[.bool a0_0, .slice A0_1 l0_1.length c0_1]) (t := 33) ?hr ?_; (case hd => rfl); (case hg => rfl); (case hr => exact zq0); intro gb303 hg w2 hbox hb; have n0_ := am_ (below_step zq2 hb); have n1_ := am_ (hbox); have n2_ := am_ ((by rw [hg]; exact (below_size zq2) : w.heap.size ≤ gb303)); clear HB; have HB := n0_; have BK303 := n1_; have GE303 := n2_; clear n0_ n1_ n2_; clear hb hbox hg; have hcz3_0 : w2.cell? ⟨gb303, 0, none⟩ = some (.bool a0_0) := (blk_cell BK303.out 0).trans rfl; have hcz3_1 : w2.cell? ⟨gb303, 1, none⟩ = some (.slice A0_1 l0_1.length c0_1) := (blk_cell BK303.out 1).trans rfl; have hfz3_0 := blk_frozen BK303.out 0; have hfz3_1 := blk_frozen BK303.out 1))
 try simp only [Act.put, List.setIfInBounds_toArray, List.set_cons_zero, List.set_cons_succ]
 go_loopg [4, 11] k (fun kq v4 v11 w' => ∃ (x4_1 : Int) (x11_1 : Int), v4 = .int .u64 x4_1 ∧ v11 = .int .i64 x11_1 ∧ Aside0 (wide_Int_Small.l0 kq x4_1 l0_1 (l0_1.length : Int) x11_1 a0_0 l0_1 = some (r1, r2)) ∧ Aside0 (kq ≤ k) ∧ Aside0 (w'.heap[gb303]? = some (.cells #[.bool a0_0, (.slice A0_1 l0_1.length c0_1)] 33 (0, 0))) ∧ Aside0 (Below w.heap.size w w'))
 case atStart => exact ⟨(0), (0), zq5, zq5, H', ⟨Nat.le_refl _⟩, ⟨by (with_reducible repeat (first | refine blk_drewN ?_ _ | refine blk_drew ?_ | refine blk_alloc ?_ _)); exact BK303.out⟩, ⟨by repeat (first | (with_reducible first | exact HB.out | apply below_alloc | apply pw_below_drewN | apply below_drew1 | refine below_set ?_ GE303.out) | exact HB.out)⟩⟩
 case round =>
  clear H'
  try clear c2
  try clear p2
  try clear hcz3_0
  try clear hcz3_1
  try clear hfz3_0
  try clear hfz3_1
  obtain ⟨x4_1, x11_1, rfl, rfl, HA, HK1, BK303, HB⟩ := hrel
  cases gk with
  | zero => exact absurd HA.out (by simp [wide_Int_Small.l0])
  | succ k1 =>
   have H := HA.out
   clear HA
   simp only [wide_Int_Small.l0] at H
   by_cases c4 : x11_1 < (l0_1.length : Int)
   ·rw [if_pos c4] at H
    have c4b0 : decide (x11_1 < (l0_1.length : Int)) = true := decide_eq_true c4
    clear c4
    by_cases c5 : 0 ≤ x11_1
    ·rw [if_pos c5] at H
     have c5b0 : decide (0 ≤ x11_1) = true := decide_eq_true c5
     clear c5
     by_cases c6 : x11_1 < (l0_1.length : Int)
     ·rw [if_pos c6] at H
      have c6b0 : decide (x11_1 < (l0_1.length : Int)) = true := decide_eq_true c6
      clear c6
      by_cases c7 : x11_1 > 1
      ·rw [if_pos c7] at H
       have c7b0 : decide (1 < x11_1) = true := decide_eq_true c7
       clear c7
       simp only [Option.some.injEq, Prod.mk.injEq] at H
       obtain ⟨rfl, rfl⟩ := H
       have p304 : 0 ≤ (x11_1 : Int) := of_decide_eq_true zq3
       have q304 : x11_1 < (l0_1.length : Int) := of_decide_eq_true zq3
       obtain ⟨ad304, e304, hx304_0⟩ := Kd.at_int HR0_1.out x11_1 p304 q304
       cases e304
       replace hx304_0 := (HB.out.cell (World.block_lt_of_cell? w _ hx304_0)).trans hx304_0
       replace p304 := eq_true p304
       replace q304 := eq_true q304
       go_wp2
       go_ret2
       exact ⟨by first | rfl | (simp [errW_none, errW_some] <;> rfl) | (simp [*, errW_none, errW_some] <;> rfl), by repeat (first | (with_reducible first | exact HB.out | apply below_alloc | apply pw_below_drewN | apply below_drew1 | refine below_set ?_ GE303.out) | exact HB.out)⟩
      ·rw [if_neg c7] at H
       have c7b0 : decide (1 < x11_1) = false := decide_eq_false c7
       clear c7
       obtain ⟨ji8, hji8⟩ : ∃ j_ : Int, (wrap64 (32 * x11_1)) = j_ := ⟨_, rfl⟩
       replace H : (if 0 ≤ (ji8) then (wide_Int_Small.l0 k1 (Go.bits .or .u64 x4_1 (shl .u64 (IntKind.u64.wrap (rd l0_1 x11_1)) (ji8))) l0_1 (l0_1.length : Int) (wrap64 (x11_1 + 1)) a0_0 l0_1) else (none)) = some (r1, r2) := by first | (rw [hji8] at H; exact H) | (simp only [hji8] at H ⊢; exact H)
       have hji8w : (IntKind.i64.wrap (32 * x11_1)) = ji8 := (i64_w _).trans hji8
       by_cases c9 : 0 ≤ (ji8)
       ·rw [if_pos c9] at H
        have c9b0 := eq_true c9
        have c9b1 : decide (0 ≤ (ji8)) = true := decide_eq_true c9
        clear c9
        obtain ⟨ji10, hji10⟩ : ∃ j_ : Int, (shl .u64 (IntKind.u64.wrap (rd l0_1 x11_1)) (ji8)) = j_ := ⟨_, rfl⟩
        replace H : (wide_Int_Small.l0 k1 (Go.bits .or .u64 x4_1 (ji10)) l0_1 (l0_1.length : Int) (wrap64 (x11_1 + 1)) a0_0 l0_1) = some (r1, r2) := by first | (rw [hji10] at H; exact H) | (simp only [hji10] at H ⊢; exact H)
        have hji10_ : (IntKind.u64.wrap ((IntKind.u64.wrap (rd l0_1 x11_1)) * 2 ^ min (ji8).toNat 64)) = ji10 := hji10
        have hji10z : (ji8) ≤ 64 → (IntKind.u64.wrap ((IntKind.u64.wrap (rd l0_1 x11_1)) * 2 ^ (ji8).toNat)) = ji10 := shl_small hji10
        have H' := am_ H
        clear H
        have p304 : 0 ≤ (x11_1 : Int) := of_decide_eq_true zq3
        have q304 : x11_1 < (l0_1.length : Int) := of_decide_eq_true zq3
        obtain ⟨ad304, e304, hx304_0⟩ := Kd.at_int HR0_1.out x11_1 p304 q304
        cases e304
        replace hx304_0 := (HB.out.cell (World.block_lt_of_cell? w _ hx304_0)).trans hx304_0
        replace p304 := eq_true p304
        replace q304 := eq_true q304
        go_wp2
        go_roundg k1
        case measure => have := HK1.out; omega
        case rel => exact ⟨(Go.bits .or .u64 x4_1 (ji10)), (wrap64 (x11_1 + 1)), (by first | rfl | (simp; done) | (simp only [← hji10] <;> (first | rfl | simp)) | (simp [*]; done)), zq5, H', ⟨by have := HK1.out; omega⟩, ⟨by (with_reducible repeat (first | refine blk_drewN ?_ _ | refine blk_drew ?_ | refine blk_alloc ?_ _)); exact BK303.out⟩, ⟨by repeat (first | (with_reducible first | exact HB.out | apply below_alloc | apply pw_below_drewN | apply below_drew1 | refine below_set ?_ GE303.out) | exact HB.out)⟩⟩
       ·rw [if_neg c9] at H
        exact absurd H (by simp)
     ·rw [if_neg c6] at H
      exact absurd H (by simp)
    ·rw [if_neg c5] at H
     exact absurd H (by simp)
   ·rw [if_neg c4] at H
    have c4b0 : decide (x11_1 < (l0_1.length : Int)) = false := decide_eq_false c4
    clear c4
    by_cases c11 : a0_0 = true
    ·subst c11
     have H1 : (if x4_1 = 0 then (some (wrap64 (-(wrap64 (x4_1))), true)) else (if (!((decide ((wrap64 (-(wrap64 (x4_1)))) < 0)) == true)) = true then (some (0, false)) else (some (wrap64 (-(wrap64 (x4_1))), true)))) = some (r1, r2) := by rw [if_pos rfl] at H; exact H
     clear H
     have H := H1
     clear H1
     by_cases c12 : x4_1 = 0
     ·rw [if_pos c12] at H
      have c12b0 : (x4_1 == 0) = true := beq_iff_eq.mpr c12
      have c12b1 : (x4_1 != 0) = false := bne_eq_false_iff_eq.mpr c12
      clear c12
      simp only [Option.some.injEq, Prod.mk.injEq] at H
      obtain ⟨rfl, rfl⟩ := H
      have hcz13_0 : wr.cell? ⟨gb303, 0, none⟩ = some (.bool true) := (blk_cell BK303.out 0).trans rfl
      have hcz13_1 : wr.cell? ⟨gb303, 1, none⟩ = some (.slice A0_1 l0_1.length c0_1) := (blk_cell BK303.out 1).trans rfl
      have hfz13_0 := blk_frozen BK303.out 0
      have hfz13_1 := blk_frozen BK303.out 1
      go_wp2
      go_ret2
      exact ⟨by first | rfl | (simp [errW_none, errW_some] <;> rfl) | (simp [*, errW_none, errW_some] <;> rfl), by repeat (first | (with_reducible first | exact HB.out | apply below_alloc | apply pw_below_drewN | apply below_drew1 | refine below_set ?_ GE303.out) | exact HB.out)⟩
     ·rw [if_neg c12] at H
      have c12b0 : (x4_1 == 0) = false := beq_eq_false_iff_ne.mpr c12
      have c12b1 : (x4_1 != 0) = true := bne_iff_ne.mpr c12
      by_cases c14 : (!((decide ((wrap64 (-(wrap64 (x4_1)))) < 0)) == true)) = true
      ·rw [if_pos c14] at H
       have c14b0 : (!((decide ((wrap64 (-(wrap64 (x4_1)))) < 0)) == true)) = true := c14
       (try (have c14z0 : decide ((wrap64 (-(wrap64 (x4_1)))) < 0) = false := by simpa using c14))
       (try (have c14z1 : ((wrap64 (-(wrap64 (x4_1)))) < 0) = False := by simpa using c14))
       clear c14
       simp only [Option.some.injEq, Prod.mk.injEq] at H
       obtain ⟨rfl, rfl⟩ := H
       have hcz15_0 : wr.cell? ⟨gb303, 0, none⟩ = some (.bool true) := (blk_cell BK303.out 0).trans rfl
       have hcz15_1 : wr.cell? ⟨gb303, 1, none⟩ = some (.slice A0_1 l0_1.length c0_1) := (blk_cell BK303.out 1).trans rfl
       have hfz15_0 := blk_frozen BK303.out 0
       have hfz15_1 := blk_frozen BK303.out 1
       go_wp2
       go_ret2
       exact ⟨by first | rfl | (simp [errW_none, errW_some] <;> rfl) | (simp [*, errW_none, errW_some] <;> rfl), by repeat (first | (with_reducible first | exact HB.out | apply below_alloc | apply pw_below_drewN | apply below_drew1 | refine below_set ?_ GE303.out) | exact HB.out)⟩
      ·rw [if_neg c14] at H
       have c14b0 : (!((decide ((wrap64 (-(wrap64 (x4_1)))) < 0)) == true)) = false := by simpa using c14
       (try (have c14z0 : decide ((wrap64 (-(wrap64 (x4_1)))) < 0) = true := by simpa using c14))
       (try (have c14z1 : ((wrap64 (-(wrap64 (x4_1)))) < 0) = True := by simpa using c14))
       clear c14
       simp only [Option.some.injEq, Prod.mk.injEq] at H
       obtain ⟨rfl, rfl⟩ := H
       have hcz16_0 : wr.cell? ⟨gb303, 0, none⟩ = some (.bool true) := (blk_cell BK303.out 0).trans rfl
       have hcz16_1 : wr.cell? ⟨gb303, 1, none⟩ = some (.slice A0_1 l0_1.length c0_1) := (blk_cell BK303.out 1).trans rfl
       have hfz16_0 := blk_frozen BK303.out 0
       have hfz16_1 := blk_frozen BK303.out 1
       go_wp2
       go_ret2
       exact ⟨by first | rfl | (simp [errW_none, errW_some] <;> rfl) | (simp [*, errW_none, errW_some] <;> rfl), by repeat (first | (with_reducible first | exact HB.out | apply below_alloc | apply pw_below_drewN | apply below_drew1 | refine below_set ?_ GE303.out) | exact HB.out)⟩
    ·replace c11 := Bool.eq_false_iff.mpr c11
     subst c11
     have H1 : (if x4_1 = 0 then (some (wrap64 (x4_1), true)) else (if (!((decide ((wrap64 (x4_1)) < 0)) == false)) = true then (some (0, false)) else (some (wrap64 (x4_1), true)))) = some (r1, r2) := by rw [if_neg (show ¬ (false = true) by decide)] at H; exact H
     clear H
     have H := H1
     clear H1
     by_cases c17 : x4_1 = 0
     ·rw [if_pos c17] at H
      have c17b0 : (x4_1 == 0) = true := beq_iff_eq.mpr c17
      have c17b1 : (x4_1 != 0) = false := bne_eq_false_iff_eq.mpr c17
      clear c17
      simp only [Option.some.injEq, Prod.mk.injEq] at H
      obtain ⟨rfl, rfl⟩ := H
      have hcz18_0 : wr.cell? ⟨gb303, 0, none⟩ = some (.bool false) := (blk_cell BK303.out 0).trans rfl
      have hcz18_1 : wr.cell? ⟨gb303, 1, none⟩ = some (.slice A0_1 l0_1.length c0_1) := (blk_cell BK303.out 1).trans rfl
      have hfz18_0 := blk_frozen BK303.out 0
      have hfz18_1 := blk_frozen BK303.out 1
      go_wp2
      go_ret2
      exact ⟨by first | rfl | (simp [errW_none, errW_some] <;> rfl) | (simp [*, errW_none, errW_some] <;> rfl), by repeat (first | (with_reducible first | exact HB.out | apply below_alloc | apply pw_below_drewN | apply below_drew1 | refine below_set ?_ GE303.out) | exact HB.out)⟩
     ·rw [if_neg c17] at H
      have c17b0 : (x4_1 == 0) = false := beq_eq_false_iff_ne.mpr c17
      have c17b1 : (x4_1 != 0) = true := bne_iff_ne.mpr c17
      by_cases c19 : (!((decide ((wrap64 (x4_1)) < 0)) == false)) = true
      ·rw [if_pos c19] at H
       have c19b0 : (!((decide ((wrap64 (x4_1)) < 0)) == false)) = true := c19
       (try (have c19z0 : decide ((wrap64 (x4_1)) < 0) = true := by simpa using c19))
       (try (have c19z1 : ((wrap64 (x4_1)) < 0) = True := by simpa using c19))
       clear c19
       simp only [Option.some.injEq, Prod.mk.injEq] at H
       obtain ⟨rfl, rfl⟩ := H
       have hcz20_0 : wr.cell? ⟨gb303, 0, none⟩ = some (.bool false) := (blk_cell BK303.out 0).trans rfl
       have hcz20_1 : wr.cell? ⟨gb303, 1, none⟩ = some (.slice A0_1 l0_1.length c0_1) := (blk_cell BK303.out 1).trans rfl
       have hfz20_0 := blk_frozen BK303.out 0
       have hfz20_1 := blk_frozen BK303.out 1
       go_wp2
       go_ret2
       exact ⟨by first | rfl | (simp [errW_none, errW_some] <;> rfl) | (simp [*, errW_none, errW_some] <;> rfl), by repeat (first | (with_reducible first | exact HB.out | apply below_alloc | apply pw_below_drewN | apply below_drew1 | refine below_set ?_ GE303.out) | exact HB.out)⟩
      ·rw [if_neg c19] at H
       have c19b0 : (!((decide ((wrap64 (x4_1)) < 0)) == false)) = false := by simpa using c19
       (try (have c19z0 : decide ((wrap64 (x4_1)) < 0) = false := by simpa using c19))
       (try (have c19z1 : ((wrap64 (x4_1)) < 0) = False := by simpa using c19))
       clear c19
       simp only [Option.some.injEq, Prod.mk.injEq] at H
       obtain ⟨rfl, rfl⟩ := H
       have hcz21_0 : wr.cell? ⟨gb303, 0, none⟩ = some (.bool false) := (blk_cell BK303.out 0).trans rfl
       have hcz21_1 : wr.cell? ⟨gb303, 1, none⟩ = some (.slice A0_1 l0_1.length c0_1) := (blk_cell BK303.out 1).trans rfl
       have hfz21_0 := blk_frozen BK303.out 0
       have hfz21_1 := blk_frozen BK303.out 1
       go_wp2
       go_ret2
       exact ⟨by first | rfl | (simp [errW_none, errW_some] <;> rfl) | (simp [*, errW_none, errW_some] <;> rfl), by repeat (first | (with_reducible first | exact HB.out | apply below_alloc | apply pw_below_drewN | apply below_drew1 | refine below_set ?_ GE303.out) | exact HB.out)⟩

end Go.Proofs.YtlceokefdihdkaaGreatDoor.X
