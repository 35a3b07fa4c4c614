-- Written by a program of this session (xprint) out of the translation: Lean checks it.
import Derived.Test.YtlceokefdihdkaaGreatDoorXx0
import Derived.Test.YtlceokefdihdkaaGreatDoorXx1
import Derived.Test.YtlceokefdihdkaaGreatDoorXx2
import Derived.Test.YtlceokefdihdkaaGreatDoorXx3
namespace Go.Proofs.YtlceokefdihdkaaGreatDoor.X
open Go.RowKit Go.Proofs.YtlceokefdihdkaaGreatDoorW.PrintWords Go.Proofs.YtlceokefdihdkaaGreatDoorW.PrintLast Go.Proofs.YtlceokefdihdkaaGreatDoorW.PrintMore
attribute [local go_sem] max2_int min2_int max_two min_two max_three min_three max_four min_four   -- for this text's walks alone
set_option linter.unusedVariables false
set_option linter.unusedSimpArgs false

/-! ### worldmintref05_Power: function 46 -/
def worldmintref05_Power.l0 : Nat → Int → Bool → List Int → Bool → List Int → Option (Bool × List Int)
 | 0, _, _, _, _, _ => none
 | k + 1, x0, x190000, x190001, x195000, x195001 => if x0 > 0 then (if (Int.tmod x0 2) = 1 then ((worldmintref05_Mul.f k x190000 x190001 x195000 x195001).bind fun bt195 => ((worldmintref05_Mul.f k x195000 x195001 x195000 x195001).bind fun bt199 => (worldmintref05_Power.l0 k (wrap64 (Int.tdiv x0 2)) bt195.1 bt195.2 bt199.1 bt199.2))) else ((worldmintref05_Mul.f k x195000 x195001 x195000 x195001).bind fun bt203 => (worldmintref05_Power.l0 k (wrap64 (Int.tdiv x0 2)) x190000 x190001 bt203.1 bt203.2))) else (some (x190000, x190001))
def worldmintref05_Power.f (k : Nat) (a0 : Int) : Option (Bool × List Int) := (worldmintref05_Of.f k 1).bind fun bt185 => ((worldmintref05_Of.f k 2).bind fun bt190 => (worldmintref05_Power.l0 k a0 bt185.1 bt185.2 bt190.1 bt190.2))
theorem worldmintref05_Power.mono_l : ∀ k, (∀ y0 y1 y2 y3 y4, LeO (worldmintref05_Power.l0 k y0 y1 y2 y3 y4) (worldmintref05_Power.l0 (k + 1) y0 y1 y2 y3 y4))
 | 0 => fun _ _ _ _ _ r h => by simp [worldmintref05_Power.l0] at h
 | k + 1 => by
  have ih0 := worldmintref05_Power.mono_l k
  ·intro y0 y1 y2 y3 y4
   unfold worldmintref05_Power.l0
   repeat' first
   | (with_reducible exact ih0 _ _ _ _ _)
   | (with_reducible exact worldmintref05_Mul.mono _ _ _ _ _)
   | (with_reducible exact worldmintref05_Of.mono _ _)
   | (with_reducible exact LeO.refl _)
   | (with_reducible exact LeO.none _)
   | (with_reducible refine LeO.ite ?_ ?_)
   | (with_reducible refine LeO.bind ?_ (fun _ => ?_))
   | exact ih0 _ _ _ _ _
   | exact worldmintref05_Mul.mono _ _ _ _ _
   | exact worldmintref05_Of.mono _ _
   | exact LeO.none _
   | refine LeO.ite ?_ ?_
   | refine LeO.bind ?_ (fun _ => ?_)
theorem worldmintref05_Power.mono : ∀ a0 k, LeO (worldmintref05_Power.f k a0) (worldmintref05_Power.f (k + 1) a0) := by
 intro a0 k
 have ih0 := worldmintref05_Power.mono_l k
 unfold worldmintref05_Power.f
 repeat' first
   | (with_reducible exact ih0 _ _ _ _ _)
   | (with_reducible exact worldmintref05_Mul.mono _ _ _ _ _)
   | (with_reducible exact worldmintref05_Of.mono _ _)
   | (with_reducible exact LeO.refl _)
   | (with_reducible exact LeO.none _)
   | (with_reducible refine LeO.ite ?_ ?_)
   | (with_reducible refine LeO.bind ?_ (fun _ => ?_))
   | exact ih0 _ _ _ _ _
   | exact worldmintref05_Mul.mono _ _ _ _ _
   | exact worldmintref05_Of.mono _ _
   | exact LeO.none _
   | refine LeO.ite ?_ ?_
   | refine LeO.bind ?_ (fun _ => ?_)
set_option maxHeartbeats 8000000 in
set_option maxRecDepth 100000 in
theorem worldmintref05_Power.calls (k : Nat) (a0 : Int) (r1 : Bool) (r2 : List Int) (w : World) (h : worldmintref05_Power.f k a0 = some (r1, r2)) :
  Calls Tryz.prog 46 #[.int .i64 a0] w fun e w' => ∃ v1_ : Value, e = .returned (.agg #[.bool r1, v1_]) ∧ Kd.V (Kd.int .i64) 3 w' w.heap.size (fun k_ => (w.heap.size ≤ k_)) v1_ r2 ∧ Below w.heap.size w w' := by
 have hu25 := Tryz.underlying25
 have HB := am_ (Below.refl w.heap.size w)
 have H : ((worldmintref05_Of.f k 1).bind fun bt185 => ((worldmintref05_Of.f k 2).bind fun bt190 => (worldmintref05_Power.l0 k a0 bt185.1 bt185.2 bt190.1 bt190.2))) = some (r1, r2) := h
 clear h
 replace H := Option.bind_eq_some_iff.mp H
 obtain ⟨⟨t185, t186⟩, A20, H⟩ := H
 replace H : ((worldmintref05_Of.f k 2).bind fun bt190 => (worldmintref05_Power.l0 k a0 t185 t186 bt190.1 bt190.2)) = some (r1, r2) := H
 have A2 := am_ A20
 clear A20
 replace H := Option.bind_eq_some_iff.mp H
 obtain ⟨⟨t190, t191⟩, A30, H⟩ := H
 replace H : (worldmintref05_Power.l0 k a0 t185 t186 t190 t191) = some (r1, r2) := H
 have A3 := am_ A30
 clear A30
 have H' := am_ H
 clear H
 go_enter Tryz.func46, Tryz.ntmps46
 go_wp2_with (first | ((with_reducible refine gate_dst (N := 2) rfl ?_); refine box_event ?hg (N := 2) ?hd (cs := #[.bool false, .slice none 0 0]) (t := 25) ?hr ?_; (case hd => rfl); (case hg => rfl); (case hr => exact zq1); intro gb184 hg w4 hbox hb; have n0_ := am_ (below_step zq2 hb); have n1_ := am_ (hbox); have n2_ := am_ ((by rw [hg]; exact (below_size zq2) : w.heap.size ≤ gb184)); clear HB; have HB := n0_; have BK184 := n1_; have GE184 := n2_; clear n0_ n1_ n2_; clear hb hbox hg) | ((with_reducible refine gate_callee (f := 23) rfl ?_); refine goesL_ (some 5) rfl rfl Tryz.func23 (by kernel_rfl) rfl #[.int .i64 1] rfl zq4 ?_; (with_reducible refine (worldmintref05_Of.calls k 1 t185 t186 _ A2.out).mono ?_); rintro e w5 ⟨v187, rfl, ho0, hb⟩; refine ⟨_, rfl, ?_⟩; have HO188 := am_ (Kd.V_lower (Kd.V_mono (ok' := fun k_ => (w.heap.size ≤ k_) ∧ k_ ≠ gb184) ho0 (fun k_ hk_ => ⟨(Nat.le_trans (below_size zq27) hk_), (Kd.freshB (g := gb184) (o := .cells #[.bool false, .slice none 0 0] 25 (0, 0)) (zq9 BK184.out) k_ hk_)⟩)) (below_size zq27)); replace BK184 := am_ (blk_below (g := gb184) (o := .cells #[.bool false, .slice none 0 0] 25 (0, 0)) (zq9 BK184.out) hb); replace HB := am_ (below_step zq27 hb); (try clear hb); (try clear ho0)) | ((with_reducible refine gate_dst (N := 3) rfl ?_); refine box_event ?hg (N := 3) ?hd (cs := #[.bool false, .slice none 0 0]) (t := 25) ?hr ?_; (case hd => rfl); (case hg => rfl); (case hr => exact zq1); intro gb189 hg w6 hbox hb; have n0_ := am_ (Kd.V_below (Kd.V_elderB (zq5 HO188.out) gb189 (Nat.le_of_eq hg.symm)) hb); have n1_ := am_ (blk_below (g := gb184) (o := .cells #[.bool false, .slice none 0 0] 25 (0, 0)) (zq9 BK184.out) hb); have n2_ := am_ (below_step zq27 hb); have n3_ := am_ (hbox); have n4_ := am_ ((by rw [hg]; exact (below_size zq27) : w.heap.size ≤ gb189)); have n5_ := am_ ((by rw [hg]; exact Nat.ne_of_lt (blk_lt (g := gb184) (zq9 BK184.out)) : gb184 ≠ gb189)); have n6_ := am_ ((by rw [hg]; exact Nat.ne_of_gt (blk_lt (g := gb184) (zq9 BK184.out)) : gb189 ≠ gb184)); clear HO188 BK184 HB; have HO188 := n0_; have BK184 := n1_; have HB := n2_; have BK189 := n3_; have GE189 := n4_; have NB184_189 := n5_; have NB189_184 := n6_; clear n0_ n1_ n2_ n3_ n4_ n5_ n6_; clear hb hbox hg; have hnb7 := NB189_184.out; have hnc7 := NB184_189.out; have hcz8_0 : w6.cell? ⟨gb189, 0, none⟩ = some (.bool false) := (blk_cell BK189.out 0).trans rfl; have hcz8_1 : w6.cell? ⟨gb189, 1, none⟩ = some (.slice none 0 0) := (blk_cell BK189.out 1).trans rfl; have hfz8_0 := blk_frozen BK189.out 0; have hfz8_1 := blk_frozen BK189.out 1; obtain ⟨Ao9, co9, eo9⟩ := Kd.V_slice HO188.out; subst eo9) | ((with_reducible refine gate_callee (f := 23) rfl ?_); refine goesL_ (some 6) rfl rfl Tryz.func23 (by kernel_rfl) rfl #[.int .i64 2] rfl zq4 ?_; (with_reducible refine (worldmintref05_Of.calls k 2 t190 t191 _ A3.out).mono ?_); rintro e w10 ⟨v192, rfl, ho0, hb⟩; refine ⟨_, rfl, ?_⟩; replace HO188 := am_ (Kd.V_below (by (with_reducible repeat (first | apply Kd.V_alloc | apply Kd.V_drewN | apply Kd.V_drew)); exact (Kd.V_mono (Kd.V_far (p := ⟨gb189, 1, none⟩) (Kd.V_far (p := ⟨gb189, 0, none⟩) (Kd.V_mono HO188.out (fun k_ hk => (⟨hk, hk.2⟩ : _ ∧ k_ ≠ gb189))) (fun _ hk => hk.2) (.bool t185)) (fun _ hk => hk.2) (.slice Ao9 t186.length co9)) (fun _ h_ => h_.1))) hb); have HO193 := am_ (Kd.V_lower (Kd.V_mono (ok' := fun k_ => (w.heap.size ≤ k_) ∧ k_ ≠ gb184 ∧ k_ ≠ gb189) ho0 (fun k_ hk_ => ⟨(Nat.le_trans (below_size zq28) hk_), (Kd.freshB (g := gb184) (o := .cells #[.bool false, .slice none 0 0] 25 (0, 0)) (zq29 BK184.out) k_ hk_), (Kd.freshB (g := gb189) (o := .cells #[.bool t185, .slice Ao9 t186.length co9] 25 (0, 0)) (zq30 BK189.out) k_ hk_)⟩)) (below_size zq28)); replace BK184 := am_ (blk_below (g := gb184) (o := .cells #[.bool false, .slice none 0 0] 25 (0, 0)) (zq29 BK184.out) hb); replace BK189 := am_ (blk_below (g := gb189) (o := .cells #[.bool t185, .slice Ao9 t186.length co9] 25 (0, 0)) (zq30 BK189.out) hb); replace HB := am_ (below_step zq28 hb); (try clear hb); (try clear ho0)) | ((with_reducible refine gate_dst (N := 4) rfl ?_); refine box_event ?hg (N := 4) ?hd (cs := #[.bool false, .slice none 0 0]) (t := 25) ?hr ?_; (case hd => rfl); (case hg => rfl); (case hr => exact zq1); intro gb194 hg w11 hbox hb; have n0_ := am_ (Kd.V_below (Kd.V_elderB (zq5 HO188.out) gb194 (Nat.le_of_eq hg.symm)) hb); have n1_ := am_ (Kd.V_below (Kd.V_elderB (zq5 HO193.out) gb194 (Nat.le_of_eq hg.symm)) hb); have n2_ := am_ (blk_below (g := gb184) (o := .cells #[.bool false, .slice none 0 0] 25 (0, 0)) (zq9 BK184.out) hb); have n3_ := am_ (blk_below (g := gb189) (o := .cells #[.bool t185, .slice Ao9 t186.length co9] 25 (0, 0)) (zq9 BK189.out) hb); have n4_ := am_ (below_step zq28 hb); have n5_ := am_ (hbox); have n6_ := am_ ((by rw [hg]; exact (below_size zq28) : w.heap.size ≤ gb194)); have n7_ := am_ ((by rw [hg]; exact Nat.ne_of_lt (blk_lt (g := gb184) (zq9 BK184.out)) : gb184 ≠ gb194)); have n8_ := am_ ((by rw [hg]; exact Nat.ne_of_gt (blk_lt (g := gb184) (zq9 BK184.out)) : gb194 ≠ gb184)); have n9_ := am_ ((by rw [hg]; exact Nat.ne_of_lt (blk_lt (g := gb189) (zq9 BK189.out)) : gb189 ≠ gb194)); have n10_ := am_ ((by rw [hg]; exact Nat.ne_of_gt (blk_lt (g := gb189) (zq9 BK189.out)) : gb194 ≠ gb189)); clear HO188 HO193 BK184 BK189 HB; have HO188 := n0_; have HO193 := n1_; have BK184 := n2_; have BK189 := n3_; have HB := n4_; have BK194 := n5_; have GE194 := n6_; have NB184_194 := n7_; have NB194_184 := n8_; have NB189_194 := n9_; have NB194_189 := n10_; clear n0_ n1_ n2_ n3_ n4_ n5_ n6_ n7_ n8_ n9_ n10_; clear hb hbox hg; have hnb12 := NB194_184.out; have hnc12 := NB184_194.out; have hnb13 := NB194_189.out; have hnc13 := NB189_194.out; have hcz14_0 : w11.cell? ⟨gb194, 0, none⟩ = some (.bool false) := (blk_cell BK194.out 0).trans rfl; have hcz14_1 : w11.cell? ⟨gb194, 1, none⟩ = some (.slice none 0 0) := (blk_cell BK194.out 1).trans rfl; have hfz14_0 := blk_frozen BK194.out 0; have hfz14_1 := blk_frozen BK194.out 1; obtain ⟨Ao15, co15, eo15⟩ := Kd.V_slice HO193.out; subst eo15))
 try simp only [Act.put, List.setIfInBounds_toArray, List.set_cons_zero, List.set_cons_succ]
 go_loopg [0] k (fun kq v0 w' => ∃ (x0_1 : Int) (x190000_1 : Bool) (x190001_1 : List Int) (x195000_1 : Bool) (x195001_1 : List Int) (u190001 : Value) (u195001 : Value), v0 = .int .i64 x0_1 ∧ Aside0 (worldmintref05_Power.l0 kq x0_1 x190000_1 x190001_1 x195000_1 x195001_1 = some (r1, r2)) ∧ Aside0 (kq ≤ k) ∧ Aside0 (Kd.V (Kd.int .i64) 3 w' w.heap.size (fun k_ => (w.heap.size ≤ k_) ∧ k_ ≠ gb184 ∧ k_ ≠ gb189 ∧ k_ ≠ gb194) u190001 x190001_1) ∧ Aside0 (Kd.V (Kd.int .i64) 3 w' w.heap.size (fun k_ => (w.heap.size ≤ k_) ∧ k_ ≠ gb184 ∧ k_ ≠ gb189 ∧ k_ ≠ gb194) u195001 x195001_1) ∧ Aside0 (w'.heap[gb184]? = some (.cells #[.bool false, (.slice none 0 0)] 25 (0, 0))) ∧ Aside0 (w'.heap[gb189]? = some (.cells #[.bool x190000_1, u190001] 25 (0, 0))) ∧ Aside0 (w'.heap[gb194]? = some (.cells #[.bool x195000_1, u195001] 25 (0, 0))) ∧ Aside0 (Below w.heap.size w w'))
 case atStart => exact ⟨(a0), (t185), (t186), (t190), (t191), (.slice Ao9 t186.length co9), (.slice Ao15 t191.length co15), zq0, H', ⟨Nat.le_refl _⟩, ⟨by (with_reducible repeat (first | apply Kd.V_alloc | apply Kd.V_drewN | apply Kd.V_drew)); exact Kd.V_mono (Kd.V_far (p := ⟨gb194, 1, none⟩) (Kd.V_far (p := ⟨gb194, 0, none⟩) (Kd.V_mono HO188.out (fun k_ hk => (⟨hk, hk.2⟩ : _ ∧ k_ ≠ gb194))) (fun _ hk => hk.2) (.bool t190)) (fun _ hk => hk.2) (.slice Ao15 t191.length co15)) (fun _ hk => ⟨hk.1.1.1.1, ⟨hk.1.1.1.2, ⟨hk.1.1.2, hk.1.2⟩⟩⟩)⟩, ⟨by (with_reducible repeat (first | apply Kd.V_alloc | apply Kd.V_drewN | apply Kd.V_drew)); exact Kd.V_mono (Kd.V_far (p := ⟨gb194, 1, none⟩) (Kd.V_far (p := ⟨gb194, 0, none⟩) (Kd.V_mono HO193.out (fun k_ hk => (⟨hk, hk.2⟩ : _ ∧ k_ ≠ gb194))) (fun _ hk => hk.2) (.bool t190)) (fun _ hk => hk.2) (.slice Ao15 t191.length co15)) (fun _ hk => ⟨hk.1.1.1, ⟨hk.1.1.2.1, ⟨hk.1.1.2.2, hk.1.2⟩⟩⟩)⟩, ⟨by (with_reducible repeat (first | refine blk_drewN ?_ _ | refine blk_drew ?_ | refine blk_alloc ?_ _)); refine blk_far ?_ NB184_194.out _; (with_reducible repeat (first | refine blk_drewN ?_ _ | refine blk_drew ?_ | refine blk_alloc ?_ _)); refine blk_far ?_ NB184_194.out _; (with_reducible repeat (first | refine blk_drewN ?_ _ | refine blk_drew ?_ | refine blk_alloc ?_ _)); exact BK184.out⟩, ⟨by (with_reducible repeat (first | refine blk_drewN ?_ _ | refine blk_drew ?_ | refine blk_alloc ?_ _)); refine blk_far ?_ NB189_194.out _; (with_reducible repeat (first | refine blk_drewN ?_ _ | refine blk_drew ?_ | refine blk_alloc ?_ _)); refine blk_far ?_ NB189_194.out _; (with_reducible repeat (first | refine blk_drewN ?_ _ | refine blk_drew ?_ | refine blk_alloc ?_ _)); exact BK189.out⟩, ⟨by (with_reducible repeat (first | refine blk_drewN ?_ _ | refine blk_drew ?_ | refine blk_alloc ?_ _)); refine blk_put (cs := #[.bool t190, .slice none 0 0]) ?_ 1 _ rfl; (with_reducible repeat (first | refine blk_drewN ?_ _ | refine blk_drew ?_ | refine blk_alloc ?_ _)); refine blk_put (cs := #[.bool false, .slice none 0 0]) ?_ 0 _ rfl; (with_reducible repeat (first | refine blk_drewN ?_ _ | refine blk_drew ?_ | refine blk_alloc ?_ _)); exact BK194.out⟩, ⟨by repeat (first | (with_reducible first | exact HB.out | apply below_alloc | apply pw_below_drewN | apply below_drew1 | refine below_set ?_ GE184.out | refine below_set ?_ GE189.out | refine below_set ?_ GE194.out) | exact HB.out)⟩⟩
 case round =>
  clear H'
  try clear c1
  try clear c2
  try clear p2
  try clear c4
  try clear c7
  try clear c12
  try clear c13
  try clear hcz14_0
  try clear hcz14_1
  try clear hcz8_0
  try clear hcz8_1
  try clear hfz14_0
  try clear hfz14_1
  try clear hfz8_0
  try clear hfz8_1
  obtain ⟨x0_1, x190000_1, x190001_1, x195000_1, x195001_1, u190001, u195001, rfl, HA, HK1, HO_190001, HO_195001, BK184, BK189, BK194, HB⟩ := hrel
  cases gk with
  | zero => exact absurd HA.out (by simp [worldmintref05_Power.l0])
  | succ k1 =>
   have H := HA.out
   clear HA
   simp only [worldmintref05_Power.l0] at H
   by_cases c16 : x0_1 > 0
   ·rw [if_pos c16] at H
    have c16b0 : decide (0 < x0_1) = true := decide_eq_true c16
    clear c16
    by_cases c17 : (Int.tmod x0_1 2) = 1
    ·rw [if_pos c17] at H
     have c17b0 : ((Int.tmod x0_1 2) == 1) = true := beq_iff_eq.mpr c17
     have c17b1 : ((Int.tmod x0_1 2) != 1) = false := bne_eq_false_iff_eq.mpr c17
     clear c17
     replace H := Option.bind_eq_some_iff.mp H
     obtain ⟨⟨t195, t196⟩, A180, H⟩ := H
     replace H : ((worldmintref05_Mul.f k1 x195000_1 x195001_1 x195000_1 x195001_1).bind fun bt199 => (worldmintref05_Power.l0 k1 (wrap64 (Int.tdiv x0_1 2)) t195 t196 bt199.1 bt199.2)) = some (r1, r2) := H
     have A18 := am_ A180
     clear A180
     replace H := Option.bind_eq_some_iff.mp H
     obtain ⟨⟨t199, t200⟩, A190, H⟩ := H
     replace H : (worldmintref05_Power.l0 k1 (wrap64 (Int.tdiv x0_1 2)) t195 t196 t199 t200) = some (r1, r2) := H
     have A19 := am_ A190
     clear A190
     have H' := am_ H
     clear H
     have hnb20 := NB189_184.out
     have hnc20 := NB184_189.out
     have hnb21 := NB189_194.out
     have hnc21 := NB194_189.out
     have hcz22_0 : wr.cell? ⟨gb189, 0, none⟩ = some (.bool x190000_1) := (blk_cell BK189.out 0).trans rfl
     have hcz22_1 : wr.cell? ⟨gb189, 1, none⟩ = some (u190001) := (blk_cell BK189.out 1).trans rfl
     have hfz22_0 := blk_frozen BK189.out 0
     have hfz22_1 := blk_frozen BK189.out 1
     have hnb23 := NB194_184.out
     have hnc23 := NB184_194.out
     have hcz24_0 : wr.cell? ⟨gb194, 0, none⟩ = some (.bool x195000_1) := (blk_cell BK194.out 0).trans rfl
     have hcz24_1 : wr.cell? ⟨gb194, 1, none⟩ = some (u195001) := (blk_cell BK194.out 1).trans rfl
     have hfz24_0 := blk_frozen BK194.out 0
     have hfz24_1 := blk_frozen BK194.out 1
     obtain ⟨Ao25, co25, eo25⟩ := Kd.V_slice HO_190001.out
     subst eo25
     obtain ⟨Ao26, co26, eo26⟩ := Kd.V_slice HO_195001.out
     subst eo26
     go_wp2_with (first | ((with_reducible refine gate_callee (f := 28) rfl ?_); refine goesL_ (some 14) rfl rfl Tryz.func28 (by kernel_rfl) rfl #[.agg #[.bool x190000_1, .slice Ao25 x190001_1.length co25], .agg #[.bool x195000_1, .slice Ao26 x195001_1.length co26]] rfl zq4 ?_; (with_reducible refine (worldmintref05_Mul.calls k1 x190000_1 _ _ x190001_1 x195000_1 _ _ x195001_1 t195 t196 _ ?side1 ?side2 ?side3 ?side4 A18.out).mono ?_); (case side1 => exact (zq31 HO_190001.out)); (case side2 => exact (Kd.V_reads' HO_190001.out).2.1); (case side3 => exact (zq31 HO_195001.out)); (case side4 => exact (Kd.V_reads' HO_195001.out).2.1); rintro e w27 ⟨v197, rfl, ho0, hb⟩; refine ⟨_, rfl, ?_⟩; replace HO_190001 := am_ (Kd.V_below (zq5 HO_190001.out) hb); replace HO_195001 := am_ (Kd.V_below (zq5 HO_195001.out) hb); have HO198 := am_ (Kd.V_lower (Kd.V_mono (ok' := fun k_ => (w.heap.size ≤ k_) ∧ k_ ≠ gb184 ∧ k_ ≠ gb189 ∧ k_ ≠ gb194) ho0 (fun k_ hk_ => ⟨(Nat.le_trans (below_size zq32) hk_), (Kd.freshB (g := gb184) (o := .cells #[.bool false, .slice none 0 0] 25 (0, 0)) (zq9 BK184.out) k_ hk_), (Kd.freshB (g := gb189) (o := .cells #[.bool x190000_1, .slice Ao25 x190001_1.length co25] 25 (0, 0)) (zq9 BK189.out) k_ hk_), (Kd.freshB (g := gb194) (o := .cells #[.bool x195000_1, .slice Ao26 x195001_1.length co26] 25 (0, 0)) (zq9 BK194.out) k_ hk_)⟩)) (below_size zq32)); replace BK184 := am_ (blk_below (g := gb184) (o := .cells #[.bool false, .slice none 0 0] 25 (0, 0)) (zq9 BK184.out) hb); replace BK189 := am_ (blk_below (g := gb189) (o := .cells #[.bool x190000_1, .slice Ao25 x190001_1.length co25] 25 (0, 0)) (zq9 BK189.out) hb); replace BK194 := am_ (blk_below (g := gb194) (o := .cells #[.bool x195000_1, .slice Ao26 x195001_1.length co26] 25 (0, 0)) (zq9 BK194.out) hb); replace HB := am_ (below_step zq32 hb); (try clear hb); (try clear ho0); have hcz28_0 : w27.cell? ⟨gb189, 0, none⟩ = some (.bool x190000_1) := (blk_cell BK189.out 0).trans rfl; have hcz28_1 : w27.cell? ⟨gb189, 1, none⟩ = some (.slice Ao25 x190001_1.length co25) := (blk_cell BK189.out 1).trans rfl; have hfz28_0 := blk_frozen BK189.out 0; have hfz28_1 := blk_frozen BK189.out 1; obtain ⟨Ao29, co29, eo29⟩ := Kd.V_slice HO198.out; subst eo29; have hcz30_0 : w27.cell? ⟨gb194, 0, none⟩ = some (.bool x195000_1) := (blk_cell BK194.out 0).trans rfl; have hcz30_1 : w27.cell? ⟨gb194, 1, none⟩ = some (.slice Ao26 x195001_1.length co26) := (blk_cell BK194.out 1).trans rfl; have hfz30_0 := blk_frozen BK194.out 0; have hfz30_1 := blk_frozen BK194.out 1) | ((with_reducible refine gate_callee (f := 28) rfl ?_); refine goesL_ (some 17) rfl rfl Tryz.func28 (by kernel_rfl) rfl #[.agg #[.bool x195000_1, .slice Ao26 x195001_1.length co26], .agg #[.bool x195000_1, .slice Ao26 x195001_1.length co26]] rfl zq4 ?_; (with_reducible refine (worldmintref05_Mul.calls k1 x195000_1 _ _ x195001_1 x195000_1 _ _ x195001_1 t199 t200 _ ?side1 ?side2 ?side3 ?side4 A19.out).mono ?_); (case side1 => exact (zq33 HO_195001.out)); (case side2 => exact (Kd.V_reads' HO_195001.out).2.1); (case side3 => exact (zq33 HO_195001.out)); (case side4 => exact (Kd.V_reads' HO_195001.out).2.1); rintro e w31 ⟨v201, rfl, ho0, hb⟩; refine ⟨_, rfl, ?_⟩; replace HO_190001 := am_ (Kd.V_below (zq34 HO_190001.out) hb); replace HO_195001 := am_ (Kd.V_below (zq34 HO_195001.out) hb); replace HO198 := am_ (Kd.V_below (zq34 HO198.out) hb); have HO202 := am_ (Kd.V_lower (Kd.V_mono (ok' := fun k_ => (w.heap.size ≤ k_) ∧ k_ ≠ gb184 ∧ k_ ≠ gb189 ∧ k_ ≠ gb194) ho0 (fun k_ hk_ => ⟨(Nat.le_trans (below_size zq32) hk_), (Kd.freshB (g := gb184) (o := .cells #[.bool false, .slice none 0 0] 25 (0, 0)) (zq29 BK184.out) k_ hk_), (Kd.freshB (g := gb189) (o := .cells #[.bool t195, .slice Ao29 t196.length co29] 25 (0, 0)) (zq35 BK189.out) k_ hk_), (Kd.freshB (g := gb194) (o := .cells #[.bool x195000_1, .slice Ao26 x195001_1.length co26] 25 (0, 0)) (zq36 BK194.out) k_ hk_)⟩)) (below_size zq32)); replace BK184 := am_ (blk_below (g := gb184) (o := .cells #[.bool false, .slice none 0 0] 25 (0, 0)) (zq29 BK184.out) hb); replace BK189 := am_ (blk_below (g := gb189) (o := .cells #[.bool t195, .slice Ao29 t196.length co29] 25 (0, 0)) (zq35 BK189.out) hb); replace BK194 := am_ (blk_below (g := gb194) (o := .cells #[.bool x195000_1, .slice Ao26 x195001_1.length co26] 25 (0, 0)) (zq36 BK194.out) hb); replace HB := am_ (below_step zq32 hb); (try clear hb); (try clear ho0); have hcz32_0 : w31.cell? ⟨gb194, 0, none⟩ = some (.bool x195000_1) := (blk_cell BK194.out 0).trans rfl; have hcz32_1 : w31.cell? ⟨gb194, 1, none⟩ = some (.slice Ao26 x195001_1.length co26) := (blk_cell BK194.out 1).trans rfl; have hfz32_0 := blk_frozen BK194.out 0; have hfz32_1 := blk_frozen BK194.out 1; obtain ⟨Ao33, co33, eo33⟩ := Kd.V_slice HO202.out; subst eo33))
     go_roundg k1
     case measure => have := HK1.out; omega
     case rel => exact ⟨(wrap64 (Int.tdiv x0_1 2)), (t195), (t196), (t199), (t200), (.slice Ao29 t196.length co29), (.slice Ao33 t200.length co33), zq0, H', ⟨by have := HK1.out; omega⟩, ⟨by (with_reducible repeat (first | apply Kd.V_alloc | apply Kd.V_drewN | apply Kd.V_drew)); exact Kd.V_mono (Kd.V_far (p := ⟨gb194, 1, none⟩) (Kd.V_far (p := ⟨gb194, 0, none⟩) (Kd.V_mono HO198.out (fun k_ hk => (⟨hk, hk.2.2.2⟩ : _ ∧ k_ ≠ gb194))) (fun _ hk => hk.2) (.bool t199)) (fun _ hk => hk.2) (.slice Ao33 t200.length co33)) (fun _ hk => ⟨hk.1.1, ⟨hk.1.2.1, ⟨hk.1.2.2.1, hk.1.2.2.2⟩⟩⟩)⟩, ⟨by (with_reducible repeat (first | apply Kd.V_alloc | apply Kd.V_drewN | apply Kd.V_drew)); exact Kd.V_mono (Kd.V_far (p := ⟨gb194, 1, none⟩) (Kd.V_far (p := ⟨gb194, 0, none⟩) (Kd.V_mono HO202.out (fun k_ hk => (⟨hk, hk.2.2.2⟩ : _ ∧ k_ ≠ gb194))) (fun _ hk => hk.2) (.bool t199)) (fun _ hk => hk.2) (.slice Ao33 t200.length co33)) (fun _ hk => ⟨hk.1.1, ⟨hk.1.2.1, ⟨hk.1.2.2.1, hk.1.2.2.2⟩⟩⟩)⟩, ⟨by (with_reducible repeat (first | refine blk_drewN ?_ _ | refine blk_drew ?_ | refine blk_alloc ?_ _)); refine blk_far ?_ NB184_194.out _; (with_reducible repeat (first | refine blk_drewN ?_ _ | refine blk_drew ?_ | refine blk_alloc ?_ _)); refine blk_far ?_ NB184_194.out _; (with_reducible repeat (first | refine blk_drewN ?_ _ | refine blk_drew ?_ | refine blk_alloc ?_ _)); exact BK184.out⟩, ⟨by (with_reducible repeat (first | refine blk_drewN ?_ _ | refine blk_drew ?_ | refine blk_alloc ?_ _)); refine blk_far ?_ NB189_194.out _; (with_reducible repeat (first | refine blk_drewN ?_ _ | refine blk_drew ?_ | refine blk_alloc ?_ _)); refine blk_far ?_ NB189_194.out _; (with_reducible repeat (first | refine blk_drewN ?_ _ | refine blk_drew ?_ | refine blk_alloc ?_ _)); exact BK189.out⟩, ⟨by (with_reducible repeat (first | refine blk_drewN ?_ _ | refine blk_drew ?_ | refine blk_alloc ?_ _)); refine blk_put (cs := #[.bool t199, .slice Ao26 x195001_1.length co26]) ?_ 1 _ rfl; (with_reducible repeat (first | refine blk_drewN ?_ _ | refine blk_drew ?_ | refine blk_alloc ?_ _)); refine blk_put (cs := #[.bool x195000_1, .slice Ao26 x195001_1.length co26]) ?_ 0 _ rfl; (with_reducible repeat (first | refine blk_drewN ?_ _ | refine blk_drew ?_ | refine blk_alloc ?_ _)); exact BK194.out⟩, ⟨by repeat (first | (with_reducible first | exact HB.out | apply below_alloc | apply pw_below_drewN | apply below_drew1 | refine below_set ?_ GE184.out | refine below_set ?_ GE189.out | refine below_set ?_ GE194.out) | exact HB.out)⟩⟩
    ·rw [if_neg c17] at H
     have c17b0 : ((Int.tmod x0_1 2) == 1) = false := beq_eq_false_iff_ne.mpr c17
     have c17b1 : ((Int.tmod x0_1 2) != 1) = true := bne_iff_ne.mpr c17
     replace H := Option.bind_eq_some_iff.mp H
     obtain ⟨⟨t203, t204⟩, A340, H⟩ := H
     replace H : (worldmintref05_Power.l0 k1 (wrap64 (Int.tdiv x0_1 2)) x190000_1 x190001_1 t203 t204) = some (r1, r2) := H
     have A34 := am_ A340
     clear A340
     have H' := am_ H
     clear H
     have hnb35 := NB194_184.out
     have hnc35 := NB184_194.out
     have hnb36 := NB194_189.out
     have hnc36 := NB189_194.out
     have hcz37_0 : wr.cell? ⟨gb194, 0, none⟩ = some (.bool x195000_1) := (blk_cell BK194.out 0).trans rfl
     have hcz37_1 : wr.cell? ⟨gb194, 1, none⟩ = some (u195001) := (blk_cell BK194.out 1).trans rfl
     have hfz37_0 := blk_frozen BK194.out 0
     have hfz37_1 := blk_frozen BK194.out 1
     obtain ⟨Ao38, co38, eo38⟩ := Kd.V_slice HO_195001.out
     subst eo38
     go_wp2_with (first | ((with_reducible refine gate_callee (f := 28) rfl ?_); refine goesL_ (some 17) rfl rfl Tryz.func28 (by kernel_rfl) rfl #[.agg #[.bool x195000_1, .slice Ao38 x195001_1.length co38], .agg #[.bool x195000_1, .slice Ao38 x195001_1.length co38]] rfl zq4 ?_; (with_reducible refine (worldmintref05_Mul.calls k1 x195000_1 _ _ x195001_1 x195000_1 _ _ x195001_1 t203 t204 _ ?side1 ?side2 ?side3 ?side4 A34.out).mono ?_); (case side1 => exact (zq31 HO_195001.out)); (case side2 => exact (Kd.V_reads' HO_195001.out).2.1); (case side3 => exact (zq31 HO_195001.out)); (case side4 => exact (Kd.V_reads' HO_195001.out).2.1); rintro e w39 ⟨v205, rfl, ho0, hb⟩; refine ⟨_, rfl, ?_⟩; replace HO_190001 := am_ (Kd.V_below (zq5 HO_190001.out) hb); have HO206 := am_ (Kd.V_lower (Kd.V_mono (ok' := fun k_ => (w.heap.size ≤ k_) ∧ k_ ≠ gb184 ∧ k_ ≠ gb189 ∧ k_ ≠ gb194) ho0 (fun k_ hk_ => ⟨(Nat.le_trans (below_size zq32) hk_), (Kd.freshB (g := gb184) (o := .cells #[.bool false, .slice none 0 0] 25 (0, 0)) (zq9 BK184.out) k_ hk_), (Kd.freshB (g := gb189) (o := .cells #[.bool x190000_1, u190001] 25 (0, 0)) (zq9 BK189.out) k_ hk_), (Kd.freshB (g := gb194) (o := .cells #[.bool x195000_1, .slice Ao38 x195001_1.length co38] 25 (0, 0)) (zq9 BK194.out) k_ hk_)⟩)) (below_size zq32)); replace BK184 := am_ (blk_below (g := gb184) (o := .cells #[.bool false, .slice none 0 0] 25 (0, 0)) (zq9 BK184.out) hb); replace BK189 := am_ (blk_below (g := gb189) (o := .cells #[.bool x190000_1, u190001] 25 (0, 0)) (zq9 BK189.out) hb); replace BK194 := am_ (blk_below (g := gb194) (o := .cells #[.bool x195000_1, .slice Ao38 x195001_1.length co38] 25 (0, 0)) (zq9 BK194.out) hb); replace HB := am_ (below_step zq32 hb); (try clear hb); (try clear ho0); have hcz40_0 : w39.cell? ⟨gb194, 0, none⟩ = some (.bool x195000_1) := (blk_cell BK194.out 0).trans rfl; have hcz40_1 : w39.cell? ⟨gb194, 1, none⟩ = some (.slice Ao38 x195001_1.length co38) := (blk_cell BK194.out 1).trans rfl; have hfz40_0 := blk_frozen BK194.out 0; have hfz40_1 := blk_frozen BK194.out 1; obtain ⟨Ao41, co41, eo41⟩ := Kd.V_slice HO206.out; subst eo41))
     go_roundg k1
     case measure => have := HK1.out; omega
     case rel => exact ⟨(wrap64 (Int.tdiv x0_1 2)), (x190000_1), (x190001_1), (t203), (t204), (u190001), (.slice Ao41 t204.length co41), zq0, H', ⟨by have := HK1.out; omega⟩, ⟨by (with_reducible repeat (first | apply Kd.V_alloc | apply Kd.V_drewN | apply Kd.V_drew)); exact Kd.V_mono (Kd.V_far (p := ⟨gb194, 1, none⟩) (Kd.V_far (p := ⟨gb194, 0, none⟩) (Kd.V_mono HO_190001.out (fun k_ hk => (⟨hk, hk.2.2.2⟩ : _ ∧ k_ ≠ gb194))) (fun _ hk => hk.2) (.bool t203)) (fun _ hk => hk.2) (.slice Ao41 t204.length co41)) (fun _ hk => ⟨hk.1.1, ⟨hk.1.2.1, ⟨hk.1.2.2.1, hk.1.2.2.2⟩⟩⟩)⟩, ⟨by (with_reducible repeat (first | apply Kd.V_alloc | apply Kd.V_drewN | apply Kd.V_drew)); exact Kd.V_mono (Kd.V_far (p := ⟨gb194, 1, none⟩) (Kd.V_far (p := ⟨gb194, 0, none⟩) (Kd.V_mono HO206.out (fun k_ hk => (⟨hk, hk.2.2.2⟩ : _ ∧ k_ ≠ gb194))) (fun _ hk => hk.2) (.bool t203)) (fun _ hk => hk.2) (.slice Ao41 t204.length co41)) (fun _ hk => ⟨hk.1.1, ⟨hk.1.2.1, ⟨hk.1.2.2.1, hk.1.2.2.2⟩⟩⟩)⟩, ⟨by (with_reducible repeat (first | refine blk_drewN ?_ _ | refine blk_drew ?_ | refine blk_alloc ?_ _)); refine blk_far ?_ NB184_194.out _; (with_reducible repeat (first | refine blk_drewN ?_ _ | refine blk_drew ?_ | refine blk_alloc ?_ _)); refine blk_far ?_ NB184_194.out _; (with_reducible repeat (first | refine blk_drewN ?_ _ | refine blk_drew ?_ | refine blk_alloc ?_ _)); exact BK184.out⟩, ⟨by (with_reducible repeat (first | refine blk_drewN ?_ _ | refine blk_drew ?_ | refine blk_alloc ?_ _)); refine blk_far ?_ NB189_194.out _; (with_reducible repeat (first | refine blk_drewN ?_ _ | refine blk_drew ?_ | refine blk_alloc ?_ _)); refine blk_far ?_ NB189_194.out _; (with_reducible repeat (first | refine blk_drewN ?_ _ | refine blk_drew ?_ | refine blk_alloc ?_ _)); exact BK189.out⟩, ⟨by (with_reducible repeat (first | refine blk_drewN ?_ _ | refine blk_drew ?_ | refine blk_alloc ?_ _)); refine blk_put (cs := #[.bool t203, .slice Ao38 x195001_1.length co38]) ?_ 1 _ rfl; (with_reducible repeat (first | refine blk_drewN ?_ _ | refine blk_drew ?_ | refine blk_alloc ?_ _)); refine blk_put (cs := #[.bool x195000_1, .slice Ao38 x195001_1.length co38]) ?_ 0 _ rfl; (with_reducible repeat (first | refine blk_drewN ?_ _ | refine blk_drew ?_ | refine blk_alloc ?_ _)); exact BK194.out⟩, ⟨by repeat (first | (with_reducible first | exact HB.out | apply below_alloc | apply pw_below_drewN | apply below_drew1 | refine below_set ?_ GE184.out | refine below_set ?_ GE189.out | refine below_set ?_ GE194.out) | exact HB.out)⟩⟩
   ·rw [if_neg c16] at H
    have c16b0 : decide (0 < x0_1) = false := decide_eq_false c16
    clear c16
    simp only [Option.some.injEq, Prod.mk.injEq] at H
    obtain ⟨rfl, rfl⟩ := H
    have hnb42 := NB189_184.out
    have hnc42 := NB184_189.out
    have hnb43 := NB189_194.out
    have hnc43 := NB194_189.out
    have hcz44_0 : wr.cell? ⟨gb189, 0, none⟩ = some (.bool x190000_1) := (blk_cell BK189.out 0).trans rfl
    have hcz44_1 : wr.cell? ⟨gb189, 1, none⟩ = some (u190001) := (blk_cell BK189.out 1).trans rfl
    have hfz44_0 := blk_frozen BK189.out 0
    have hfz44_1 := blk_frozen BK189.out 1
    have hnb45 := NB184_194.out
    have hnc45 := NB194_184.out
    have hcz46_0 : wr.cell? ⟨gb184, 0, none⟩ = some (.bool false) := (blk_cell BK184.out 0).trans rfl
    have hcz46_1 : wr.cell? ⟨gb184, 1, none⟩ = some (.slice none 0 0) := (blk_cell BK184.out 1).trans rfl
    have hfz46_0 := blk_frozen BK184.out 0
    have hfz46_1 := blk_frozen BK184.out 1
    obtain ⟨Ao47, co47, eo47⟩ := Kd.V_slice HO_190001.out
    subst eo47
    go_wp2
    refine bodyPost_ret (results_cell_row rfl _ _ gb184 25 #[.bool x190000_1, .slice Ao47 x190001_1.length co47] (0, 0) _ rfl (by (with_reducible repeat (first | refine blk_drewN ?_ _ | refine blk_drew ?_ | refine blk_alloc ?_ _)); refine blk_put (cs := #[.bool x190000_1, .slice none 0 0]) ?_ 1 _ rfl; (with_reducible repeat (first | refine blk_drewN ?_ _ | refine blk_drew ?_ | refine blk_alloc ?_ _)); refine blk_put (cs := #[.bool false, .slice none 0 0]) ?_ 0 _ rfl; (with_reducible repeat (first | refine blk_drewN ?_ _ | refine blk_drew ?_ | refine blk_alloc ?_ _)); exact BK184.out) Tryz.underlying25 rfl (by kernel_rfl)) rfl ?_
    exact ⟨_, by first | rfl | (simp [errW_none, errW_some] <;> rfl) | (simp [*, errW_none, errW_some] <;> rfl), by (with_reducible repeat (first | apply Kd.V_alloc | apply Kd.V_drewN | apply Kd.V_drew)); exact Kd.V_mono (Kd.V_far (p := ⟨gb184, 1, none⟩) (Kd.V_far (p := ⟨gb184, 0, none⟩) (Kd.V_mono HO_190001.out (fun k_ hk => (⟨hk, hk.2.1⟩ : _ ∧ k_ ≠ gb184))) (fun _ hk => hk.2) (.bool x190000_1)) (fun _ hk => hk.2) (.slice Ao47 x190001_1.length co47)) (fun _ hk => hk.1.1), by repeat (first | (with_reducible first | exact HB.out | apply below_alloc | apply pw_below_drewN | apply below_drew1 | refine below_set ?_ GE184.out | refine below_set ?_ GE189.out | refine below_set ?_ GE194.out) | exact HB.out)⟩

/-! ### worldmintref05_Number: function 13 -/
def worldmintref05_Number.l0 : Nat → List Int → Int → Int → Bool → List Int → Option (Bool × List Int)
 | 0, _, _, _, _, _ => none
 | k + 1, x0, x1, x6, x209000, x209001 => (worldmintref01_Pick.f x0 x1 5).bind fun t209 => (if x6 < (wrap64 (1 + t209)) then ((worldmintref01_Pick.f x0 (wrap64 ((wrap64 (x1 + 1)) + x6)) 1000000).bind fun t210 => ((worldmintref05_Power.f k (wrap64 ((wrap64 (32 * (Int.tmod t210 7))) + (wrap64 ((Int.tmod (wrap64 (Int.tdiv t210 7)) 5) * 8))))).bind fun bt211 => ((worldmintref05_Of.f k (wrap64 ((Int.tmod (wrap64 (Int.tdiv t210 35)) 9) - 4))).bind fun bt215 => ((worldmintref05_Mul.f k bt211.1 bt211.2 bt215.1 bt215.2).bind fun bt219 => ((worldmintref05_Of.f k (wrap64 ((Int.tmod (wrap64 (Int.tdiv t210 315)) 5) - 2))).bind fun bt224 => ((worldmintref05_Add.f k bt219.1 bt219.2 bt224.1 bt224.2).bind fun bt228 => ((worldmintref05_Add.f k x209000 x209001 bt228.1 bt228.2).bind fun bt232 => (worldmintref05_Number.l0 k x0 x1 (wrap64 (x6 + 1)) bt232.1 bt232.2)))))))) else (some (x209000, x209001)))
def worldmintref05_Number.f (k : Nat) (l0 : List Int) (a1 : Int) : Option (Bool × List Int) := worldmintref05_Number.l0 k l0 a1 0 false ([] : List Int)
theorem worldmintref05_Number.mono_l : ∀ k, (∀ y0 y1 y2 y3 y4, LeO (worldmintref05_Number.l0 k y0 y1 y2 y3 y4) (worldmintref05_Number.l0 (k + 1) y0 y1 y2 y3 y4))
 | 0 => fun _ _ _ _ _ r h => by simp [worldmintref05_Number.l0] at h
 | k + 1 => by
  have ih0 := worldmintref05_Number.mono_l k
  ·intro y0 y1 y2 y3 y4
   unfold worldmintref05_Number.l0
   repeat' first
   | (with_reducible exact ih0 _ _ _ _ _)
   | (with_reducible exact worldmintref05_Add.mono _ _ _ _ _)
   | (with_reducible exact worldmintref05_Mul.mono _ _ _ _ _)
   | (with_reducible exact worldmintref05_Of.mono _ _)
   | (with_reducible exact worldmintref05_Power.mono _ _)
   | (with_reducible exact LeO.refl _)
   | (with_reducible exact LeO.none _)
   | (with_reducible refine LeO.ite ?_ ?_)
   | (with_reducible refine LeO.bind ?_ (fun _ => ?_))
   | exact ih0 _ _ _ _ _
   | exact worldmintref05_Add.mono _ _ _ _ _
   | exact worldmintref05_Mul.mono _ _ _ _ _
   | exact worldmintref05_Of.mono _ _
   | exact worldmintref05_Power.mono _ _
   | exact LeO.none _
   | refine LeO.ite ?_ ?_
   | refine LeO.bind ?_ (fun _ => ?_)
theorem worldmintref05_Number.mono : ∀ a0 a1 k, LeO (worldmintref05_Number.f k a0 a1) (worldmintref05_Number.f (k + 1) a0 a1) := by
 intro a0 a1 k
 have ih0 := worldmintref05_Number.mono_l k
 unfold worldmintref05_Number.f
 repeat' first
   | (with_reducible exact ih0 _ _ _ _ _)
   | (with_reducible exact worldmintref05_Add.mono _ _ _ _ _)
   | (with_reducible exact worldmintref05_Mul.mono _ _ _ _ _)
   | (with_reducible exact worldmintref05_Of.mono _ _)
   | (with_reducible exact worldmintref05_Power.mono _ _)
   | (with_reducible exact LeO.refl _)
   | (with_reducible exact LeO.none _)
   | (with_reducible refine LeO.ite ?_ ?_)
   | (with_reducible refine LeO.bind ?_ (fun _ => ?_))
   | exact ih0 _ _ _ _ _
   | exact worldmintref05_Add.mono _ _ _ _ _
   | exact worldmintref05_Mul.mono _ _ _ _ _
   | exact worldmintref05_Of.mono _ _
   | exact worldmintref05_Power.mono _ _
   | exact LeO.none _
   | refine LeO.ite ?_ ?_
   | refine LeO.bind ?_ (fun _ => ?_)
def worldmintref05_Number.T7 : Bool × List (List Nat × List Nat) := (true, [([], []), ([], []), ([], []), ([2], [2]), ([3], [3]), ([4], [4]), ([5], [5]), ([1, 6, 6], [1, 6]), ([0, 7, 7], [0, 7]), ([8, 8, 0, 1, 2, 3, 4, 5, 6, 7, 8], [8])])
def worldmintref05_Number.B7 : List Nat := [0, 0, 0, 4, 12, 28, 60, 126, 255, 511]
theorem worldmintref05_Number.tab7 : rtab .any (opsOf Tryz.f13 7) = worldmintref05_Number.T7 := by kernel_rfl
theorem worldmintref05_Number.bits7 : waitsOk worldmintref05_Number.T7.2 worldmintref05_Number.B7 = true := by kernel_rfl
set_option maxHeartbeats 8000000 in
set_option maxRecDepth 100000 in
theorem worldmintref05_Number.calls (k : Nat) (A0 : Option Addr) (c0 : Nat) (l0 : List Int) (a1 : Int) (r1 : Bool) (r2 : List Int) (w : World) (hr0 : Kd.C (Kd.int .i64) w A0 l0.length l0) (hc0 : l0.length ≤ c0) (h : worldmintref05_Number.f k l0 a1 = some (r1, r2)) :
  Calls Tryz.prog 13 #[.slice A0 l0.length c0, .int .i64 a1] w fun e w' => ∃ v1_ : Value, e = .returned (.agg #[.bool r1, v1_]) ∧ Kd.V (Kd.int .i64) 3 w' w.heap.size (fun k_ => (w.heap.size ≤ k_)) v1_ r2 ∧ Below w.heap.size w w' := by
 have hu25 := Tryz.underlying25
 have HR0 := am_ hr0
 have HC0 := am_ hc0
 clear hr0 hc0
 have HB := am_ (Below.refl w.heap.size w)
 have H : (worldmintref05_Number.l0 k l0 a1 0 false ([] : List Int)) = some (r1, r2) := h
 clear h
 have H' := am_ H
 clear H
 go_enter Tryz.func13, Tryz.ntmps13
 go_wp2_with (first | ((with_reducible refine gate_dst (N := 4) rfl ?_); refine box_event ?hg (N := 4) ?hd (cs := #[.bool false, .slice none 0 0]) (t := 25) ?hr ?_; (case hd => rfl); (case hg => rfl); (case hr => exact zq1); intro gb207 hg w3 hbox hb; have n0_ := am_ (below_step zq2 hb); have n1_ := am_ (hbox); have n2_ := am_ ((by rw [hg]; exact (below_size zq2) : w.heap.size ≤ gb207)); clear HB; have HB := n0_; have BK207 := n1_; have GE207 := n2_; clear n0_ n1_ n2_; clear hb hbox hg) | ((with_reducible refine gate_dst (N := 5) rfl ?_); refine box_event ?hg (N := 5) ?hd (cs := #[.bool false, .slice none 0 0]) (t := 25) ?hr ?_; (case hd => rfl); (case hg => rfl); (case hr => exact zq1); intro gb208 hg w4 hbox hb; have n0_ := am_ (blk_below (g := gb207) (o := .cells #[.bool false, .slice none 0 0] 25 (0, 0)) (zq9 BK207.out) hb); have n1_ := am_ (below_step zq37 hb); have n2_ := am_ (hbox); have n3_ := am_ ((by rw [hg]; exact (below_size zq37) : w.heap.size ≤ gb208)); have n4_ := am_ ((by rw [hg]; exact Nat.ne_of_lt (blk_lt (g := gb207) (zq9 BK207.out)) : gb207 ≠ gb208)); have n5_ := am_ ((by rw [hg]; exact Nat.ne_of_gt (blk_lt (g := gb207) (zq9 BK207.out)) : gb208 ≠ gb207)); clear BK207 HB; have BK207 := n0_; have HB := n1_; have BK208 := n2_; have GE208 := n3_; have NB207_208 := n4_; have NB208_207 := n5_; clear n0_ n1_ n2_ n3_ n4_ n5_; clear hb hbox hg; have hnb5 := NB208_207.out; have hnc5 := NB207_208.out; have hcz6_0 : w4.cell? ⟨gb208, 0, none⟩ = some (.bool false) := (blk_cell BK208.out 0).trans rfl; have hcz6_1 : w4.cell? ⟨gb208, 1, none⟩ = some (.slice none 0 0) := (blk_cell BK208.out 1).trans rfl; have hfz6_0 := blk_frozen BK208.out 0; have hfz6_1 := blk_frozen BK208.out 1))
 try simp only [Act.put, List.setIfInBounds_toArray, List.set_cons_zero, List.set_cons_succ]
 go_loopg [6] k (fun kq v6 w' => ∃ (x6_1 : Int) (x209000_1 : Bool) (x209001_1 : List Int) (u209001 : Value), v6 = .int .i64 x6_1 ∧ Aside0 (worldmintref05_Number.l0 kq l0 a1 x6_1 x209000_1 x209001_1 = some (r1, r2)) ∧ Aside0 (kq ≤ k) ∧ Aside0 (Kd.V (Kd.int .i64) 3 w' w.heap.size (fun k_ => (w.heap.size ≤ k_) ∧ k_ ≠ gb207 ∧ k_ ≠ gb208) u209001 x209001_1) ∧ Aside0 (w'.heap[gb207]? = some (.cells #[.bool false, (.slice none 0 0)] 25 (0, 0))) ∧ Aside0 (w'.heap[gb208]? = some (.cells #[.bool x209000_1, u209001] 25 (0, 0))) ∧ Aside0 (Below w.heap.size w w'))
 case atStart => exact ⟨(0), (false), (([] : List Int)), (.slice none 0 0), zq0, H', ⟨Nat.le_refl _⟩, ⟨Kd.R_V (base := 0) zq38⟩, ⟨by (with_reducible repeat (first | refine blk_drewN ?_ _ | refine blk_drew ?_ | refine blk_alloc ?_ _)); refine blk_far ?_ NB207_208.out _; (with_reducible repeat (first | refine blk_drewN ?_ _ | refine blk_drew ?_ | refine blk_alloc ?_ _)); refine blk_far ?_ NB207_208.out _; (with_reducible repeat (first | refine blk_drewN ?_ _ | refine blk_drew ?_ | refine blk_alloc ?_ _)); exact BK207.out⟩, ⟨by (with_reducible repeat (first | refine blk_drewN ?_ _ | refine blk_drew ?_ | refine blk_alloc ?_ _)); refine blk_put (cs := #[.bool false, .slice none 0 0]) ?_ 1 _ rfl; (with_reducible repeat (first | refine blk_drewN ?_ _ | refine blk_drew ?_ | refine blk_alloc ?_ _)); refine blk_put (cs := #[.bool false, .slice none 0 0]) ?_ 0 _ rfl; (with_reducible repeat (first | refine blk_drewN ?_ _ | refine blk_drew ?_ | refine blk_alloc ?_ _)); exact BK208.out⟩, ⟨by repeat (first | (with_reducible first | exact HB.out | apply below_alloc | apply pw_below_drewN | apply below_drew1 | refine below_set ?_ GE207.out | refine below_set ?_ GE208.out) | exact HB.out)⟩⟩
 case round =>
  clear H'
  try clear c1
  try clear p2
  try clear c5
  try clear hcz6_0
  try clear hcz6_1
  try clear hfz6_0
  try clear hfz6_1
  obtain ⟨x6_1, x209000_1, x209001_1, u209001, rfl, HA, HK1, HO_209001, BK207, BK208, HB⟩ := hrel
  cases gk with
  | zero => exact absurd HA.out (by simp [worldmintref05_Number.l0])
  | succ k1 =>
   have H := HA.out
   clear HA
   simp only [worldmintref05_Number.l0] at H
   replace H := Option.bind_eq_some_iff.mp H
   obtain ⟨t209, A70, H⟩ := H
   replace H : (if x6_1 < (wrap64 (1 + t209)) then ((worldmintref01_Pick.f l0 (wrap64 ((wrap64 (a1 + 1)) + x6_1)) 1000000).bind fun t210 => ((worldmintref05_Power.f k1 (wrap64 ((wrap64 (32 * (Int.tmod t210 7))) + (wrap64 ((Int.tmod (wrap64 (Int.tdiv t210 7)) 5) * 8))))).bind fun bt211 => ((worldmintref05_Of.f k1 (wrap64 ((Int.tmod (wrap64 (Int.tdiv t210 35)) 9) - 4))).bind fun bt215 => ((worldmintref05_Mul.f k1 bt211.1 bt211.2 bt215.1 bt215.2).bind fun bt219 => ((worldmintref05_Of.f k1 (wrap64 ((Int.tmod (wrap64 (Int.tdiv t210 315)) 5) - 2))).bind fun bt224 => ((worldmintref05_Add.f k1 bt219.1 bt219.2 bt224.1 bt224.2).bind fun bt228 => ((worldmintref05_Add.f k1 x209000_1 x209001_1 bt228.1 bt228.2).bind fun bt232 => (worldmintref05_Number.l0 k1 l0 a1 (wrap64 (x6_1 + 1)) bt232.1 bt232.2)))))))) else (some (x209000_1, x209001_1))) = some (r1, r2) := H
   have A7 := am_ A70
   clear A70
   by_cases c8 : x6_1 < (wrap64 (1 + t209))
   ·rw [if_pos c8] at H
    have c8b0 : decide (x6_1 < (wrap64 (1 + t209))) = true := decide_eq_true c8
    clear c8
    replace H := Option.bind_eq_some_iff.mp H
    obtain ⟨t210, A90, H⟩ := H
    replace H : ((worldmintref05_Power.f k1 (wrap64 ((wrap64 (32 * (Int.tmod t210 7))) + (wrap64 ((Int.tmod (wrap64 (Int.tdiv t210 7)) 5) * 8))))).bind fun bt211 => ((worldmintref05_Of.f k1 (wrap64 ((Int.tmod (wrap64 (Int.tdiv t210 35)) 9) - 4))).bind fun bt215 => ((worldmintref05_Mul.f k1 bt211.1 bt211.2 bt215.1 bt215.2).bind fun bt219 => ((worldmintref05_Of.f k1 (wrap64 ((Int.tmod (wrap64 (Int.tdiv t210 315)) 5) - 2))).bind fun bt224 => ((worldmintref05_Add.f k1 bt219.1 bt219.2 bt224.1 bt224.2).bind fun bt228 => ((worldmintref05_Add.f k1 x209000_1 x209001_1 bt228.1 bt228.2).bind fun bt232 => (worldmintref05_Number.l0 k1 l0 a1 (wrap64 (x6_1 + 1)) bt232.1 bt232.2))))))) = some (r1, r2) := H
    have A9 := am_ A90
    clear A90
    replace H := Option.bind_eq_some_iff.mp H
    obtain ⟨⟨t211, t212⟩, A100, H⟩ := H
    replace H : ((worldmintref05_Of.f k1 (wrap64 ((Int.tmod (wrap64 (Int.tdiv t210 35)) 9) - 4))).bind fun bt215 => ((worldmintref05_Mul.f k1 t211 t212 bt215.1 bt215.2).bind fun bt219 => ((worldmintref05_Of.f k1 (wrap64 ((Int.tmod (wrap64 (Int.tdiv t210 315)) 5) - 2))).bind fun bt224 => ((worldmintref05_Add.f k1 bt219.1 bt219.2 bt224.1 bt224.2).bind fun bt228 => ((worldmintref05_Add.f k1 x209000_1 x209001_1 bt228.1 bt228.2).bind fun bt232 => (worldmintref05_Number.l0 k1 l0 a1 (wrap64 (x6_1 + 1)) bt232.1 bt232.2)))))) = some (r1, r2) := H
    have A10 := am_ A100
    clear A100
    replace H := Option.bind_eq_some_iff.mp H
    obtain ⟨⟨t215, t216⟩, A110, H⟩ := H
    replace H : ((worldmintref05_Mul.f k1 t211 t212 t215 t216).bind fun bt219 => ((worldmintref05_Of.f k1 (wrap64 ((Int.tmod (wrap64 (Int.tdiv t210 315)) 5) - 2))).bind fun bt224 => ((worldmintref05_Add.f k1 bt219.1 bt219.2 bt224.1 bt224.2).bind fun bt228 => ((worldmintref05_Add.f k1 x209000_1 x209001_1 bt228.1 bt228.2).bind fun bt232 => (worldmintref05_Number.l0 k1 l0 a1 (wrap64 (x6_1 + 1)) bt232.1 bt232.2))))) = some (r1, r2) := H
    have A11 := am_ A110
    clear A110
    replace H := Option.bind_eq_some_iff.mp H
    obtain ⟨⟨t219, t220⟩, A120, H⟩ := H
    replace H : ((worldmintref05_Of.f k1 (wrap64 ((Int.tmod (wrap64 (Int.tdiv t210 315)) 5) - 2))).bind fun bt224 => ((worldmintref05_Add.f k1 t219 t220 bt224.1 bt224.2).bind fun bt228 => ((worldmintref05_Add.f k1 x209000_1 x209001_1 bt228.1 bt228.2).bind fun bt232 => (worldmintref05_Number.l0 k1 l0 a1 (wrap64 (x6_1 + 1)) bt232.1 bt232.2)))) = some (r1, r2) := H
    have A12 := am_ A120
    clear A120
    replace H := Option.bind_eq_some_iff.mp H
    obtain ⟨⟨t224, t225⟩, A130, H⟩ := H
    replace H : ((worldmintref05_Add.f k1 t219 t220 t224 t225).bind fun bt228 => ((worldmintref05_Add.f k1 x209000_1 x209001_1 bt228.1 bt228.2).bind fun bt232 => (worldmintref05_Number.l0 k1 l0 a1 (wrap64 (x6_1 + 1)) bt232.1 bt232.2))) = some (r1, r2) := H
    have A13 := am_ A130
    clear A130
    replace H := Option.bind_eq_some_iff.mp H
    obtain ⟨⟨t228, t229⟩, A140, H⟩ := H
    replace H : ((worldmintref05_Add.f k1 x209000_1 x209001_1 t228 t229).bind fun bt232 => (worldmintref05_Number.l0 k1 l0 a1 (wrap64 (x6_1 + 1)) bt232.1 bt232.2)) = some (r1, r2) := H
    have A14 := am_ A140
    clear A140
    replace H := Option.bind_eq_some_iff.mp H
    obtain ⟨⟨t232, t233⟩, A150, H⟩ := H
    replace H : (worldmintref05_Number.l0 k1 l0 a1 (wrap64 (x6_1 + 1)) t232 t233) = some (r1, r2) := H
    have A15 := am_ A150
    clear A150
    have H' := am_ H
    clear H
    try go_wp2_with (first | ((with_reducible refine gate_callee (f := 45) rfl ?_); refine goesL_ (some 13) rfl rfl Tryz.func45 (by kernel_rfl) rfl #[.slice A0 l0.length c0, .int .i64 a1, .int .i64 5] rfl zq4 ?_; (with_reducible refine (worldmintref01_Pick.calls _ _ l0 a1 5 t209 _ ?side1 ?side2 A7.out).mono ?_); (case side1 => exact zq18); (case side2 => exact HC0.out); rintro e w' ⟨rfl, ⟨nd, rfl⟩⟩; refine ⟨_, rfl, ?_⟩; (try (rw [drewN_self wr]; generalize hq_ : World.drewN wr _ = wr; have n0_ : Aside0 (Kd.V (Kd.int .i64) 3 wr w.heap.size (fun k_ => (w.heap.size ≤ k_) ∧ k_ ≠ gb207 ∧ k_ ≠ gb208) u209001 x209001_1) := ⟨by rw [← hq_]; exact (zq5 HO_209001.out)⟩; have n1_ : Aside0 (wr.heap[gb207]? = some (.cells #[.bool false, .slice none 0 0] 25 (0, 0))) := ⟨by rw [← hq_]; exact (zq9 BK207.out)⟩; have n2_ : Aside0 (wr.heap[gb208]? = some (.cells #[.bool x209000_1, u209001] 25 (0, 0))) := ⟨by rw [← hq_]; exact (zq9 BK208.out)⟩; have n3_ : Aside0 (Below w.heap.size w wr) := ⟨by rw [← hq_]; exact zq39⟩; clear HO_209001 BK207 BK208 HB hq_; have HO_209001 := n0_; have BK207 := n1_; have BK208 := n2_; have HB := n3_; clear n0_ n1_ n2_ n3_; have hqzBK207_0 := (blk_cell BK207.out 0).trans (show _ = some _ from rfl); have hqfBK207_0 := blk_frozen BK207.out 0; have hqzBK207_1 := (blk_cell BK207.out 1).trans (show _ = some _ from rfl); have hqfBK207_1 := blk_frozen BK207.out 1; have hqzBK208_0 := (blk_cell BK208.out 0).trans (show _ = some _ from rfl); have hqfBK208_0 := blk_frozen BK208.out 0; have hqzBK208_1 := (blk_cell BK208.out 1).trans (show _ = some _ from rfl); have hqfBK208_1 := blk_frozen BK208.out 1))) | ((with_reducible refine gate_callee (f := 45) rfl ?_); refine goesL_ (some 23) rfl rfl Tryz.func45 (by kernel_rfl) rfl #[.slice A0 l0.length c0, .int .i64 (wrap64 ((wrap64 (a1 + 1)) + x6_1)), .int .i64 1000000] rfl zq4 ?_; (with_reducible refine (worldmintref01_Pick.calls _ _ l0 (wrap64 ((wrap64 (a1 + 1)) + x6_1)) 1000000 t210 _ ?side1 ?side2 A9.out).mono ?_); (case side1 => exact zq18); (case side2 => exact HC0.out); rintro e w' ⟨rfl, ⟨nd, rfl⟩⟩; refine ⟨_, rfl, ?_⟩; (try (rw [drewN_self wr]; generalize hq_ : World.drewN wr _ = wr; have n0_ : Aside0 (Kd.V (Kd.int .i64) 3 wr w.heap.size (fun k_ => (w.heap.size ≤ k_) ∧ k_ ≠ gb207 ∧ k_ ≠ gb208) u209001 x209001_1) := ⟨by rw [← hq_]; exact (zq5 HO_209001.out)⟩; have n1_ : Aside0 (wr.heap[gb207]? = some (.cells #[.bool false, .slice none 0 0] 25 (0, 0))) := ⟨by rw [← hq_]; exact (zq9 BK207.out)⟩; have n2_ : Aside0 (wr.heap[gb208]? = some (.cells #[.bool x209000_1, u209001] 25 (0, 0))) := ⟨by rw [← hq_]; exact (zq9 BK208.out)⟩; have n3_ : Aside0 (Below w.heap.size w wr) := ⟨by rw [← hq_]; exact zq39⟩; clear HO_209001 BK207 BK208 HB hq_; have HO_209001 := n0_; have BK207 := n1_; have BK208 := n2_; have HB := n3_; clear n0_ n1_ n2_ n3_; have hqzBK207_0 := (blk_cell BK207.out 0).trans (show _ = some _ from rfl); have hqfBK207_0 := blk_frozen BK207.out 0; have hqzBK207_1 := (blk_cell BK207.out 1).trans (show _ = some _ from rfl); have hqfBK207_1 := blk_frozen BK207.out 1; have hqzBK208_0 := (blk_cell BK208.out 0).trans (show _ = some _ from rfl); have hqfBK208_0 := blk_frozen BK208.out 0; have hqzBK208_1 := (blk_cell BK208.out 1).trans (show _ = some _ from rfl); have hqfBK208_1 := blk_frozen BK208.out 1))) | ((with_reducible refine gate_callee (f := 46) rfl ?_); refine goesL_ (some 32) rfl rfl Tryz.func46 (by kernel_rfl) rfl #[.int .i64 (wrap64 ((wrap64 (32 * (Int.tmod t210 7))) + (wrap64 ((Int.tmod (wrap64 (Int.tdiv t210 7)) 5) * 8))))] rfl zq4 ?_; (with_reducible refine (worldmintref05_Power.calls k1 (wrap64 ((wrap64 (32 * (Int.tmod t210 7))) + (wrap64 ((Int.tmod (wrap64 (Int.tdiv t210 7)) 5) * 8)))) t211 t212 _ A10.out).mono ?_); rintro e w16 ⟨v213, rfl, ho0, hb⟩; refine ⟨_, rfl, ?_⟩; replace HO_209001 := am_ (Kd.V_below (zq5 HO_209001.out) hb); have HO214 := am_ (Kd.V_lower (Kd.V_mono (ok' := fun k_ => (w.heap.size ≤ k_) ∧ k_ ≠ gb207 ∧ k_ ≠ gb208) ho0 (fun k_ hk_ => ⟨(Nat.le_trans (below_size zq39) hk_), (Kd.freshB (g := gb207) (o := .cells #[.bool false, .slice none 0 0] 25 (0, 0)) (zq9 BK207.out) k_ hk_), (Kd.freshB (g := gb208) (o := .cells #[.bool x209000_1, u209001] 25 (0, 0)) (zq9 BK208.out) k_ hk_)⟩)) (below_size zq39)); replace BK207 := am_ (blk_below (g := gb207) (o := .cells #[.bool false, .slice none 0 0] 25 (0, 0)) (zq9 BK207.out) hb); replace BK208 := am_ (blk_below (g := gb208) (o := .cells #[.bool x209000_1, u209001] 25 (0, 0)) (zq9 BK208.out) hb); replace HB := am_ (below_step zq39 hb); (try clear hb); (try clear ho0)) | ((with_reducible refine gate_callee (f := 23) rfl ?_); refine goesL_ (some 37) rfl rfl Tryz.func23 (by kernel_rfl) rfl #[.int .i64 (wrap64 ((Int.tmod (wrap64 (Int.tdiv t210 35)) 9) - 4))] rfl zq4 ?_; (with_reducible refine (worldmintref05_Of.calls k1 (wrap64 ((Int.tmod (wrap64 (Int.tdiv t210 35)) 9) - 4)) t215 t216 _ A11.out).mono ?_); rintro e w17 ⟨v217, rfl, ho0, hb⟩; refine ⟨_, rfl, ?_⟩; replace HO_209001 := am_ (Kd.V_below (zq5 HO_209001.out) hb); replace HO214 := am_ (Kd.V_below (zq5 HO214.out) hb); have HO218 := am_ (Kd.V_lower (Kd.V_mono (ok' := fun k_ => (w.heap.size ≤ k_) ∧ k_ ≠ gb207 ∧ k_ ≠ gb208) ho0 (fun k_ hk_ => ⟨(Nat.le_trans (below_size zq39) hk_), (Kd.freshB (g := gb207) (o := .cells #[.bool false, .slice none 0 0] 25 (0, 0)) (zq9 BK207.out) k_ hk_), (Kd.freshB (g := gb208) (o := .cells #[.bool x209000_1, u209001] 25 (0, 0)) (zq9 BK208.out) k_ hk_)⟩)) (below_size zq39)); replace BK207 := am_ (blk_below (g := gb207) (o := .cells #[.bool false, .slice none 0 0] 25 (0, 0)) (zq9 BK207.out) hb); replace BK208 := am_ (blk_below (g := gb208) (o := .cells #[.bool x209000_1, u209001] 25 (0, 0)) (zq9 BK208.out) hb); replace HB := am_ (below_step zq39 hb); (try clear hb); (try clear ho0); obtain ⟨Ao18, co18, eo18⟩ := Kd.V_slice HO214.out; subst eo18; obtain ⟨Ao19, co19, eo19⟩ := Kd.V_slice HO218.out; subst eo19) | ((with_reducible refine gate_callee (f := 28) rfl ?_); refine goesL_ (some 38) rfl rfl Tryz.func28 (by kernel_rfl) rfl #[.agg #[.bool t211, .slice Ao18 t212.length co18], .agg #[.bool t215, .slice Ao19 t216.length co19]] rfl zq4 ?_; (with_reducible refine (worldmintref05_Mul.calls k1 t211 _ _ t212 t215 _ _ t216 t219 t220 _ ?side1 ?side2 ?side3 ?side4 A12.out).mono ?_); (case side1 => exact (zq31 HO214.out)); (case side2 => exact (Kd.V_reads' HO214.out).2.1); (case side3 => exact (zq31 HO218.out)); (case side4 => exact (Kd.V_reads' HO218.out).2.1); rintro e w20 ⟨v221, rfl, ho0, hb⟩; refine ⟨_, rfl, ?_⟩; replace HO_209001 := am_ (Kd.V_below (zq5 HO_209001.out) hb); replace HO214 := am_ (Kd.V_below (zq5 HO214.out) hb); replace HO218 := am_ (Kd.V_below (zq5 HO218.out) hb); have HO222 := am_ (Kd.V_lower (Kd.V_mono (ok' := fun k_ => (w.heap.size ≤ k_) ∧ k_ ≠ gb207 ∧ k_ ≠ gb208) ho0 (fun k_ hk_ => ⟨(Nat.le_trans (below_size zq39) hk_), (Kd.freshB (g := gb207) (o := .cells #[.bool false, .slice none 0 0] 25 (0, 0)) (zq9 BK207.out) k_ hk_), (Kd.freshB (g := gb208) (o := .cells #[.bool x209000_1, u209001] 25 (0, 0)) (zq9 BK208.out) k_ hk_)⟩)) (below_size zq39)); replace BK207 := am_ (blk_below (g := gb207) (o := .cells #[.bool false, .slice none 0 0] 25 (0, 0)) (zq9 BK207.out) hb); replace BK208 := am_ (blk_below (g := gb208) (o := .cells #[.bool x209000_1, u209001] 25 (0, 0)) (zq9 BK208.out) hb); replace HB := am_ (below_step zq39 hb); (try clear hb); (try clear ho0)) | ((with_reducible refine gate_dst (N := 8) rfl ?_); refine box_event ?hg (N := 8) ?hd (cs := #[.bool false, .slice none 0 0]) (t := 25) ?hr ?_; (case hd => rfl); (case hg => rfl); (case hr => exact zq1); intro gb223 hg w21 hbox hb; have n0_ := am_ (Kd.V_below (Kd.V_elderB (zq5 HO_209001.out) gb223 (Nat.le_of_eq hg.symm)) hb); have n1_ := am_ (Kd.V_below (Kd.V_elderB (zq5 HO214.out) gb223 (Nat.le_of_eq hg.symm)) hb); have n2_ := am_ (Kd.V_below (Kd.V_elderB (zq5 HO218.out) gb223 (Nat.le_of_eq hg.symm)) hb); have n3_ := am_ (Kd.V_below (Kd.V_elderB (zq5 HO222.out) gb223 (Nat.le_of_eq hg.symm)) hb); have n4_ := am_ (blk_below (g := gb207) (o := .cells #[.bool false, .slice none 0 0] 25 (0, 0)) (zq9 BK207.out) hb); have n5_ := am_ (blk_below (g := gb208) (o := .cells #[.bool x209000_1, u209001] 25 (0, 0)) (zq9 BK208.out) hb); have n6_ := am_ (below_step zq39 hb); have n7_ := am_ (hbox); have n8_ := am_ ((by rw [hg]; exact (below_size zq39) : w.heap.size ≤ gb223)); have n9_ := am_ ((by rw [hg]; exact Nat.ne_of_lt (blk_lt (g := gb207) (zq9 BK207.out)) : gb207 ≠ gb223)); have n10_ := am_ ((by rw [hg]; exact Nat.ne_of_gt (blk_lt (g := gb207) (zq9 BK207.out)) : gb223 ≠ gb207)); have n11_ := am_ ((by rw [hg]; exact Nat.ne_of_lt (blk_lt (g := gb208) (zq9 BK208.out)) : gb208 ≠ gb223)); have n12_ := am_ ((by rw [hg]; exact Nat.ne_of_gt (blk_lt (g := gb208) (zq9 BK208.out)) : gb223 ≠ gb208)); clear HO_209001 HO214 HO218 HO222 BK207 BK208 HB; have HO_209001 := n0_; have HO214 := n1_; have HO218 := n2_; have HO222 := n3_; have BK207 := n4_; have BK208 := n5_; have HB := n6_; have BK223 := n7_; have GE223 := n8_; have NB207_223 := n9_; have NB223_207 := n10_; have NB208_223 := n11_; have NB223_208 := n12_; clear n0_ n1_ n2_ n3_ n4_ n5_ n6_ n7_ n8_ n9_ n10_ n11_ n12_; clear hb hbox hg; have hnb22 := NB223_207.out; have hnc22 := NB207_223.out; have hnb23 := NB223_208.out; have hnc23 := NB208_223.out; have hcz24_0 : w21.cell? ⟨gb223, 0, none⟩ = some (.bool false) := (blk_cell BK223.out 0).trans rfl; have hcz24_1 : w21.cell? ⟨gb223, 1, none⟩ = some (.slice none 0 0) := (blk_cell BK223.out 1).trans rfl; have hfz24_0 := blk_frozen BK223.out 0; have hfz24_1 := blk_frozen BK223.out 1; obtain ⟨Ao25, co25, eo25⟩ := Kd.V_slice HO222.out; subst eo25))
    have n0_ : Aside0 (Kd.V (Kd.int .i64) 3 ((w21.setCell ⟨gb223, 0, none⟩ (.bool t219)).setCell ⟨gb223, 1, none⟩ (.slice Ao25 t220.length co25)) w.heap.size (fun k_ => (w.heap.size ≤ k_) ∧ k_ ≠ gb207 ∧ k_ ≠ gb208 ∧ k_ ≠ gb223) u209001 x209001_1) := ⟨by (with_reducible repeat (first | apply Kd.V_alloc | apply Kd.V_drewN | apply Kd.V_drew)); exact Kd.V_mono (Kd.V_far (p := ⟨gb223, 1, none⟩) (Kd.V_far (p := ⟨gb223, 0, none⟩) (Kd.V_mono HO_209001.out (fun k_ hk => (⟨hk, hk.2⟩ : _ ∧ k_ ≠ gb223))) (fun _ hk => hk.2) (.bool t219)) (fun _ hk => hk.2) (.slice Ao25 t220.length co25)) (fun _ hk => ⟨hk.1.1.1, ⟨hk.1.1.2.1, ⟨hk.1.1.2.2, hk.1.2⟩⟩⟩)⟩
    have n1_ : Aside0 (Kd.V (Kd.int .i64) 3 ((w21.setCell ⟨gb223, 0, none⟩ (.bool t219)).setCell ⟨gb223, 1, none⟩ (.slice Ao25 t220.length co25)) w.heap.size (fun k_ => (w.heap.size ≤ k_) ∧ k_ ≠ gb207 ∧ k_ ≠ gb208 ∧ k_ ≠ gb223) (.slice Ao18 t212.length co18) t212) := ⟨by (with_reducible repeat (first | apply Kd.V_alloc | apply Kd.V_drewN | apply Kd.V_drew)); exact Kd.V_mono (Kd.V_far (p := ⟨gb223, 1, none⟩) (Kd.V_far (p := ⟨gb223, 0, none⟩) (Kd.V_mono HO214.out (fun k_ hk => (⟨hk, hk.2⟩ : _ ∧ k_ ≠ gb223))) (fun _ hk => hk.2) (.bool t219)) (fun _ hk => hk.2) (.slice Ao25 t220.length co25)) (fun _ hk => ⟨hk.1.1.1, ⟨hk.1.1.2.1, ⟨hk.1.1.2.2, hk.1.2⟩⟩⟩)⟩
    have n2_ : Aside0 (Kd.V (Kd.int .i64) 3 ((w21.setCell ⟨gb223, 0, none⟩ (.bool t219)).setCell ⟨gb223, 1, none⟩ (.slice Ao25 t220.length co25)) w.heap.size (fun k_ => (w.heap.size ≤ k_) ∧ k_ ≠ gb207 ∧ k_ ≠ gb208 ∧ k_ ≠ gb223) (.slice Ao19 t216.length co19) t216) := ⟨by (with_reducible repeat (first | apply Kd.V_alloc | apply Kd.V_drewN | apply Kd.V_drew)); exact Kd.V_mono (Kd.V_far (p := ⟨gb223, 1, none⟩) (Kd.V_far (p := ⟨gb223, 0, none⟩) (Kd.V_mono HO218.out (fun k_ hk => (⟨hk, hk.2⟩ : _ ∧ k_ ≠ gb223))) (fun _ hk => hk.2) (.bool t219)) (fun _ hk => hk.2) (.slice Ao25 t220.length co25)) (fun _ hk => ⟨hk.1.1.1, ⟨hk.1.1.2.1, ⟨hk.1.1.2.2, hk.1.2⟩⟩⟩)⟩
    have n3_ : Aside0 (Kd.V (Kd.int .i64) 3 ((w21.setCell ⟨gb223, 0, none⟩ (.bool t219)).setCell ⟨gb223, 1, none⟩ (.slice Ao25 t220.length co25)) w.heap.size (fun k_ => (w.heap.size ≤ k_) ∧ k_ ≠ gb207 ∧ k_ ≠ gb208 ∧ k_ ≠ gb223) (.slice Ao25 t220.length co25) t220) := ⟨by (with_reducible repeat (first | apply Kd.V_alloc | apply Kd.V_drewN | apply Kd.V_drew)); exact Kd.V_mono (Kd.V_far (p := ⟨gb223, 1, none⟩) (Kd.V_far (p := ⟨gb223, 0, none⟩) (Kd.V_mono HO222.out (fun k_ hk => (⟨hk, hk.2⟩ : _ ∧ k_ ≠ gb223))) (fun _ hk => hk.2) (.bool t219)) (fun _ hk => hk.2) (.slice Ao25 t220.length co25)) (fun _ hk => ⟨hk.1.1.1, ⟨hk.1.1.2.1, ⟨hk.1.1.2.2, hk.1.2⟩⟩⟩)⟩
    have n4_ : Aside0 (((w21.setCell ⟨gb223, 0, none⟩ (.bool t219)).setCell ⟨gb223, 1, none⟩ (.slice Ao25 t220.length co25)).heap[gb207]? = some (.cells #[.bool false, .slice none 0 0] 25 (0, 0))) := ⟨by (with_reducible repeat (first | refine blk_drewN ?_ _ | refine blk_drew ?_ | refine blk_alloc ?_ _)); refine blk_far ?_ NB207_223.out _; (with_reducible repeat (first | refine blk_drewN ?_ _ | refine blk_drew ?_ | refine blk_alloc ?_ _)); refine blk_far ?_ NB207_223.out _; (with_reducible repeat (first | refine blk_drewN ?_ _ | refine blk_drew ?_ | refine blk_alloc ?_ _)); exact BK207.out⟩
    have n5_ : Aside0 (((w21.setCell ⟨gb223, 0, none⟩ (.bool t219)).setCell ⟨gb223, 1, none⟩ (.slice Ao25 t220.length co25)).heap[gb208]? = some (.cells #[.bool x209000_1, u209001] 25 (0, 0))) := ⟨by (with_reducible repeat (first | refine blk_drewN ?_ _ | refine blk_drew ?_ | refine blk_alloc ?_ _)); refine blk_far ?_ NB208_223.out _; (with_reducible repeat (first | refine blk_drewN ?_ _ | refine blk_drew ?_ | refine blk_alloc ?_ _)); refine blk_far ?_ NB208_223.out _; (with_reducible repeat (first | refine blk_drewN ?_ _ | refine blk_drew ?_ | refine blk_alloc ?_ _)); exact BK208.out⟩
    have n6_ : Aside0 (((w21.setCell ⟨gb223, 0, none⟩ (.bool t219)).setCell ⟨gb223, 1, none⟩ (.slice Ao25 t220.length co25)).heap[gb223]? = some (.cells #[.bool t219, .slice Ao25 t220.length co25] 25 (0, 0))) := ⟨by (with_reducible repeat (first | refine blk_drewN ?_ _ | refine blk_drew ?_ | refine blk_alloc ?_ _)); refine blk_put (cs := #[.bool t219, .slice none 0 0]) ?_ 1 _ rfl; (with_reducible repeat (first | refine blk_drewN ?_ _ | refine blk_drew ?_ | refine blk_alloc ?_ _)); refine blk_put (cs := #[.bool false, .slice none 0 0]) ?_ 0 _ rfl; (with_reducible repeat (first | refine blk_drewN ?_ _ | refine blk_drew ?_ | refine blk_alloc ?_ _)); exact BK223.out⟩
    have n7_ : Aside0 (Below w.heap.size w ((w21.setCell ⟨gb223, 0, none⟩ (.bool t219)).setCell ⟨gb223, 1, none⟩ (.slice Ao25 t220.length co25))) := ⟨by repeat (first | (with_reducible first | exact HB.out | apply below_alloc | apply pw_below_drewN | apply below_drew1 | refine below_set ?_ GE207.out | refine below_set ?_ GE208.out | refine below_set ?_ GE223.out) | exact HB.out)⟩
    
    generalize ((w21.setCell ⟨gb223, 0, none⟩ (.bool t219)).setCell ⟨gb223, 1, none⟩ (.slice Ao25 t220.length co25)) = w26 at n0_ n1_ n2_ n3_ n4_ n5_ n6_ n7_ ⊢
    have HO_209001 := n0_; have HO214 := n1_; have HO218 := n2_; have HO222 := n3_; have BK207 := n4_; have BK208 := n5_; have BK223 := n6_; have HB := n7_; clear n0_ n1_ n2_ n3_ n4_ n5_ n6_ n7_; replace HO_209001 := am_ (Kd.V_drew HO_209001.out); replace HO214 := am_ (Kd.V_drew HO214.out); replace HO218 := am_ (Kd.V_drew HO218.out); replace HO222 := am_ (Kd.V_drew HO222.out); replace BK207 := am_ (blk_drew BK207.out); replace BK208 := am_ (blk_drew BK208.out); replace BK223 := am_ (blk_drew BK223.out); replace HB := am_ (below_drew1 HB.out)
    refine start_ (n := 10) (S := fun w' => w'.cell? ⟨gb208, 0, none⟩ = some (.bool x209000_1) ∧ w'.cell? ⟨gb208, 1, none⟩ = some (u209001) ∧ w'.cell? ⟨gb223, 0, none⟩ = some (.bool t219) ∧ w'.cell? ⟨gb223, 1, none⟩ = some (.slice Ao25 t220.length co25)) (ds := [9]) #[false, false, false, false, false, false, false, false, false, false] (by kernel_rfl) rfl rfl ⟨(blk_cell BK208.out 0).trans rfl, (blk_cell BK208.out 1).trans rfl, (blk_cell BK223.out 0).trans rfl, (blk_cell BK223.out 1).trans rfl⟩ (fun hHeld => ?_); refine with_tabW worldmintref05_Number.tab7 worldmintref05_Number.bits7 (fun HT_ HW_ => ?_)
    generalize w26.drew = w27 at HO_209001 HO214 HO218 HO222 BK207 BK208 BK223 HB hHeld ⊢
    refine pure_ (i := 2) (N := some 41) (v := ?_) (a' := ?_) #[false, false, true, false, false, false, false, false, false, false] rfl rfl (any_of HT_.out (by kernel_rfl)) (fun _ _ _ h => h) (Or.inl ⟨by rfl, ?_⟩) ?_ ?_
    rotate_left
    ·intro w'
     go_simp
     with_reducible rfl
    rotate_left
    ·exact za_
    refine pure_ (i := 3) (N := some 42) (v := ?_) (a' := ?_) #[false, false, true, true, false, false, false, false, false, false] rfl rfl (any_of HT_.out (by kernel_rfl)) (fun _ _ _ h => h) (Or.inl ⟨by rfl, ?_⟩) ?_ ?_
    rotate_left
    ·intro w'
     go_simp
     with_reducible rfl
    rotate_left
    ·exact za_
    refine pure_ (i := 4) (N := some 43) (v := ?_) (a' := ?_) #[false, false, true, true, true, false, false, false, false, false] rfl rfl (any_of HT_.out (by kernel_rfl)) (fun _ _ _ h => h) (Or.inl ⟨by rfl, ?_⟩) ?_ ?_
    rotate_left
    ·intro w'
     go_simp
     with_reducible rfl
    rotate_left
    ·exact za_
    refine pure_ (i := 5) (N := some 44) (v := ?_) (a' := ?_) #[false, false, true, true, true, true, false, false, false, false] rfl rfl (any_of HT_.out (by kernel_rfl)) (fun _ _ _ h => h) (Or.inl ⟨by rfl, ?_⟩) ?_ ?_
    rotate_left
    ·intro w'
     go_simp
     with_reducible rfl
    rotate_left
    ·exact za_
    refine take_ (i := 0) (N := some 39) (v := ?_) (a' := ?_) #[true, false, true, true, true, true, false, false, false, false] rfl rfl (take_ofW HT_.out HW_.out (by kernel_rfl)) (fun _ _ _ h => h) (Or.inl ⟨by rfl, ?_⟩) hHeld ?_ ?_
    rotate_left
    ·rintro w' ⟨s0, s1, s2, s3⟩
     go_simp
     with_reducible rfl
    rotate_left
    ·exact za_
    refine take_ (i := 1) (N := some 40) (v := ?_) (a' := ?_) #[true, true, true, true, true, true, false, false, false, false] rfl rfl (take_ofW HT_.out HW_.out (by kernel_rfl)) (fun _ _ _ h => h) (Or.inl ⟨by rfl, ?_⟩) hHeld ?_ ?_
    rotate_left
    ·rintro w' ⟨s0, s1, s2, s3⟩
     go_simp
     with_reducible rfl
    rotate_left
    ·exact za_
    refine one_ (i := 6) (N := some 45) #[true, true, true, true, true, true, true, false, false, false] rfl rfl (one_of HT_.out (by kernel_rfl)) (by decide) (fun K hK => ?_)
    refine goes_ Tryz.func23 (by kernel_rfl) rfl #[.int .i64 (wrap64 ((Int.tmod (wrap64 (Int.tdiv t210 315)) 5) - 2))] (by rfl) rfl rfl zq4 ?_
    with_reducible refine (worldmintref05_Of.calls k1 (wrap64 ((Int.tmod (wrap64 (Int.tdiv t210 315)) 5) - 2)) t224 t225 _ A13.out).mono ?_
    rintro e w28 ⟨v226, rfl, ho0, hb⟩
    refine ⟨_, rfl, ?_⟩
    replace HO_209001 := am_ (Kd.V_below (zq5 HO_209001.out) hb); replace HO222 := am_ (Kd.V_below (zq5 HO222.out) hb); have HO227 := am_ (Kd.V_lower (Kd.V_mono (ok' := fun k_ => (w.heap.size ≤ k_) ∧ k_ ≠ gb207 ∧ k_ ≠ gb208 ∧ k_ ≠ gb223) ho0 (fun k_ hk_ => ⟨(Nat.le_trans (below_size zq40) hk_), (Kd.freshB (g := gb207) (o := .cells #[.bool false, .slice none 0 0] 25 (0, 0)) (zq9 BK207.out) k_ hk_), (Kd.freshB (g := gb208) (o := .cells #[.bool x209000_1, u209001] 25 (0, 0)) (zq9 BK208.out) k_ hk_), (Kd.freshB (g := gb223) (o := .cells #[.bool t219, .slice Ao25 t220.length co25] 25 (0, 0)) (zq9 BK223.out) k_ hk_)⟩)) (below_size zq40)); replace BK207 := am_ (blk_below (g := gb207) (o := .cells #[.bool false, .slice none 0 0] 25 (0, 0)) (zq9 BK207.out) hb); replace BK208 := am_ (blk_below (g := gb208) (o := .cells #[.bool x209000_1, u209001] 25 (0, 0)) (zq9 BK208.out) hb); replace BK223 := am_ (blk_below (g := gb223) (o := .cells #[.bool t219, .slice Ao25 t220.length co25] 25 (0, 0)) (zq9 BK223.out) hb); replace HB := am_ (below_step zq40 hb); (try clear hb); (try clear ho0)
    obtain ⟨Ao29, co29, eo29⟩ := Kd.V_slice HO227.out
    (first | subst eo29 | (injection eo29 with f1_ f2_ f3_; have f4_ := f1_.symm; have f5_ := f3_.symm; clear f1_ f2_ f3_; subst f4_; subst f5_))
    refine hK.out _ _ ⟨(blk_cell BK208.out 0).trans rfl, (blk_cell BK208.out 1).trans rfl, (blk_cell BK223.out 0).trans rfl, (blk_cell BK223.out 1).trans rfl⟩ (fun hHeld => ?_)
    clear hK K
    refine norm_ (a' := ?_) ?_ ?_
    rotate_left
    ·show Act.put _ (some 45) _ = _
     exact za_
    refine one_ (i := 7) (N := some 46) #[true, true, true, true, true, true, true, true, false, false] rfl rfl (one_of HT_.out (by kernel_rfl)) (by decide) (fun K hK => ?_)
    refine goes_ Tryz.func29 (by kernel_rfl) rfl #[.agg #[.bool t219, .slice Ao25 t220.length co25], .agg #[.bool t224, .slice Ao29 t225.length co29]] (by rfl) rfl rfl zq4 ?_
    with_reducible refine (worldmintref05_Add.calls k1 t219 _ _ t220 t224 _ _ t225 t228 t229 _ ?side1 ?side2 ?side3 ?side4 A14.out).mono ?_
    (case side1 => exact (zq31 HO222.out))
    (case side2 => exact (Kd.V_reads' HO222.out).2.1)
    (case side3 => exact (zq31 HO227.out))
    (case side4 => exact (Kd.V_reads' HO227.out).2.1)
    rintro e w30 ⟨v230, rfl, ho0, hb⟩
    refine ⟨_, rfl, ?_⟩
    replace HO_209001 := am_ (Kd.V_below (zq5 HO_209001.out) hb); have HO231 := am_ (Kd.V_lower (Kd.V_mono (ok' := fun k_ => (w.heap.size ≤ k_) ∧ k_ ≠ gb207 ∧ k_ ≠ gb208 ∧ k_ ≠ gb223) ho0 (fun k_ hk_ => ⟨(Nat.le_trans (below_size zq40) hk_), (Kd.freshB (g := gb207) (o := .cells #[.bool false, .slice none 0 0] 25 (0, 0)) (zq9 BK207.out) k_ hk_), (Kd.freshB (g := gb208) (o := .cells #[.bool x209000_1, u209001] 25 (0, 0)) (zq9 BK208.out) k_ hk_), (Kd.freshB (g := gb223) (o := .cells #[.bool t219, .slice Ao25 t220.length co25] 25 (0, 0)) (zq9 BK223.out) k_ hk_)⟩)) (below_size zq40)); replace BK207 := am_ (blk_below (g := gb207) (o := .cells #[.bool false, .slice none 0 0] 25 (0, 0)) (zq9 BK207.out) hb); replace BK208 := am_ (blk_below (g := gb208) (o := .cells #[.bool x209000_1, u209001] 25 (0, 0)) (zq9 BK208.out) hb); replace BK223 := am_ (blk_below (g := gb223) (o := .cells #[.bool t219, .slice Ao25 t220.length co25] 25 (0, 0)) (zq9 BK223.out) hb); replace HB := am_ (below_step zq40 hb); (try clear hb); (try clear ho0)
    obtain ⟨Ao31, co31, eo31⟩ := Kd.V_slice HO_209001.out
    (first | subst eo31 | (injection eo31 with f1_ f2_ f3_; have f4_ := f1_.symm; have f5_ := f3_.symm; clear f1_ f2_ f3_; subst f4_; subst f5_))
    obtain ⟨Ao32, co32, eo32⟩ := Kd.V_slice HO231.out
    (first | subst eo32 | (injection eo32 with f1_ f2_ f3_; have f4_ := f1_.symm; have f5_ := f3_.symm; clear f1_ f2_ f3_; subst f4_; subst f5_))
    refine hK.out _ _ ⟨(blk_cell BK208.out 0).trans rfl, (blk_cell BK208.out 1).trans rfl, (blk_cell BK223.out 0).trans rfl, (blk_cell BK223.out 1).trans rfl⟩ (fun hHeld => ?_)
    clear hK K
    refine norm_ (a' := ?_) ?_ ?_
    rotate_left
    ·show Act.put _ (some 46) _ = _
     exact za_
    refine one_ (i := 8) (N := some 47) #[true, true, true, true, true, true, true, true, true, false] rfl rfl (one_of HT_.out (by kernel_rfl)) (by decide) (fun K hK => ?_)
    refine goes_ Tryz.func29 (by kernel_rfl) rfl #[.agg #[.bool x209000_1, .slice Ao31 x209001_1.length co31], .agg #[.bool t228, .slice Ao32 t229.length co32]] (by rfl) rfl rfl zq4 ?_
    with_reducible refine (worldmintref05_Add.calls k1 x209000_1 _ _ x209001_1 t228 _ _ t229 t232 t233 _ ?side1 ?side2 ?side3 ?side4 A15.out).mono ?_
    (case side1 => exact (zq31 HO_209001.out))
    (case side2 => exact (Kd.V_reads' HO_209001.out).2.1)
    (case side3 => exact (zq31 HO231.out))
    (case side4 => exact (Kd.V_reads' HO231.out).2.1)
    rintro e w33 ⟨v234, rfl, ho0, hb⟩
    refine ⟨_, rfl, ?_⟩
    replace HO_209001 := am_ (Kd.V_below (zq5 HO_209001.out) hb); have HO235 := am_ (Kd.V_lower (Kd.V_mono (ok' := fun k_ => (w.heap.size ≤ k_) ∧ k_ ≠ gb207 ∧ k_ ≠ gb208 ∧ k_ ≠ gb223) ho0 (fun k_ hk_ => ⟨(Nat.le_trans (below_size zq40) hk_), (Kd.freshB (g := gb207) (o := .cells #[.bool false, .slice none 0 0] 25 (0, 0)) (zq9 BK207.out) k_ hk_), (Kd.freshB (g := gb208) (o := .cells #[.bool x209000_1, .slice Ao31 x209001_1.length co31] 25 (0, 0)) (zq9 BK208.out) k_ hk_), (Kd.freshB (g := gb223) (o := .cells #[.bool t219, .slice Ao25 t220.length co25] 25 (0, 0)) (zq9 BK223.out) k_ hk_)⟩)) (below_size zq40)); replace BK207 := am_ (blk_below (g := gb207) (o := .cells #[.bool false, .slice none 0 0] 25 (0, 0)) (zq9 BK207.out) hb); replace BK208 := am_ (blk_below (g := gb208) (o := .cells #[.bool x209000_1, .slice Ao31 x209001_1.length co31] 25 (0, 0)) (zq9 BK208.out) hb); replace BK223 := am_ (blk_below (g := gb223) (o := .cells #[.bool t219, .slice Ao25 t220.length co25] 25 (0, 0)) (zq9 BK223.out) hb); replace HB := am_ (below_step zq40 hb); (try clear hb); (try clear ho0)
    obtain ⟨Ao35, co35, eo35⟩ := Kd.V_slice HO235.out
    (first | subst eo35 | (injection eo35 with f1_ f2_ f3_; have f4_ := f1_.symm; have f5_ := f3_.symm; clear f1_ f2_ f3_; subst f4_; subst f5_))
    refine hK.out _ _ ⟨(blk_cell BK208.out 0).trans rfl, (blk_cell BK208.out 1).trans rfl, (blk_cell BK223.out 0).trans rfl, (blk_cell BK223.out 1).trans rfl⟩ (fun hHeld => ?_)
    clear hK K
    refine norm_ (a' := ?_) ?_ ?_
    rotate_left
    ·show Act.put _ (some 47) _ = _
     exact za_
    refine last_ (i := 9) (N := none) #[true, true, true, true, true, true, true, true, true, true] rfl rfl (one_of HT_.out (by kernel_rfl)) (by decide) (fun K hK => ?_)
    have hs34 : w33.cell? ⟨gb208, 0, none⟩ = some (.bool x209000_1) := (blk_cell BK208.out 0).trans rfl
    have hfs34 := blk_frozen BK208.out 0
    have hns34_0 := NB207_208.out
    have hns34_2 := NB223_208.out
    have hms34_0 := NB208_207.out
    have hms34_2 := NB208_223.out
    have hs36 : w33.cell? ⟨gb208, 1, none⟩ = some (.slice Ao31 x209001_1.length co31) := (blk_cell BK208.out 1).trans rfl
    have hfs36 := blk_frozen BK208.out 1
    have hns36_0 := NB207_208.out
    have hns36_2 := NB223_208.out
    have hms36_0 := NB208_207.out
    have hms36_2 := NB208_223.out
    refine skip_ (w1 := ?_) (by rfl) rfl ?_ ?_
    rotate_left
    ·go_simp
     rfl
    refine hK.out _ _ ?_
    clear hK K
    refine done_ (done_of HT_.out (by kernel_rfl)) ?_
    try go_wp2
    go_roundg k1
    case measure => have := HK1.out; omega
    case rel => exact ⟨(wrap64 (x6_1 + 1)), (t232), (t233), (.slice Ao35 t233.length co35), zq0, H', ⟨by have := HK1.out; omega⟩, ⟨by (with_reducible repeat (first | apply Kd.V_alloc | apply Kd.V_drewN | apply Kd.V_drew)); exact Kd.V_mono (Kd.V_far (p := ⟨gb208, 1, none⟩) (Kd.V_far (p := ⟨gb208, 0, none⟩) (Kd.V_mono HO235.out (fun k_ hk => (⟨hk, hk.2.2.1⟩ : _ ∧ k_ ≠ gb208))) (fun _ hk => hk.2) (.bool t232)) (fun _ hk => hk.2) (.slice Ao35 t233.length co35)) (fun _ hk => ⟨hk.1.1, ⟨hk.1.2.1, hk.1.2.2.1⟩⟩)⟩, ⟨by (with_reducible repeat (first | refine blk_drewN ?_ _ | refine blk_drew ?_ | refine blk_alloc ?_ _)); refine blk_far ?_ NB207_208.out _; (with_reducible repeat (first | refine blk_drewN ?_ _ | refine blk_drew ?_ | refine blk_alloc ?_ _)); refine blk_far ?_ NB207_208.out _; (with_reducible repeat (first | refine blk_drewN ?_ _ | refine blk_drew ?_ | refine blk_alloc ?_ _)); exact BK207.out⟩, ⟨by (with_reducible repeat (first | refine blk_drewN ?_ _ | refine blk_drew ?_ | refine blk_alloc ?_ _)); refine blk_put (cs := #[.bool t232, .slice Ao31 x209001_1.length co31]) ?_ 1 _ rfl; (with_reducible repeat (first | refine blk_drewN ?_ _ | refine blk_drew ?_ | refine blk_alloc ?_ _)); refine blk_put (cs := #[.bool x209000_1, .slice Ao31 x209001_1.length co31]) ?_ 0 _ rfl; (with_reducible repeat (first | refine blk_drewN ?_ _ | refine blk_drew ?_ | refine blk_alloc ?_ _)); exact BK208.out⟩, ⟨by repeat (first | (with_reducible first | exact HB.out | apply below_alloc | apply pw_below_drewN | apply below_drew1 | refine below_set ?_ GE207.out | refine below_set ?_ GE208.out | refine below_set ?_ GE223.out) | exact HB.out)⟩⟩
   ·rw [if_neg c8] at H
    have c8b0 : decide (x6_1 < (wrap64 (1 + t209))) = false := decide_eq_false c8
    clear c8
    simp only [Option.some.injEq, Prod.mk.injEq] at H
    obtain ⟨rfl, rfl⟩ := H
    go_wp2_with (first | ((with_reducible refine gate_callee (f := 45) rfl ?_); refine goesL_ (some 13) rfl rfl Tryz.func45 (by kernel_rfl) rfl #[.slice A0 l0.length c0, .int .i64 a1, .int .i64 5] rfl zq4 ?_; (with_reducible refine (worldmintref01_Pick.calls _ _ l0 a1 5 t209 _ ?side1 ?side2 A7.out).mono ?_); (case side1 => exact zq18); (case side2 => exact HC0.out); rintro e w' ⟨rfl, ⟨nd, rfl⟩⟩; refine ⟨_, rfl, ?_⟩; (try (rw [drewN_self wr]; generalize hq_ : World.drewN wr _ = wr; have n0_ : Aside0 (Kd.V (Kd.int .i64) 3 wr w.heap.size (fun k_ => (w.heap.size ≤ k_) ∧ k_ ≠ gb207 ∧ k_ ≠ gb208) u209001 x209001_1) := ⟨by rw [← hq_]; exact (zq5 HO_209001.out)⟩; have n1_ : Aside0 (wr.heap[gb207]? = some (.cells #[.bool false, .slice none 0 0] 25 (0, 0))) := ⟨by rw [← hq_]; exact (zq9 BK207.out)⟩; have n2_ : Aside0 (wr.heap[gb208]? = some (.cells #[.bool x209000_1, u209001] 25 (0, 0))) := ⟨by rw [← hq_]; exact (zq9 BK208.out)⟩; have n3_ : Aside0 (Below w.heap.size w wr) := ⟨by rw [← hq_]; exact zq39⟩; clear HO_209001 BK207 BK208 HB hq_; have HO_209001 := n0_; have BK207 := n1_; have BK208 := n2_; have HB := n3_; clear n0_ n1_ n2_ n3_; have hqzBK207_0 := (blk_cell BK207.out 0).trans (show _ = some _ from rfl); have hqfBK207_0 := blk_frozen BK207.out 0; have hqzBK207_1 := (blk_cell BK207.out 1).trans (show _ = some _ from rfl); have hqfBK207_1 := blk_frozen BK207.out 1; have hqzBK208_0 := (blk_cell BK208.out 0).trans (show _ = some _ from rfl); have hqfBK208_0 := blk_frozen BK208.out 0; have hqzBK208_1 := (blk_cell BK208.out 1).trans (show _ = some _ from rfl); have hqfBK208_1 := blk_frozen BK208.out 1)); have hnb37 := NB208_207.out; have hnc37 := NB207_208.out; have hcz38_0 : wr.cell? ⟨gb208, 0, none⟩ = some (.bool x209000_1) := (blk_cell BK208.out 0).trans rfl; have hcz38_1 : wr.cell? ⟨gb208, 1, none⟩ = some (u209001) := (blk_cell BK208.out 1).trans rfl; have hfz38_0 := blk_frozen BK208.out 0; have hfz38_1 := blk_frozen BK208.out 1; have hcz39_0 : wr.cell? ⟨gb207, 0, none⟩ = some (.bool false) := (blk_cell BK207.out 0).trans rfl; have hcz39_1 : wr.cell? ⟨gb207, 1, none⟩ = some (.slice none 0 0) := (blk_cell BK207.out 1).trans rfl; have hfz39_0 := blk_frozen BK207.out 0; have hfz39_1 := blk_frozen BK207.out 1; obtain ⟨Ao40, co40, eo40⟩ := Kd.V_slice HO_209001.out; subst eo40))
    refine bodyPost_ret (results_cell_row rfl _ _ gb207 25 #[.bool x209000_1, .slice Ao40 x209001_1.length co40] (0, 0) _ rfl (by (with_reducible repeat (first | refine blk_drewN ?_ _ | refine blk_drew ?_ | refine blk_alloc ?_ _)); refine blk_put (cs := #[.bool x209000_1, .slice none 0 0]) ?_ 1 _ rfl; (with_reducible repeat (first | refine blk_drewN ?_ _ | refine blk_drew ?_ | refine blk_alloc ?_ _)); refine blk_put (cs := #[.bool false, .slice none 0 0]) ?_ 0 _ rfl; (with_reducible repeat (first | refine blk_drewN ?_ _ | refine blk_drew ?_ | refine blk_alloc ?_ _)); exact BK207.out) Tryz.underlying25 rfl (by kernel_rfl)) rfl ?_
    exact ⟨_, by first | rfl | (simp [errW_none, errW_some] <;> rfl) | (simp [*, errW_none, errW_some] <;> rfl), by (with_reducible repeat (first | apply Kd.V_alloc | apply Kd.V_drewN | apply Kd.V_drew)); exact Kd.V_mono (Kd.V_far (p := ⟨gb207, 1, none⟩) (Kd.V_far (p := ⟨gb207, 0, none⟩) (Kd.V_mono HO_209001.out (fun k_ hk => (⟨hk, hk.2.1⟩ : _ ∧ k_ ≠ gb207))) (fun _ hk => hk.2) (.bool x209000_1)) (fun _ hk => hk.2) (.slice Ao40 x209001_1.length co40)) (fun _ hk => hk.1.1), by repeat (first | (with_reducible first | exact HB.out | apply below_alloc | apply pw_below_drewN | apply below_drew1 | refine below_set ?_ GE207.out | refine below_set ?_ GE208.out) | exact HB.out)⟩

/-! ### worldmintref01_Short: function 15 -/
def worldmintref01_Short.f (a0 : ByteArray) (a1 : Int) : Option (ByteArray) := if (a0.size : Int) > a1 then (if 0 ≤ a1 then (if a1 ≤ (a0.size : Int) then (some (a0.extract 0 (a1 : Int).toNat)) else (none)) else (none)) else (some a0)
set_option maxHeartbeats 8000000 in
set_option maxRecDepth 100000 in
theorem worldmintref01_Short.calls (a0 : ByteArray) (a1 : Int) (r : ByteArray) (w : World) (h : worldmintref01_Short.f a0 a1 = some r) :
  Calls Tryz.prog 15 #[.string a0, .int .i64 a1] w fun e w' => e = .returned (.string r) ∧ Drawn0 w w' := by
 have H : (if (a0.size : Int) > a1 then (if 0 ≤ a1 then (if a1 ≤ (a0.size : Int) then (some (a0.extract 0 (a1 : Int).toNat)) else (none)) else (none)) else (some a0)) = some r := h
 clear h
 by_cases c3 : (a0.size : Int) > a1
 ·rw [if_pos c3] at H
  have c3b0 : decide (a1 < (a0.size : Int)) = true := decide_eq_true c3
  clear c3
  by_cases c4 : 0 ≤ a1
  ·rw [if_pos c4] at H
   have c4b0 := eq_true c4
   have c4b1 : decide (0 ≤ a1) = true := decide_eq_true c4
   clear c4
   by_cases c5 : a1 ≤ (a0.size : Int)
   ·rw [if_pos c5] at H
    have c5b0 := eq_true c5
    have c5b1 : decide (a1 ≤ (a0.size : Int)) = true := decide_eq_true c5
    clear c5
    obtain rfl := Option.some.inj H
    go_enter Tryz.func15, Tryz.ntmps15
    go_wp2
    go_ret
    exact ⟨by first | rfl | (simp; done) | (simp [*]; done), by repeat (first | exact Drawn0.refl _ | apply Drawn0.step)⟩
   ·rw [if_neg c5] at H
    exact absurd H (by simp)
  ·rw [if_neg c4] at H
   exact absurd H (by simp)
 ·rw [if_neg c3] at H
  have c3b0 : decide (a1 < (a0.size : Int)) = false := decide_eq_false c3
  clear c3
  obtain rfl := Option.some.inj H
  go_enter Tryz.func15, Tryz.ntmps15
  go_wp2
  go_ret
  exact ⟨by first | rfl | (simp; done) | (simp [*]; done), by repeat (first | exact Drawn0.refl _ | apply Drawn0.step)⟩

/-! ### wide_normal: function 50 -/
def wide_normal.l0 : Nat → List Int → Option (List Int)
 | 0, _ => none
 | k + 1, x0 => if (x0.length : Int) > 0 then (if 0 ≤ (wrap64 ((x0.length : Int) - 1)) then (if (wrap64 ((x0.length : Int) - 1)) < (x0.length : Int) then (if (rd x0 (wrap64 ((x0.length : Int) - 1))) = 0 then (if (wrap64 ((x0.length : Int) - 1)) ≤ (x0.length : Int) then (wide_normal.l0 k (x0.take ((wrap64 ((x0.length : Int) - 1)) : Int).toNat)) else (none)) else (some x0)) else (none)) else (none)) else (some x0)
def wide_normal.f (k : Nat) (l0 : List Int) : Option (List Int) := wide_normal.l0 k l0
theorem wide_normal.mono_l : ∀ k, (∀ y0, LeO (wide_normal.l0 k y0) (wide_normal.l0 (k + 1) y0))
 | 0 => fun _ r h => by simp [wide_normal.l0] at h
 | k + 1 => by
  have ih0 := wide_normal.mono_l k
  ·intro y0
   unfold wide_normal.l0
   repeat' first
   | (with_reducible exact ih0 _)
   | (with_reducible exact LeO.refl _)
   | (with_reducible exact LeO.none _)
   | (with_reducible refine LeO.ite ?_ ?_)
   | (with_reducible refine LeO.bind ?_ (fun _ => ?_))
   | exact ih0 _
   | exact LeO.none _
   | refine LeO.ite ?_ ?_
   | refine LeO.bind ?_ (fun _ => ?_)
theorem wide_normal.mono : ∀ a0 k, LeO (wide_normal.f k a0) (wide_normal.f (k + 1) a0) := by
 intro a0 k
 have ih0 := wide_normal.mono_l k
 unfold wide_normal.f
 repeat' first
   | (with_reducible exact ih0 _)
   | (with_reducible exact LeO.refl _)
   | (with_reducible exact LeO.none _)
   | (with_reducible refine LeO.ite ?_ ?_)
   | (with_reducible refine LeO.bind ?_ (fun _ => ?_))
   | exact ih0 _
   | exact LeO.none _
   | refine LeO.ite ?_ ?_
   | refine LeO.bind ?_ (fun _ => ?_)
set_option maxHeartbeats 8000000 in
set_option maxRecDepth 100000 in
theorem wide_normal.calls (k : Nat) (P0_ : Nat → Prop) (A0 : Option Addr) (c0 : Nat) (l0 : List Int) (r : List Int) (w : World) (hs0 : Kd.V (Kd.int .u32) 81 w w.heap.size (fun k_ => P0_ k_) (.slice A0 l0.length c0) l0) (h : wide_normal.f k l0 = some r) :
  Calls Tryz.prog 50 #[.slice A0 l0.length c0] w fun e w' => ∃ v0_ : Value, e = .returned (v0_) ∧ Kd.V (Kd.int .u32) 81 w' w.heap.size (fun k_ => (P0_ k_ ∨ w.heap.size ≤ k_)) v0_ r ∧ Below w.heap.size w w' := by
 have HO0 := am_ (show Kd.V (Kd.int .u32) 81 w w.heap.size (fun k_ => (P0_ k_ ∨ w.heap.size ≤ k_)) (.slice A0 l0.length c0) l0 from Kd.V_mono hs0 (fun k_ hk => .inl hk))
 have HB := am_ (Below.refl w.heap.size w)
 have H : (wide_normal.l0 k l0) = some r := h
 clear h
 have H' := am_ H
 clear H
 go_enter Tryz.func50, Tryz.ntmps50
 go_wp2
 try simp only [Act.put, List.setIfInBounds_toArray, List.set_cons_zero, List.set_cons_succ]
 go_loopg [0] k (fun kq v0 w' => ∃ (x0_1 : List Int), Aside0 (wide_normal.l0 kq x0_1 = some r) ∧ Aside0 (kq ≤ k) ∧ Aside0 (Kd.V (Kd.int .u32) 81 w' w.heap.size (fun k_ => (P0_ k_ ∨ w.heap.size ≤ k_)) v0 x0_1) ∧ Aside0 (Below w.heap.size w w'))
 case atStart => exact ⟨(l0), H', ⟨Nat.le_refl _⟩, ⟨by (with_reducible repeat (first | apply Kd.V_alloc | apply Kd.V_drewN | apply Kd.V_drew)); exact HO0.out⟩, ⟨by repeat (first | (with_reducible first | exact HB.out | apply below_alloc | apply pw_below_drewN | apply below_drew1) | exact HB.out)⟩⟩
 case round =>
  clear H'
  obtain ⟨x0_1, HA, HK1, HO_0, HB⟩ := hrel
  cases gk with
  | zero => exact absurd HA.out (by simp [wide_normal.l0])
  | succ k1 =>
   have H := HA.out
   clear HA
   simp only [wide_normal.l0] at H
   by_cases c2 : (x0_1.length : Int) > 0
   ·rw [if_pos c2] at H
    have c2b0 : decide (0 < (x0_1.length : Int)) = true := decide_eq_true c2
    have c2b1 : decide (0 < x0_1.length) = true := decide_eq_true (by omega)
    clear c2
    obtain ⟨ji3, hji3⟩ : ∃ j_ : Int, (wrap64 ((x0_1.length : Int) - 1)) = j_ := ⟨_, rfl⟩
    replace H : (if 0 ≤ (ji3) then (if (ji3) < (x0_1.length : Int) then (if (rd x0_1 (ji3)) = 0 then (if (ji3) ≤ (x0_1.length : Int) then (wide_normal.l0 k1 (x0_1.take ((ji3) : Int).toNat)) else (none)) else (some x0_1)) else (none)) else (none)) = some r := by first | (rw [hji3] at H; exact H) | (simp only [hji3] at H ⊢; exact H)
    have hji3w : (IntKind.i64.wrap ((x0_1.length : Int) - 1)) = ji3 := (i64_w _).trans hji3
    by_cases c4 : 0 ≤ (ji3)
    ·rw [if_pos c4] at H
     have c4b0 : decide (0 ≤ (ji3)) = true := decide_eq_true c4
     clear c4
     by_cases c5 : (ji3) < (x0_1.length : Int)
     ·rw [if_pos c5] at H
      have c5b0 : decide ((ji3) < (x0_1.length : Int)) = true := decide_eq_true c5
      clear c5
      by_cases c6 : (rd x0_1 (ji3)) = 0
      ·rw [if_pos c6] at H
       have c6b0 : ((rd x0_1 (ji3)) == 0) = true := beq_iff_eq.mpr c6
       have c6b1 : ((rd x0_1 (ji3)) != 0) = false := bne_eq_false_iff_eq.mpr c6
       clear c6
       have c7b0 := eq_true (of_decide_eq_true zq3 : 0 ≤ (ji3))
       by_cases c8 : (ji3) ≤ (x0_1.length : Int)
       ·rw [if_pos c8] at H
        have c8b0 := eq_true c8
        have c8b1 : decide ((ji3) ≤ (x0_1.length : Int)) = true := decide_eq_true c8
        clear c8
        obtain ⟨y237, hy237⟩ : ∃ y_ : List Int, y_ = (x0_1.take ((ji3) : Int).toNat) := ⟨_, rfl⟩
        replace H : (wide_normal.l0 k1 y237) = some r := by first | (rw [hy237]; with_reducible exact H) | (have H2_ := (Option.bind_some _ _).symm.trans H; rw [hy237]; with_reducible exact H2_) | (have H2_ := (Option.bind_some _ _).symm.trans H; with_reducible exact H2_) | with_reducible exact H | (rw [hy237]; exact H) | exact H
        have Ny237 := am_ hy237
        clear hy237
        have H' := am_ H
        clear H
        obtain ⟨Ao9, co9, eo9⟩ := Kd.V_slice HO_0.out
        subst eo9
        have p236 : 0 ≤ ((ji3) : Int) := of_decide_eq_true zq3
        have q236 : (ji3) < (x0_1.length : Int) := of_decide_eq_true zq3
        obtain ⟨ad236, e236, hx236_0⟩ := Kd.at_int (Kd.V_reads' HO_0.out).2.2 (ji3) p236 q236
        cases e236
        replace p236 := eq_true p236
        replace q236 := eq_true q236
        have q10 : ((ji3) : Int) ≤ ((x0_1.length : Int) : Int) := of_decide_eq_true zq3
        obtain ⟨i010, hi010, _, hsz10, _⟩ := info_parts info81
        have hroom10 : x0_1.length ≤ co9 := (Kd.V_reads' HO_0.out).2.1
        have hC10 : Kd.F (Kd.int .u32) _ _ (some ad236) x0_1.length x0_1 := (Kd.V_at (base := w.heap.size) HO_0.out).2.2
        have hcut10 := cut_to (P := Tryz.prog) 31 81 .i64 Tryz.underlying31 hi010 (some ad236) x0_1.length co9 (ji3) (of_decide_eq_true zq3) q10 hroom10
        have hr10 := Kd.F_take (m := ((ji3) : Int).toNat) hC10 (by omega)
        have hy10 : y237.length = ((ji3) : Int).toNat := (by rw [Ny237.out, List.length_take]; omega)
        rw [← Ny237.out] at hr10
        rw [← hy10] at hcut10
        have HO241 := am_ (show Kd.V (Kd.int .u32) 81 _ w.heap.size _ (.slice (some ad236) y237.length co9) y237 from Kd.V_mk (by omega) hr10)
        have HC241 := am_ (show y237.length ≤ co9 from by omega)
        clear hr10 hC10 hroom10 hi010 hsz10
        have KY10 := am_ hy10
        clear hy10
        replace q10 := eq_true q10
        go_wp2
        go_roundg k1
        case measure => have := HK1.out; omega
        case rel => exact ⟨(y237), H', ⟨by have := HK1.out; omega⟩, ⟨by (with_reducible repeat (first | apply Kd.V_alloc | apply Kd.V_drewN | apply Kd.V_drew)); exact HO241.out⟩, ⟨by repeat (first | (with_reducible first | exact HB.out | apply below_alloc | apply pw_below_drewN | apply below_drew1) | exact HB.out)⟩⟩
       ·rw [if_neg c8] at H
        exact absurd H (by simp)
      ·rw [if_neg c6] at H
       have c6b0 : ((rd x0_1 (ji3)) == 0) = false := beq_eq_false_iff_ne.mpr c6
       have c6b1 : ((rd x0_1 (ji3)) != 0) = true := bne_iff_ne.mpr c6
       obtain rfl := Option.some.inj H
       obtain ⟨Ao11, co11, eo11⟩ := Kd.V_slice HO_0.out
       subst eo11
       have p236 : 0 ≤ ((ji3) : Int) := of_decide_eq_true zq3
       have q236 : (ji3) < (x0_1.length : Int) := of_decide_eq_true zq3
       obtain ⟨ad236, e236, hx236_0⟩ := Kd.at_int (Kd.V_reads' HO_0.out).2.2 (ji3) p236 q236
       cases e236
       replace p236 := eq_true p236
       replace q236 := eq_true q236
       go_wp2
       go_ret
       exact ⟨_, by first | rfl | (simp [errW_none, errW_some] <;> rfl) | (simp only [← hji3]; first | rfl | (simp [errW_none, errW_some] <;> rfl)) | (simp [*, errW_none, errW_some] <;> rfl), by (with_reducible repeat (first | apply Kd.V_alloc | apply Kd.V_drewN | apply Kd.V_drew)); exact HO_0.out, by repeat (first | (with_reducible first | exact HB.out | apply below_alloc | apply pw_below_drewN | apply below_drew1) | exact HB.out)⟩
     ·rw [if_neg c5] at H
      exact absurd H (by simp)
    ·rw [if_neg c4] at H
     exact absurd H (by simp)
   ·rw [if_neg c2] at H
    have c2b0 : decide (0 < (x0_1.length : Int)) = false := decide_eq_false c2
    have c2b1 : decide (0 < x0_1.length) = false := decide_eq_false (by omega)
    clear c2
    obtain rfl := Option.some.inj H
    obtain ⟨Ao12, co12, eo12⟩ := Kd.V_slice HO_0.out
    subst eo12
    go_wp2
    go_ret
    exact ⟨_, by first | rfl | (simp [errW_none, errW_some] <;> rfl) | (simp [*, errW_none, errW_some] <;> rfl), by (with_reducible repeat (first | apply Kd.V_alloc | apply Kd.V_drewN | apply Kd.V_drew)); exact HO_0.out, by repeat (first | (with_reducible first | exact HB.out | apply below_alloc | apply pw_below_drewN | apply below_drew1) | exact HB.out)⟩

end Go.Proofs.YtlceokefdihdkaaGreatDoor.X
