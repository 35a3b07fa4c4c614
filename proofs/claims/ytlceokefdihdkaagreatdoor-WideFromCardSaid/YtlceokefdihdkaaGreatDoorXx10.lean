-- Written by a program of this session (xprint) out of the translation: Lean checks it.
import Derived.Test.YtlceokefdihdkaaGreatDoorXx0
import Derived.Test.YtlceokefdihdkaaGreatDoorXx1
import Derived.Test.YtlceokefdihdkaaGreatDoorXx3
import Derived.Test.YtlceokefdihdkaaGreatDoorXx4
import Derived.Test.YtlceokefdihdkaaGreatDoorXx5
import Derived.Test.YtlceokefdihdkaaGreatDoorXx6
import Derived.Test.YtlceokefdihdkaaGreatDoorXx8
import Derived.Test.YtlceokefdihdkaaGreatDoorXx9
namespace Go.Proofs.YtlceokefdihdkaaGreatDoor.X
open Go.RowKit Go.Proofs.YtlceokefdihdkaaGreatDoorW.PrintWords Go.Proofs.YtlceokefdihdkaaGreatDoorW.PrintLast Go.Proofs.YtlceokefdihdkaaGreatDoorW.PrintMore
attribute [local go_sem] max2_int min2_int max_two min_two max_three min_three max_four min_four   -- for this text's walks alone
set_option linter.unusedVariables false
set_option linter.unusedSimpArgs false

/-! ### worldmintlaw05_WideFrom: function 4 -/
mutual
def worldmintlaw05_WideFrom.j0 : Nat → List Int → Int → Bool → Option (Bool)
 | 0, _, _, _ => none
 | k + 1, x1, x2, x38 => if x38 = true then (some false) else ((worldmintref05_Number.f k x1 0).bind fun bt498 => ((worldmintref01_Around.f x2 7).bind fun t502 => ((worldmintref01_Around.f (wrap64 (Int.tdiv x2 7)) 2).bind fun t503 => ((worldmintref05_Near.f k (wrap64 ((wrap64 ((wrap64 (4 * t502)) + 3)) + (wrap64 (28 * t503))))).bind fun bt504 => (worldmintlaw05_WideFrom.l0 k (([(⟨bt498.1, bt498.2⟩ : S25), (⟨bt504.1, bt504.2⟩ : S25)] : List (S25))) 0)))))
def worldmintlaw05_WideFrom.l0 : Nat → List (S25) → Int → Option (Bool)
 | 0, _, _ => none
 | k + 1, x10, x11 => if x11 < 2 then (if 0 ≤ x11 then (if x11 < (x10.length : Int) then ((worldmintlaw05_wider.f k ((rd_T25 x10 x11).f0) ((rd_T25 x10 x11).f1)).bind fun bt513 => ((wide_Int_Small.f k bt513.1 bt513.2.1).bind fun bt519 => ((worldmintref05_Small.f k ((rd_T25 x10 x11).f0) ((rd_T25 x10 x11).f1)).bind fun bt522 => (if bt513.2.2 = true then (if bt519.1 = bt522.1 then (if (!(bt519.2 == bt522.2)) = true then (some false) else (worldmintlaw05_WideFrom.l0 k x10 (wrap64 (x11 + 1)))) else (some false)) else (some false))))) else (none)) else (none)) else ((worldmintlaw05_lives.f k).bind fun t511 => (some t511))
end
def worldmintlaw05_WideFrom.f (k : Nat) (a0 : Int) (l1 : List Int) (a2 : Int) : Option (Bool) := (wide_From.f k a0).bind fun bt486 => ((wide_Int_Small.f k bt486.1 bt486.2).bind fun bt491 => (if bt491.1 = a0 then (if bt491.2 = true then ((worldmintref05_Of.f k a0).bind fun bt493 => ((worldmintlaw05_equal.f k bt486.1 bt486.2 bt493.1 bt493.2).bind fun t497 => (worldmintlaw05_WideFrom.j0 k l1 a2 (!t497)))) else (worldmintlaw05_WideFrom.j0 k l1 a2 true)) else (worldmintlaw05_WideFrom.j0 k l1 a2 true)))
theorem worldmintlaw05_WideFrom.mono_l : ∀ k, (∀ y0 y1 y2, LeO (worldmintlaw05_WideFrom.j0 k y0 y1 y2) (worldmintlaw05_WideFrom.j0 (k + 1) y0 y1 y2)) ∧ (∀ y0 y1, LeO (worldmintlaw05_WideFrom.l0 k y0 y1) (worldmintlaw05_WideFrom.l0 (k + 1) y0 y1))
 | 0 => ⟨fun _ _ _ r h => by simp [worldmintlaw05_WideFrom.j0] at h, fun _ _ r h => by simp [worldmintlaw05_WideFrom.l0] at h⟩
 | k + 1 => by
  obtain ⟨ih0, ih1⟩ := worldmintlaw05_WideFrom.mono_l k
  refine ⟨?_, ?_⟩
  ·intro y0 y1 y2
   unfold worldmintlaw05_WideFrom.j0
   repeat' first
   | (with_reducible exact ih0 _ _ _)
   | (with_reducible exact ih1 _ _)
   | (with_reducible exact wide_From.mono _ _)
   | (with_reducible exact wide_Int_Small.mono _ _ _)
   | (with_reducible exact worldmintlaw05_equal.mono _ _ _ _ _)
   | (with_reducible exact worldmintlaw05_lives.mono _)
   | (with_reducible exact worldmintlaw05_wider.mono _ _ _)
   | (with_reducible exact worldmintref05_Near.mono _ _)
   | (with_reducible exact worldmintref05_Number.mono _ _ _)
   | (with_reducible exact worldmintref05_Of.mono _ _)
   | (with_reducible exact worldmintref05_Small.mono _ _ _)
   | (with_reducible exact LeO.refl _)
   | (with_reducible exact LeO.none _)
   | (with_reducible refine LeO.ite ?_ ?_)
   | (with_reducible refine LeO.bind ?_ (fun _ => ?_))
   | exact ih0 _ _ _
   | exact ih1 _ _
   | exact wide_From.mono _ _
   | exact wide_Int_Small.mono _ _ _
   | exact worldmintlaw05_equal.mono _ _ _ _ _
   | exact worldmintlaw05_lives.mono _
   | exact worldmintlaw05_wider.mono _ _ _
   | exact worldmintref05_Near.mono _ _
   | exact worldmintref05_Number.mono _ _ _
   | exact worldmintref05_Of.mono _ _
   | exact worldmintref05_Small.mono _ _ _
   | exact LeO.none _
   | refine LeO.ite ?_ ?_
   | refine LeO.bind ?_ (fun _ => ?_)
  ·intro y0 y1
   unfold worldmintlaw05_WideFrom.l0
   repeat' first
   | (with_reducible exact ih0 _ _ _)
   | (with_reducible exact ih1 _ _)
   | (with_reducible exact wide_From.mono _ _)
   | (with_reducible exact wide_Int_Small.mono _ _ _)
   | (with_reducible exact worldmintlaw05_equal.mono _ _ _ _ _)
   | (with_reducible exact worldmintlaw05_lives.mono _)
   | (with_reducible exact worldmintlaw05_wider.mono _ _ _)
   | (with_reducible exact worldmintref05_Near.mono _ _)
   | (with_reducible exact worldmintref05_Number.mono _ _ _)
   | (with_reducible exact worldmintref05_Of.mono _ _)
   | (with_reducible exact worldmintref05_Small.mono _ _ _)
   | (with_reducible exact LeO.refl _)
   | (with_reducible exact LeO.none _)
   | (with_reducible refine LeO.ite ?_ ?_)
   | (with_reducible refine LeO.bind ?_ (fun _ => ?_))
   | exact ih0 _ _ _
   | exact ih1 _ _
   | exact wide_From.mono _ _
   | exact wide_Int_Small.mono _ _ _
   | exact worldmintlaw05_equal.mono _ _ _ _ _
   | exact worldmintlaw05_lives.mono _
   | exact worldmintlaw05_wider.mono _ _ _
   | exact worldmintref05_Near.mono _ _
   | exact worldmintref05_Number.mono _ _ _
   | exact worldmintref05_Of.mono _ _
   | exact worldmintref05_Small.mono _ _ _
   | exact LeO.none _
   | refine LeO.ite ?_ ?_
   | refine LeO.bind ?_ (fun _ => ?_)
theorem worldmintlaw05_WideFrom.mono : ∀ a0 a1 a2 k, LeO (worldmintlaw05_WideFrom.f k a0 a1 a2) (worldmintlaw05_WideFrom.f (k + 1) a0 a1 a2) := by
 intro a0 a1 a2 k
 obtain ⟨ih0, ih1⟩ := worldmintlaw05_WideFrom.mono_l k
 unfold worldmintlaw05_WideFrom.f
 repeat' first
   | (with_reducible exact ih0 _ _ _)
   | (with_reducible exact ih1 _ _)
   | (with_reducible exact wide_From.mono _ _)
   | (with_reducible exact wide_Int_Small.mono _ _ _)
   | (with_reducible exact worldmintlaw05_equal.mono _ _ _ _ _)
   | (with_reducible exact worldmintlaw05_lives.mono _)
   | (with_reducible exact worldmintlaw05_wider.mono _ _ _)
   | (with_reducible exact worldmintref05_Near.mono _ _)
   | (with_reducible exact worldmintref05_Number.mono _ _ _)
   | (with_reducible exact worldmintref05_Of.mono _ _)
   | (with_reducible exact worldmintref05_Small.mono _ _ _)
   | (with_reducible exact LeO.refl _)
   | (with_reducible exact LeO.none _)
   | (with_reducible refine LeO.ite ?_ ?_)
   | (with_reducible refine LeO.bind ?_ (fun _ => ?_))
   | exact ih0 _ _ _
   | exact ih1 _ _
   | exact wide_From.mono _ _
   | exact wide_Int_Small.mono _ _ _
   | exact worldmintlaw05_equal.mono _ _ _ _ _
   | exact worldmintlaw05_lives.mono _
   | exact worldmintlaw05_wider.mono _ _ _
   | exact worldmintref05_Near.mono _ _
   | exact worldmintref05_Number.mono _ _ _
   | exact worldmintref05_Of.mono _ _
   | exact worldmintref05_Small.mono _ _ _
   | exact LeO.none _
   | refine LeO.ite ?_ ?_
   | refine LeO.bind ?_ (fun _ => ?_)
def worldmintlaw05_WideFrom.T3 : Bool × List (List Nat × List Nat) := (true, [([], []), ([], []), ([0, 1], [0, 1]), ([2], [2]), ([3], [3]), ([4, 3], [3, 4]), ([3, 5], [3, 5]), ([6, 3], [6]), ([7], [7]), ([7], [7]), ([9, 7, 7], [7, 9]), ([8, 10, 10, 7], [7, 8, 10]), ([11, 7], [7, 11]), ([7, 12], [7, 12])])
def worldmintlaw05_WideFrom.B3 : List Nat := [0, 0, 3, 7, 15, 31, 63, 127, 255, 255, 767, 2047, 4095, 8191]
theorem worldmintlaw05_WideFrom.tab3 : rtab .any (opsOf Tryz.f4 3) = worldmintlaw05_WideFrom.T3 := by kernel_rfl
theorem worldmintlaw05_WideFrom.bits3 : waitsOk worldmintlaw05_WideFrom.T3.2 worldmintlaw05_WideFrom.B3 = true := by kernel_rfl
set_option maxHeartbeats 8000000 in
set_option maxRecDepth 100000 in
theorem worldmintlaw05_WideFrom.calls (k : Nat) (a0 : Int) (A1 : Option Addr) (c1 : Nat) (l1 : List Int) (a2 : Int) (r : Bool) (w : World) (hr1 : Kd.C (Kd.int .i64) w A1 l1.length l1) (hc1 : l1.length ≤ c1) (h : worldmintlaw05_WideFrom.f k a0 l1 a2 = some r) (hG : GOK w) (hT_ : r = true) :
  Calls Tryz.prog 4 #[.int .i64 a0, .slice A1 l1.length c1, .int .i64 a2] w fun e w' => e = .returned (.bool r) ∧ Below w.heap.size w w' := by
 have hu33 := Tryz.underlying33
 have hu25 := Tryz.underlying25
 have HR1 := Aside0.mk hr1
 have HC1 := Aside0.mk hc1
 clear hr1 hc1
 have HB := Aside0.mk (Below.refl w.heap.size w)
 have H : ((wide_From.f k a0).bind fun bt486 => ((wide_Int_Small.f k bt486.1 bt486.2).bind fun bt491 => (if bt491.1 = a0 then (if bt491.2 = true then ((worldmintref05_Of.f k a0).bind fun bt493 => ((worldmintlaw05_equal.f k bt486.1 bt486.2 bt493.1 bt493.2).bind fun t497 => (worldmintlaw05_WideFrom.j0 k l1 a2 (!t497)))) else (worldmintlaw05_WideFrom.j0 k l1 a2 true)) else (worldmintlaw05_WideFrom.j0 k l1 a2 true)))) = some r := h
 clear h
 replace H := Option.bind_eq_some_iff.mp H
 obtain ⟨⟨t486, t487⟩, A40, H⟩ := H
 replace H : ((wide_Int_Small.f k t486 t487).bind fun bt491 => (if bt491.1 = a0 then (if bt491.2 = true then ((worldmintref05_Of.f k a0).bind fun bt493 => ((worldmintlaw05_equal.f k t486 t487 bt493.1 bt493.2).bind fun t497 => (worldmintlaw05_WideFrom.j0 k l1 a2 (!t497)))) else (worldmintlaw05_WideFrom.j0 k l1 a2 true)) else (worldmintlaw05_WideFrom.j0 k l1 a2 true))) = some r := H
 have A4 := Aside0.mk A40
 clear A40
 replace H := Option.bind_eq_some_iff.mp H
 obtain ⟨⟨t491, t492⟩, A50, H⟩ := H
 replace H : (if t491 = a0 then (if t492 = true then ((worldmintref05_Of.f k a0).bind fun bt493 => ((worldmintlaw05_equal.f k t486 t487 bt493.1 bt493.2).bind fun t497 => (worldmintlaw05_WideFrom.j0 k l1 a2 (!t497)))) else (worldmintlaw05_WideFrom.j0 k l1 a2 true)) else (worldmintlaw05_WideFrom.j0 k l1 a2 true)) = some r := H
 have A5 := Aside0.mk A50
 clear A50
 have HC6 := Aside0.mk H
 clear H
 go_enter Tryz.func4, Tryz.ntmps4
 go_upto_region 3 with (first | ((with_reducible refine gate_callee (f := 21) rfl ?_); refine goesL_ (some 19) rfl rfl Tryz.func21 (by kernel_rfl) rfl #[.int .i64 a0] rfl zq6 ?_; (with_reducible refine (wide_From.calls k a0 t486 t487 _ A4.out).mono ?_); rintro e w7 ⟨v488, rfl, ho0, hb⟩; refine ⟨_, rfl, ?_⟩; have HO489 := Aside0.mk (Kd.V_lower (Kd.V_mono (ok' := fun k_ => True) ho0 (fun k_ hk_ => trivial)) (below_size zq2)); replace HB := Aside0.mk (below_step zq2 hb); (try clear hb); (try clear ho0)) | ((with_reducible refine gate_dst (N := 7) rfl ?_); refine box_event ?hg (N := 7) ?hd (cs := #[.bool false, .slice none 0 0]) (t := 33) ?hr ?_; (case hd => rfl); (case hg => rfl); (case hr => exact zq0); intro gb490 hg w8 hbox hb; have n0_ := Aside0.mk (Kd.V_below (Kd.V_elderB (zq1 HO489.out) gb490 (Nat.le_of_eq hg.symm)) hb); have n1_ := Aside0.mk (below_step zq2 hb); have n2_ := Aside0.mk (hbox); have n3_ := Aside0.mk ((by rw [hg]; exact (below_size zq2) : w.heap.size ≤ gb490)); clear HO489 HB; have HO489 := n0_; have HB := n1_; have BK490 := n2_; have GE490 := n3_; clear n0_ n1_ n2_ n3_; clear hb hbox hg; have hcz9_0 : w8.cell? ⟨gb490, 0, none⟩ = some (.bool false) := (blk_cell BK490.out 0).trans rfl; have hcz9_1 : w8.cell? ⟨gb490, 1, none⟩ = some (.slice none 0 0) := (blk_cell BK490.out 1).trans rfl; have hfz9_0 := blk_frozen BK490.out 0; have hfz9_1 := blk_frozen BK490.out 1; obtain ⟨Ao10, co10, eo10⟩ := Kd.V_slice HO489.out; subst eo10) | ((with_reducible refine gate_callee (f := 22) rfl ?_); refine goesL_ (some 22) rfl rfl Tryz.func22 (by kernel_rfl) rfl #[.agg #[.bool t486, .slice Ao10 t487.length co10]] rfl zq6 ?_; (with_reducible refine (wide_Int_Small.calls k t486 _ _ t487 t491 t492 _ ?side1 ?side2 A5.out).mono ?_); (case side1 => refine (Kd.V_reads' (e := 81) (base := w.heap.size) (ok := fun k_ => (True ∧ k_ ≠ gb490)) (n := t487.length) (c := co10) ?_).2.2; exact (zq94 HO489.out)); (case side2 => exact (Kd.V_reads' HO489.out).2.1); rintro e w11 ⟨rfl, hb⟩; refine ⟨_, rfl, ?_⟩; replace HO489 := Aside0.mk (Kd.V_below (zq94 HO489.out) hb); replace BK490 := Aside0.mk (blk_below (g := gb490) (o := .cells #[.bool t486, .slice Ao10 t487.length co10] 33 (0, 0)) (by (with_reducible repeat (first | refine blk_drewN ?_ _ | refine blk_drew ?_ | refine blk_alloc ?_ _)); refine blk_put (cs := #[.bool t486, .slice none 0 0]) ?_ 1 _ rfl; (with_reducible repeat (first | refine blk_drewN ?_ _ | refine blk_drew ?_ | refine blk_alloc ?_ _)); refine blk_put (cs := #[.bool false, .slice none 0 0]) ?_ 0 _ rfl; (with_reducible repeat (first | refine blk_drewN ?_ _ | refine blk_drew ?_ | refine blk_alloc ?_ _)); exact BK490.out) hb); replace HB := Aside0.mk (below_step zq95 hb); (try clear hb)))
 (try simp only [Act.put, List.setIfInBounds_toArray, List.set_cons_zero, List.set_cons_succ])
 go_cut [38] (fun v38 wc => ∃ (kq : Nat) (x38_5 : Bool), v38 = .bool x38_5 ∧ Aside0 (worldmintlaw05_WideFrom.j0 kq l1 a2 x38_5 = some r) ∧ Aside0 (kq ≤ k) ∧ Aside0 (Kd.V (Kd.int .u32) 81 wc w.heap.size (fun k_ => k_ ≠ gb490) (.slice Ao10 t487.length co10) t487) ∧ Aside0 (wc.heap[gb490]? = some (.cells #[.bool t486, (.slice Ao10 t487.length co10)] 33 (0, 0))) ∧ Aside0 (Below w.heap.size w wc))
 case first =>
  have H := HC6.out
  clear HC6
  by_cases c12 : t491 = a0
  ·rw [if_pos c12] at H
   have c12b0 : (t491 == a0) = true := beq_iff_eq.mpr c12
   have c12b1 : (t491 != a0) = false := bne_eq_false_iff_eq.mpr c12
   clear c12
   (first | rw [c12b0] | (simp only [i64_w, i32_w]; rw [c12b0]) | skip)
   by_cases c13 : t492 = true
   ·subst c13
    have H1 : ((worldmintref05_Of.f k a0).bind fun bt493 => ((worldmintlaw05_equal.f k t486 t487 bt493.1 bt493.2).bind fun t497 => (worldmintlaw05_WideFrom.j0 k l1 a2 (!t497)))) = some r := by rw [if_pos rfl] at H; exact H
    clear H
    have H := H1
    clear H1
    replace H := Option.bind_eq_some_iff.mp H
    obtain ⟨⟨t493, t494⟩, A140, H⟩ := H
    replace H : ((worldmintlaw05_equal.f k t486 t487 t493 t494).bind fun t497 => (worldmintlaw05_WideFrom.j0 k l1 a2 (!t497))) = some r := H
    have A14 := Aside0.mk A140
    clear A140
    replace H := Option.bind_eq_some_iff.mp H
    obtain ⟨t497, A150, H⟩ := H
    replace H : (worldmintlaw05_WideFrom.j0 k l1 a2 (!t497)) = some r := H
    have A15 := Aside0.mk A150
    clear A150
    have H' := Aside0.mk H
    clear H
    try go_wp2
    replace HO489 := Aside0.mk (Kd.V_drew HO489.out); replace BK490 := Aside0.mk (blk_drew BK490.out); replace HB := Aside0.mk (below_drew1 HB.out)
    refine start_ (n := 14) (S := fun w' => w'.cell? ⟨gb490, 0, none⟩ = some (.bool t486) ∧ w'.cell? ⟨gb490, 1, none⟩ = some (.slice Ao10 t487.length co10)) (ds := []) #[false, false, false, false, false, false, false, false, false, false, false, false, false, false] (by kernel_rfl) rfl rfl ⟨(blk_cell BK490.out 0).trans rfl, (blk_cell BK490.out 1).trans rfl⟩ (fun hHeld => ?_); refine with_tabW worldmintlaw05_WideFrom.tab3 worldmintlaw05_WideFrom.bits3 (fun HT_ HW_ => ?_)
    generalize w11.drew = w16 at HO489 BK490 HB hHeld ⊢
    refine pure_ (i := 0) (N := some 25) (v := ?_) (a' := ?_) #[true, false, false, false, false, false, false, false, false, false, false, false, false, false] rfl rfl (any_of HT_.out (by kernel_rfl)) (fun _ _ _ h => h) (Or.inl ⟨by rfl, ?_⟩) ?_ ?_
    rotate_left
    ·intro w'
     go_simp
     with_reducible rfl
    rotate_left
    ·simp only [Act.put, List.setIfInBounds_toArray, List.set_cons_zero, List.set_cons_succ, i64_w, i32_w]
     rfl
    refine pure_ (i := 1) (N := some 26) (v := ?_) (a' := ?_) #[true, true, false, false, false, false, false, false, false, false, false, false, false, false] rfl rfl (any_of HT_.out (by kernel_rfl)) (fun _ _ _ h => h) (Or.inl ⟨by rfl, ?_⟩) ?_ ?_
    rotate_left
    ·intro w'
     go_simp
     with_reducible rfl
    rotate_left
    ·simp only [Act.put, List.setIfInBounds_toArray, List.set_cons_zero, List.set_cons_succ, i64_w, i32_w]
     rfl
    refine pure_ (i := 2) (N := some 27) (v := ?_) (a' := ?_) #[true, true, true, false, false, false, false, false, false, false, false, false, false, false] rfl rfl (any_of HT_.out (by kernel_rfl)) (fun _ _ _ h => h) (Or.inl ⟨by rfl, ?_⟩) ?_ ?_
    rotate_left
    ·intro w'
     go_simp
     with_reducible rfl
    rotate_left
    ·simp only [Act.put, List.setIfInBounds_toArray, List.set_cons_zero, List.set_cons_succ, i64_w, i32_w]
     rfl
    refine pure_ (i := 3) (N := some 28) (v := ?_) (a' := ?_) #[true, true, true, true, false, false, false, false, false, false, false, false, false, false] rfl rfl (any_of HT_.out (by kernel_rfl)) (fun _ _ _ h => h) (Or.inl ⟨by rfl, ?_⟩) ?_ ?_
    rotate_left
    ·intro w'
     go_simp
     with_reducible rfl
    rotate_left
    ·simp only [Act.put, List.setIfInBounds_toArray, List.set_cons_zero, List.set_cons_succ, i64_w, i32_w]
     rfl
    refine pure_ (i := 4) (N := some 29) (v := ?_) (a' := ?_) #[true, true, true, true, true, false, false, false, false, false, false, false, false, false] rfl rfl (any_of HT_.out (by kernel_rfl)) (fun _ _ _ h => h) (Or.inl ⟨by rfl, ?_⟩) ?_ ?_
    rotate_left
    ·intro w'
     go_simp
     with_reducible rfl
    rotate_left
    ·simp only [Act.put, List.setIfInBounds_toArray, List.set_cons_zero, List.set_cons_succ, i64_w, i32_w]
     rfl
    refine pure_ (i := 5) (N := some 30) (v := ?_) (a' := ?_) #[true, true, true, true, true, true, false, false, false, false, false, false, false, false] rfl rfl (any_of HT_.out (by kernel_rfl)) (fun _ _ _ h => h) (Or.inl ⟨by rfl, ?_⟩) ?_ ?_
    rotate_left
    ·intro w'
     go_simp
     with_reducible rfl
    rotate_left
    ·simp only [Act.put, List.setIfInBounds_toArray, List.set_cons_zero, List.set_cons_succ, i64_w, i32_w]
     rfl
    refine pure_ (i := 6) (N := some 31) (v := ?_) (a' := ?_) #[true, true, true, true, true, true, true, false, false, false, false, false, false, false] rfl rfl (any_of HT_.out (by kernel_rfl)) (fun _ _ _ h => h) (Or.inl ⟨by rfl, ?_⟩) ?_ ?_
    rotate_left
    ·intro w'
     go_simp
     with_reducible rfl
    rotate_left
    ·simp only [Act.put, List.setIfInBounds_toArray, List.set_cons_zero, List.set_cons_succ, i64_w, i32_w]
     rfl
    refine pure_ (i := 7) (N := some 32) (v := ?_) (a' := ?_) #[true, true, true, true, true, true, true, true, false, false, false, false, false, false] rfl rfl (any_of HT_.out (by kernel_rfl)) (fun _ _ _ h => h) (Or.inl ⟨by rfl, ?_⟩) ?_ ?_
    rotate_left
    ·intro w'
     go_simp
     with_reducible rfl
    rotate_left
    ·simp only [Act.put, List.setIfInBounds_toArray, List.set_cons_zero, List.set_cons_succ, i64_w, i32_w]
     rfl
    refine pure_ (i := 9) (N := some 34) (v := ?_) (a' := ?_) #[true, true, true, true, true, true, true, true, false, true, false, false, false, false] rfl rfl (any_of HT_.out (by kernel_rfl)) (fun _ _ _ h => h) (Or.inl ⟨by rfl, ?_⟩) ?_ ?_
    rotate_left
    ·intro w'
     go_simp
     with_reducible rfl
    rotate_left
    ·simp only [Act.put, List.setIfInBounds_toArray, List.set_cons_zero, List.set_cons_succ, i64_w, i32_w]
     rfl
    refine take_ (i := 8) (N := some 33) (v := ?_) (a' := ?_) #[true, true, true, true, true, true, true, true, true, true, false, false, false, false] rfl rfl (take_ofW HT_.out HW_.out (by kernel_rfl)) (fun _ _ _ h => h) (Or.inl ⟨by rfl, ?_⟩) hHeld ?_ ?_
    rotate_left
    ·rintro w' ⟨s0, s1⟩
     go_simp
     with_reducible rfl
    rotate_left
    ·simp only [Act.put, List.setIfInBounds_toArray, List.set_cons_zero, List.set_cons_succ, i64_w, i32_w]
     rfl
    refine one_ (i := 10) (N := some 35) #[true, true, true, true, true, true, true, true, true, true, true, false, false, false] rfl rfl (one_of HT_.out (by kernel_rfl)) (by decide) (fun K hK => ?_)
    refine goes_ Tryz.func23 (by kernel_rfl) rfl #[.int .i64 a0] (by rfl) rfl rfl zq6 ?_
    with_reducible refine (worldmintref05_Of.calls k a0 t493 t494 _ A14.out).mono ?_
    rintro e w17 ⟨v495, rfl, ho0, hb⟩
    refine ⟨_, rfl, ?_⟩
    replace HO489 := Aside0.mk (Kd.V_below (zq1 HO489.out) hb); have HO496 := Aside0.mk (Kd.V_lower (Kd.V_mono (ok' := fun k_ => k_ ≠ gb490) ho0 (fun k_ hk_ => (Kd.freshB (g := gb490) (o := .cells #[.bool t486, .slice Ao10 t487.length co10] 33 (0, 0)) (zq9 BK490.out) k_ hk_))) (below_size zq95)); replace BK490 := Aside0.mk (blk_below (g := gb490) (o := .cells #[.bool t486, .slice Ao10 t487.length co10] 33 (0, 0)) (zq9 BK490.out) hb); replace HB := Aside0.mk (below_step zq95 hb); (try clear hb); (try clear ho0)
    obtain ⟨Ao18, co18, eo18⟩ := Kd.V_slice HO496.out
    (first | subst eo18 | (injection eo18 with f1_ f2_ f3_; have f4_ := f1_.symm; have f5_ := f3_.symm; clear f1_ f2_ f3_; subst f4_; subst f5_))
    refine hK.out _ _ ⟨(blk_cell BK490.out 0).trans rfl, (blk_cell BK490.out 1).trans rfl⟩ (fun hHeld => ?_)
    clear hK K
    refine norm_ (a' := ?_) ?_ ?_
    rotate_left
    ·show Act.put _ (some 35) _ = _
     simp only [Act.put, List.setIfInBounds_toArray, List.set_cons_zero, List.set_cons_succ, i64_w, i32_w]
     rfl
    refine one_ (i := 11) (N := some 36) #[true, true, true, true, true, true, true, true, true, true, true, true, false, false] rfl rfl (one_of HT_.out (by kernel_rfl)) (by decide) (fun K hK => ?_)
    refine goes_ Tryz.func18 (by kernel_rfl) rfl #[.agg #[.bool t486, .slice Ao10 t487.length co10], .agg #[.bool t493, .slice Ao18 t494.length co18]] (by rfl) rfl rfl zq6 ?_
    with_reducible refine (worldmintlaw05_equal.calls k t486 _ _ t487 t493 _ _ t494 t497 _ ?side1 ?side2 ?side3 ?side4 A15.out zq96).mono ?_
    (case side1 => exact (zq31 HO489.out))
    (case side2 => exact (Kd.V_reads' HO489.out).2.1)
    (case side3 => exact (zq31 HO496.out))
    (case side4 => exact (Kd.V_reads' HO496.out).2.1)
    rintro e w19 ⟨rfl, hb⟩
    refine ⟨_, rfl, ?_⟩
    replace HO489 := Aside0.mk (Kd.V_below (zq1 HO489.out) hb); replace BK490 := Aside0.mk (blk_below (g := gb490) (o := .cells #[.bool t486, .slice Ao10 t487.length co10] 33 (0, 0)) (zq9 BK490.out) hb); replace HB := Aside0.mk (below_step zq95 hb); (try clear hb)
    refine hK.out _ _ ⟨(blk_cell BK490.out 0).trans rfl, (blk_cell BK490.out 1).trans rfl⟩ (fun hHeld => ?_)
    clear hK K
    refine norm_ (a' := ?_) ?_ ?_
    rotate_left
    ·show Act.put _ (some 36) _ = _
     simp only [Act.put, List.setIfInBounds_toArray, List.set_cons_zero, List.set_cons_succ, i64_w, i32_w]
     rfl
    refine pure_ (i := 12) (N := some 37) (v := ?_) (a' := ?_) #[true, true, true, true, true, true, true, true, true, true, true, true, true, false] rfl rfl (any_of HT_.out (by kernel_rfl)) (fun _ _ _ h => h) (Or.inl ⟨by rfl, ?_⟩) ?_ ?_
    rotate_left
    ·intro w'
     go_simp
     with_reducible rfl
    rotate_left
    ·simp only [Act.put, List.setIfInBounds_toArray, List.set_cons_zero, List.set_cons_succ, i64_w, i32_w]
     rfl
    refine pure_ (i := 13) (N := some 38) (v := ?_) (a' := ?_) #[true, true, true, true, true, true, true, true, true, true, true, true, true, true] rfl rfl (any_of HT_.out (by kernel_rfl)) (fun _ _ _ h => h) (Or.inl ⟨by rfl, ?_⟩) ?_ ?_
    rotate_left
    ·intro w'
     go_simp
     with_reducible rfl
    rotate_left
    ·simp only [Act.put, List.setIfInBounds_toArray, List.set_cons_zero, List.set_cons_succ, i64_w, i32_w]
     rfl
    refine done_ (done_of HT_.out (by kernel_rfl)) ?_
    try go_wp2
    go_meet
    case rel => exact ⟨_, (!t497), zq5, H', ⟨by first | omega | exact Nat.le_refl _⟩, ⟨by (with_reducible repeat (first | apply Kd.V_alloc | apply Kd.V_drewN | apply Kd.V_drew)); exact Kd.V_mono HO489.out (fun _ hk => hk.2)⟩, ⟨by (with_reducible repeat (first | refine blk_drewN ?_ _ | refine blk_drew ?_ | refine blk_alloc ?_ _)); exact BK490.out⟩, ⟨by repeat (first | (with_reducible first | exact HB.out | apply below_alloc | apply pw_below_drewN | apply below_drew1 | refine below_set ?_ GE490.out) | exact HB.out)⟩⟩
   ·replace c13 := Bool.eq_false_iff.mpr c13
    subst c13
    have H1 : (worldmintlaw05_WideFrom.j0 k l1 a2 true) = some r := by rw [if_neg (show ¬ (false = true) by decide)] at H; exact H
    clear H
    have H := H1
    clear H1
    have H' := Aside0.mk H
    clear H
    try go_wp2
    replace HO489 := Aside0.mk (Kd.V_drew HO489.out); replace BK490 := Aside0.mk (blk_drew BK490.out); replace HB := Aside0.mk (below_drew1 HB.out)
    refine start_ (n := 14) (S := fun w' => True) (ds := []) #[false, false, false, false, false, false, false, false, false, false, false, false, false, false] (by kernel_rfl) rfl rfl trivial (fun hHeld => ?_); refine with_tabW worldmintlaw05_WideFrom.tab3 worldmintlaw05_WideFrom.bits3 (fun HT_ HW_ => ?_)
    generalize w11.drew = w20 at HO489 BK490 HB hHeld ⊢
    refine pure_ (i := 0) (N := some 25) (v := ?_) (a' := ?_) #[true, false, false, false, false, false, false, false, false, false, false, false, false, false] rfl rfl (any_of HT_.out (by kernel_rfl)) (fun _ _ _ h => h) (Or.inl ⟨by rfl, ?_⟩) ?_ ?_
    rotate_left
    ·intro w'
     go_simp
     with_reducible rfl
    rotate_left
    ·simp only [Act.put, List.setIfInBounds_toArray, List.set_cons_zero, List.set_cons_succ, i64_w, i32_w]
     rfl
    refine pure_ (i := 1) (N := some 26) (v := ?_) (a' := ?_) #[true, true, false, false, false, false, false, false, false, false, false, false, false, false] rfl rfl (any_of HT_.out (by kernel_rfl)) (fun _ _ _ h => h) (Or.inl ⟨by rfl, ?_⟩) ?_ ?_
    rotate_left
    ·intro w'
     go_simp
     with_reducible rfl
    rotate_left
    ·simp only [Act.put, List.setIfInBounds_toArray, List.set_cons_zero, List.set_cons_succ, i64_w, i32_w]
     rfl
    refine pure_ (i := 2) (N := some 27) (v := ?_) (a' := ?_) #[true, true, true, false, false, false, false, false, false, false, false, false, false, false] rfl rfl (any_of HT_.out (by kernel_rfl)) (fun _ _ _ h => h) (Or.inl ⟨by rfl, ?_⟩) ?_ ?_
    rotate_left
    ·intro w'
     go_simp
     with_reducible rfl
    rotate_left
    ·simp only [Act.put, List.setIfInBounds_toArray, List.set_cons_zero, List.set_cons_succ, i64_w, i32_w]
     rfl
    refine pure_ (i := 3) (N := some 28) (v := ?_) (a' := ?_) #[true, true, true, true, false, false, false, false, false, false, false, false, false, false] rfl rfl (any_of HT_.out (by kernel_rfl)) (fun _ _ _ h => h) (Or.inl ⟨by rfl, ?_⟩) ?_ ?_
    rotate_left
    ·intro w'
     go_simp
     with_reducible rfl
    rotate_left
    ·simp only [Act.put, List.setIfInBounds_toArray, List.set_cons_zero, List.set_cons_succ, i64_w, i32_w]
     rfl
    refine pure_ (i := 4) (N := some 29) (v := ?_) (a' := ?_) #[true, true, true, true, true, false, false, false, false, false, false, false, false, false] rfl rfl (any_of HT_.out (by kernel_rfl)) (fun _ _ _ h => h) (Or.inl ⟨by rfl, ?_⟩) ?_ ?_
    rotate_left
    ·intro w'
     go_simp
     with_reducible rfl
    rotate_left
    ·simp only [Act.put, List.setIfInBounds_toArray, List.set_cons_zero, List.set_cons_succ, i64_w, i32_w]
     rfl
    refine pure_ (i := 5) (N := some 30) (v := ?_) (a' := ?_) #[true, true, true, true, true, true, false, false, false, false, false, false, false, false] rfl rfl (any_of HT_.out (by kernel_rfl)) (fun _ _ _ h => h) (Or.inl ⟨by rfl, ?_⟩) ?_ ?_
    rotate_left
    ·intro w'
     go_simp
     with_reducible rfl
    rotate_left
    ·simp only [Act.put, List.setIfInBounds_toArray, List.set_cons_zero, List.set_cons_succ, i64_w, i32_w]
     rfl
    refine pure_ (i := 6) (N := some 31) (v := ?_) (a' := ?_) #[true, true, true, true, true, true, true, false, false, false, false, false, false, false] rfl rfl (any_of HT_.out (by kernel_rfl)) (fun _ _ _ h => h) (Or.inl ⟨by rfl, ?_⟩) ?_ ?_
    rotate_left
    ·intro w'
     go_simp
     with_reducible rfl
    rotate_left
    ·simp only [Act.put, List.setIfInBounds_toArray, List.set_cons_zero, List.set_cons_succ, i64_w, i32_w]
     rfl
    refine pure_ (i := 7) (N := some 32) (v := ?_) (a' := ?_) #[true, true, true, true, true, true, true, true, false, false, false, false, false, false] rfl rfl (any_of HT_.out (by kernel_rfl)) (fun _ _ _ h => h) (Or.inl ⟨by rfl, ?_⟩) ?_ ?_
    rotate_left
    ·intro w'
     go_simp
     with_reducible rfl
    rotate_left
    ·simp only [Act.put, List.setIfInBounds_toArray, List.set_cons_zero, List.set_cons_succ, i64_w, i32_w]
     rfl
    refine pure_ (i := 8) (N := some 33) (v := undef) (a' := ?_) #[true, true, true, true, true, true, true, true, true, false, false, false, false, false] rfl rfl (any_of HT_.out (by kernel_rfl)) (fun _ _ _ h => h) (Or.inr ⟨by rfl, rfl⟩) ?_ ?_
    rotate_left
    ·simp only [Act.put, List.setIfInBounds_toArray, List.set_cons_zero, List.set_cons_succ, i64_w, i32_w]
     rfl
    refine pure_ (i := 9) (N := some 34) (v := undef) (a' := ?_) #[true, true, true, true, true, true, true, true, true, true, false, false, false, false] rfl rfl (any_of HT_.out (by kernel_rfl)) (fun _ _ _ h => h) (Or.inr ⟨by rfl, rfl⟩) ?_ ?_
    rotate_left
    ·simp only [Act.put, List.setIfInBounds_toArray, List.set_cons_zero, List.set_cons_succ, i64_w, i32_w]
     rfl
    refine pure_ (i := 10) (N := some 35) (v := undef) (a' := ?_) #[true, true, true, true, true, true, true, true, true, true, true, false, false, false] rfl rfl (any_of HT_.out (by kernel_rfl)) (fun _ _ _ h => h) (Or.inr ⟨by rfl, rfl⟩) ?_ ?_
    rotate_left
    ·simp only [Act.put, List.setIfInBounds_toArray, List.set_cons_zero, List.set_cons_succ, i64_w, i32_w]
     rfl
    refine pure_ (i := 11) (N := some 36) (v := undef) (a' := ?_) #[true, true, true, true, true, true, true, true, true, true, true, true, false, false] rfl rfl (any_of HT_.out (by kernel_rfl)) (fun _ _ _ h => h) (Or.inr ⟨by rfl, rfl⟩) ?_ ?_
    rotate_left
    ·simp only [Act.put, List.setIfInBounds_toArray, List.set_cons_zero, List.set_cons_succ, i64_w, i32_w]
     rfl
    refine pure_ (i := 12) (N := some 37) (v := undef) (a' := ?_) #[true, true, true, true, true, true, true, true, true, true, true, true, true, false] rfl rfl (any_of HT_.out (by kernel_rfl)) (fun _ _ _ h => h) (Or.inr ⟨by rfl, rfl⟩) ?_ ?_
    rotate_left
    ·simp only [Act.put, List.setIfInBounds_toArray, List.set_cons_zero, List.set_cons_succ, i64_w, i32_w]
     rfl
    refine pure_ (i := 13) (N := some 38) (v := ?_) (a' := ?_) #[true, true, true, true, true, true, true, true, true, true, true, true, true, true] rfl rfl (any_of HT_.out (by kernel_rfl)) (fun _ _ _ h => h) (Or.inl ⟨by rfl, ?_⟩) ?_ ?_
    rotate_left
    ·intro w'
     go_simp
     with_reducible rfl
    rotate_left
    ·simp only [Act.put, List.setIfInBounds_toArray, List.set_cons_zero, List.set_cons_succ, i64_w, i32_w]
     rfl
    refine done_ (done_of HT_.out (by kernel_rfl)) ?_
    try go_wp2
    go_meet
    case rel => exact ⟨_, (true), zq5, H', ⟨by first | omega | exact Nat.le_refl _⟩, ⟨by (with_reducible repeat (first | apply Kd.V_alloc | apply Kd.V_drewN | apply Kd.V_drew)); exact Kd.V_mono HO489.out (fun _ hk => hk.2)⟩, ⟨by (with_reducible repeat (first | refine blk_drewN ?_ _ | refine blk_drew ?_ | refine blk_alloc ?_ _)); exact BK490.out⟩, ⟨by repeat (first | (with_reducible first | exact HB.out | apply below_alloc | apply pw_below_drewN | apply below_drew1 | refine below_set ?_ GE490.out) | exact HB.out)⟩⟩
  ·rw [if_neg c12] at H
   have c12b0 : (t491 == a0) = false := beq_eq_false_iff_ne.mpr c12
   have c12b1 : (t491 != a0) = true := bne_iff_ne.mpr c12
   (first | rw [c12b0] | (simp only [i64_w, i32_w]; rw [c12b0]) | skip)
   have H' := Aside0.mk H
   clear H
   try go_wp2
   replace HO489 := Aside0.mk (Kd.V_drew HO489.out); replace BK490 := Aside0.mk (blk_drew BK490.out); replace HB := Aside0.mk (below_drew1 HB.out)
   refine start_ (n := 14) (S := fun w' => True) (ds := []) #[false, false, false, false, false, false, false, false, false, false, false, false, false, false] (by kernel_rfl) rfl rfl trivial (fun hHeld => ?_); refine with_tabW worldmintlaw05_WideFrom.tab3 worldmintlaw05_WideFrom.bits3 (fun HT_ HW_ => ?_)
   generalize w11.drew = w21 at HO489 BK490 HB hHeld ⊢
   refine pure_ (i := 0) (N := some 25) (v := ?_) (a' := ?_) #[true, false, false, false, false, false, false, false, false, false, false, false, false, false] rfl rfl (any_of HT_.out (by kernel_rfl)) (fun _ _ _ h => h) (Or.inl ⟨by rfl, ?_⟩) ?_ ?_
   rotate_left
   ·intro w'
    go_simp
    with_reducible rfl
   rotate_left
   ·simp only [Act.put, List.setIfInBounds_toArray, List.set_cons_zero, List.set_cons_succ, i64_w, i32_w]
    rfl
   refine pure_ (i := 1) (N := some 26) (v := ?_) (a' := ?_) #[true, true, false, false, false, false, false, false, false, false, false, false, false, false] rfl rfl (any_of HT_.out (by kernel_rfl)) (fun _ _ _ h => h) (Or.inl ⟨by rfl, ?_⟩) ?_ ?_
   rotate_left
   ·intro w'
    go_simp
    with_reducible rfl
   rotate_left
   ·simp only [Act.put, List.setIfInBounds_toArray, List.set_cons_zero, List.set_cons_succ, i64_w, i32_w]
    rfl
   refine pure_ (i := 2) (N := some 27) (v := ?_) (a' := ?_) #[true, true, true, false, false, false, false, false, false, false, false, false, false, false] rfl rfl (any_of HT_.out (by kernel_rfl)) (fun _ _ _ h => h) (Or.inl ⟨by rfl, ?_⟩) ?_ ?_
   rotate_left
   ·intro w'
    go_simp
    with_reducible rfl
   rotate_left
   ·simp only [Act.put, List.setIfInBounds_toArray, List.set_cons_zero, List.set_cons_succ, i64_w, i32_w]
    rfl
   refine pure_ (i := 3) (N := some 28) (v := ?_) (a' := ?_) #[true, true, true, true, false, false, false, false, false, false, false, false, false, false] rfl rfl (any_of HT_.out (by kernel_rfl)) (fun _ _ _ h => h) (Or.inl ⟨by rfl, ?_⟩) ?_ ?_
   rotate_left
   ·intro w'
    go_simp
    with_reducible rfl
   rotate_left
   ·simp only [Act.put, List.setIfInBounds_toArray, List.set_cons_zero, List.set_cons_succ, i64_w, i32_w]
    rfl
   refine pure_ (i := 4) (N := some 29) (v := undef) (a' := ?_) #[true, true, true, true, true, false, false, false, false, false, false, false, false, false] rfl rfl (any_of HT_.out (by kernel_rfl)) (fun _ _ _ h => h) (Or.inr ⟨by rfl, rfl⟩) ?_ ?_
   rotate_left
   ·simp only [Act.put, List.setIfInBounds_toArray, List.set_cons_zero, List.set_cons_succ, i64_w, i32_w]
    rfl
   refine pure_ (i := 5) (N := some 30) (v := undef) (a' := ?_) #[true, true, true, true, true, true, false, false, false, false, false, false, false, false] rfl rfl (any_of HT_.out (by kernel_rfl)) (fun _ _ _ h => h) (Or.inr ⟨by rfl, rfl⟩) ?_ ?_
   rotate_left
   ·simp only [Act.put, List.setIfInBounds_toArray, List.set_cons_zero, List.set_cons_succ, i64_w, i32_w]
    rfl
   refine pure_ (i := 6) (N := some 31) (v := ?_) (a' := ?_) #[true, true, true, true, true, true, true, false, false, false, false, false, false, false] rfl rfl (any_of HT_.out (by kernel_rfl)) (fun _ _ _ h => h) (Or.inl ⟨by rfl, ?_⟩) ?_ ?_
   rotate_left
   ·intro w'
    go_simp
    with_reducible rfl
   rotate_left
   ·simp only [Act.put, List.setIfInBounds_toArray, List.set_cons_zero, List.set_cons_succ, i64_w, i32_w]
    rfl
   refine pure_ (i := 7) (N := some 32) (v := ?_) (a' := ?_) #[true, true, true, true, true, true, true, true, false, false, false, false, false, false] rfl rfl (any_of HT_.out (by kernel_rfl)) (fun _ _ _ h => h) (Or.inl ⟨by rfl, ?_⟩) ?_ ?_
   rotate_left
   ·intro w'
    go_simp
    with_reducible rfl
   rotate_left
   ·simp only [Act.put, List.setIfInBounds_toArray, List.set_cons_zero, List.set_cons_succ, i64_w, i32_w]
    rfl
   refine pure_ (i := 8) (N := some 33) (v := undef) (a' := ?_) #[true, true, true, true, true, true, true, true, true, false, false, false, false, false] rfl rfl (any_of HT_.out (by kernel_rfl)) (fun _ _ _ h => h) (Or.inr ⟨by rfl, rfl⟩) ?_ ?_
   rotate_left
   ·simp only [Act.put, List.setIfInBounds_toArray, List.set_cons_zero, List.set_cons_succ, i64_w, i32_w]
    rfl
   refine pure_ (i := 9) (N := some 34) (v := undef) (a' := ?_) #[true, true, true, true, true, true, true, true, true, true, false, false, false, false] rfl rfl (any_of HT_.out (by kernel_rfl)) (fun _ _ _ h => h) (Or.inr ⟨by rfl, rfl⟩) ?_ ?_
   rotate_left
   ·simp only [Act.put, List.setIfInBounds_toArray, List.set_cons_zero, List.set_cons_succ, i64_w, i32_w]
    rfl
   refine pure_ (i := 10) (N := some 35) (v := undef) (a' := ?_) #[true, true, true, true, true, true, true, true, true, true, true, false, false, false] rfl rfl (any_of HT_.out (by kernel_rfl)) (fun _ _ _ h => h) (Or.inr ⟨by rfl, rfl⟩) ?_ ?_
   rotate_left
   ·simp only [Act.put, List.setIfInBounds_toArray, List.set_cons_zero, List.set_cons_succ, i64_w, i32_w]
    rfl
   refine pure_ (i := 11) (N := some 36) (v := undef) (a' := ?_) #[true, true, true, true, true, true, true, true, true, true, true, true, false, false] rfl rfl (any_of HT_.out (by kernel_rfl)) (fun _ _ _ h => h) (Or.inr ⟨by rfl, rfl⟩) ?_ ?_
   rotate_left
   ·simp only [Act.put, List.setIfInBounds_toArray, List.set_cons_zero, List.set_cons_succ, i64_w, i32_w]
    rfl
   refine pure_ (i := 12) (N := some 37) (v := undef) (a' := ?_) #[true, true, true, true, true, true, true, true, true, true, true, true, true, false] rfl rfl (any_of HT_.out (by kernel_rfl)) (fun _ _ _ h => h) (Or.inr ⟨by rfl, rfl⟩) ?_ ?_
   rotate_left
   ·simp only [Act.put, List.setIfInBounds_toArray, List.set_cons_zero, List.set_cons_succ, i64_w, i32_w]
    rfl
   refine pure_ (i := 13) (N := some 38) (v := ?_) (a' := ?_) #[true, true, true, true, true, true, true, true, true, true, true, true, true, true] rfl rfl (any_of HT_.out (by kernel_rfl)) (fun _ _ _ h => h) (Or.inl ⟨by rfl, ?_⟩) ?_ ?_
   rotate_left
   ·intro w'
    go_simp
    with_reducible rfl
   rotate_left
   ·simp only [Act.put, List.setIfInBounds_toArray, List.set_cons_zero, List.set_cons_succ, i64_w, i32_w]
    rfl
   refine done_ (done_of HT_.out (by kernel_rfl)) ?_
   try go_wp2
   go_meet
   case rel => exact ⟨_, (true), zq5, H', ⟨by first | omega | exact Nat.le_refl _⟩, ⟨by (with_reducible repeat (first | apply Kd.V_alloc | apply Kd.V_drewN | apply Kd.V_drew)); exact Kd.V_mono HO489.out (fun _ hk => hk.2)⟩, ⟨by (with_reducible repeat (first | refine blk_drewN ?_ _ | refine blk_drew ?_ | refine blk_alloc ?_ _)); exact BK490.out⟩, ⟨by repeat (first | (with_reducible first | exact HB.out | apply below_alloc | apply pw_below_drewN | apply below_drew1 | refine below_set ?_ GE490.out) | exact HB.out)⟩⟩
 case rest =>
  clear HC6
  try clear c1
  try clear c2
  try clear p2
  try clear c4
  try clear c12
  try clear c12b0
  try clear c12b1
  try clear c13
  try clear c18
  try clear c21
  try clear hcz9_0
  try clear hcz9_1
  try clear hfz9_0
  try clear hfz9_1
  obtain ⟨kq, x38_5, rfl, HA, HJ5, HO_491001, BK490, HB⟩ := hcut
  cases kq with
  | zero => exact absurd HA.out (by simp [worldmintlaw05_WideFrom.j0])
  | succ kj5 =>
   have H := HA.out
   clear HA
   simp only [worldmintlaw05_WideFrom.j0] at H
   by_cases c22 : x38_5 = true
   ·subst c22
    have H1 : (some false) = some r := by rw [if_pos rfl] at H; exact H
    clear H
    have H := H1
    clear H1
    subst hT_
    cases H
   ·replace c22 := Bool.eq_false_iff.mpr c22
    subst c22
    have H1 : ((worldmintref05_Number.f kj5 l1 0).bind fun bt498 => ((worldmintref01_Around.f a2 7).bind fun t502 => ((worldmintref01_Around.f (wrap64 (Int.tdiv a2 7)) 2).bind fun t503 => ((worldmintref05_Near.f kj5 (wrap64 ((wrap64 ((wrap64 (4 * t502)) + 3)) + (wrap64 (28 * t503))))).bind fun bt504 => (worldmintlaw05_WideFrom.l0 kj5 (([(⟨bt498.1, bt498.2⟩ : S25), (⟨bt504.1, bt504.2⟩ : S25)] : List (S25))) 0))))) = some r := by rw [if_neg (show ¬ (false = true) by decide)] at H; exact H
    clear H
    have H := H1
    clear H1
    replace H := Option.bind_eq_some_iff.mp H
    obtain ⟨⟨t498, t499⟩, A230, H⟩ := H
    replace H : ((worldmintref01_Around.f a2 7).bind fun t502 => ((worldmintref01_Around.f (wrap64 (Int.tdiv a2 7)) 2).bind fun t503 => ((worldmintref05_Near.f kj5 (wrap64 ((wrap64 ((wrap64 (4 * t502)) + 3)) + (wrap64 (28 * t503))))).bind fun bt504 => (worldmintlaw05_WideFrom.l0 kj5 (([(⟨t498, t499⟩ : S25), (⟨bt504.1, bt504.2⟩ : S25)] : List (S25))) 0)))) = some r := H
    have A23 := Aside0.mk A230
    clear A230
    replace H := Option.bind_eq_some_iff.mp H
    obtain ⟨t502, A240, H⟩ := H
    replace H : ((worldmintref01_Around.f (wrap64 (Int.tdiv a2 7)) 2).bind fun t503 => ((worldmintref05_Near.f kj5 (wrap64 ((wrap64 ((wrap64 (4 * t502)) + 3)) + (wrap64 (28 * t503))))).bind fun bt504 => (worldmintlaw05_WideFrom.l0 kj5 (([(⟨t498, t499⟩ : S25), (⟨bt504.1, bt504.2⟩ : S25)] : List (S25))) 0))) = some r := H
    have A24 := Aside0.mk A240
    clear A240
    replace H := Option.bind_eq_some_iff.mp H
    obtain ⟨t503, A250, H⟩ := H
    replace H : ((worldmintref05_Near.f kj5 (wrap64 ((wrap64 ((wrap64 (4 * t502)) + 3)) + (wrap64 (28 * t503))))).bind fun bt504 => (worldmintlaw05_WideFrom.l0 kj5 (([(⟨t498, t499⟩ : S25), (⟨bt504.1, bt504.2⟩ : S25)] : List (S25))) 0)) = some r := H
    have A25 := Aside0.mk A250
    clear A250
    replace H := Option.bind_eq_some_iff.mp H
    obtain ⟨⟨t504, t505⟩, A260, H⟩ := H
    replace H : (worldmintlaw05_WideFrom.l0 kj5 (([(⟨t498, t499⟩ : S25), (⟨t504, t505⟩ : S25)] : List (S25))) 0) = some r := H
    have A26 := Aside0.mk A260
    clear A260
    obtain ⟨y508, hy508⟩ : ∃ y_ : List (S25), y_ = (([(⟨t498, t499⟩ : S25), (⟨t504, t505⟩ : S25)] : List (S25))) := ⟨_, rfl⟩
    replace H : (worldmintlaw05_WideFrom.l0 kj5 y508 0) = some r := by first | (rw [hy508]; with_reducible exact H) | (have H2_ := (Option.bind_some _ _).symm.trans H; rw [hy508]; with_reducible exact H2_) | (have H2_ := (Option.bind_some _ _).symm.trans H; with_reducible exact H2_) | with_reducible exact H | (rw [hy508]; exact H) | exact H
    have Ny508 := Aside0.mk hy508
    clear hy508
    have H' := Aside0.mk H
    clear H
    go_wp2_with (first | ((with_reducible refine gate_callee (f := 13) rfl ?_); refine goesL_ (some 40) rfl rfl Tryz.func13 (by kernel_rfl) rfl #[.slice A1 l1.length c1, .int .i64 0] rfl zq6 ?_; (with_reducible refine (worldmintref05_Number.calls kj5 _ _ l1 0 t498 t499 _ ?side1 ?side2 A23.out).mono ?_); (case side1 => repeat (first | exact (Kd.C_below HR1.out HB.out) | (with_reducible refine Kd.C_alloc ?_ _) | (with_reducible refine Kd.C_drewN ?_ _) | (with_reducible refine Kd.C_drew ?_))); (case side2 => exact HC1.out); rintro e w27 ⟨v500, rfl, ho0, hb⟩; refine ⟨_, rfl, ?_⟩; replace HO_491001 := Aside0.mk (Kd.V_below (zq1 HO_491001.out) hb); have HO501 := Aside0.mk (Kd.V_lower (Kd.V_mono (ok' := fun k_ => k_ ≠ gb490) ho0 (fun k_ hk_ => (Kd.freshB (g := gb490) (o := .cells #[.bool t486, .slice Ao10 t487.length co10] 33 (0, 0)) (zq9 BK490.out) k_ hk_))) (below_size zq95)); replace BK490 := Aside0.mk (blk_below (g := gb490) (o := .cells #[.bool t486, .slice Ao10 t487.length co10] 33 (0, 0)) (zq9 BK490.out) hb); replace HB := Aside0.mk (below_step zq95 hb); (try clear hb); (try clear ho0)) | ((with_reducible refine gate_callee (f := 14) rfl ?_); refine goesL_ (some 42) rfl rfl Tryz.func14 (by kernel_rfl) rfl #[.int .i64 a2, .int .i64 7] rfl zq6 ?_; (with_reducible refine (worldmintref01_Around.calls a2 7 t502 _ A24.out).mono ?_); rintro e w' ⟨rfl, ⟨nd, rfl⟩⟩; refine ⟨_, rfl, ?_⟩) | ((with_reducible refine gate_callee (f := 14) rfl ?_); refine goesL_ (some 47) rfl rfl Tryz.func14 (by kernel_rfl) rfl #[.int .i64 (wrap64 (Int.tdiv a2 7)), .int .i64 2] rfl zq6 ?_; (with_reducible refine (worldmintref01_Around.calls (wrap64 (Int.tdiv a2 7)) 2 t503 _ A25.out).mono ?_); rintro e w' ⟨rfl, ⟨nd, rfl⟩⟩; refine ⟨_, rfl, ?_⟩) | ((with_reducible refine gate_callee (f := 24) rfl ?_); refine goesL_ (some 50) rfl rfl Tryz.func24 (by kernel_rfl) rfl #[.int .i64 (wrap64 ((wrap64 ((wrap64 (4 * t502)) + 3)) + (wrap64 (28 * t503))))] rfl zq6 ?_; (with_reducible refine (worldmintref05_Near.calls kj5 (wrap64 ((wrap64 ((wrap64 (4 * t502)) + 3)) + (wrap64 (28 * t503)))) t504 t505 _ A26.out).mono ?_); rintro e w28 ⟨v506, rfl, ho0, hb⟩; refine ⟨_, rfl, ?_⟩; replace HO_491001 := Aside0.mk (Kd.V_below (zq1 HO_491001.out) hb); replace HO501 := Aside0.mk (Kd.V_below (zq1 HO501.out) hb); have HO507 := Aside0.mk (Kd.V_lower (Kd.V_mono (ok' := fun k_ => k_ ≠ gb490) ho0 (fun k_ hk_ => (Kd.freshB (g := gb490) (o := .cells #[.bool t486, .slice Ao10 t487.length co10] 33 (0, 0)) (zq9 BK490.out) k_ hk_))) (below_size zq95)); replace BK490 := Aside0.mk (blk_below (g := gb490) (o := .cells #[.bool t486, .slice Ao10 t487.length co10] 33 (0, 0)) (zq9 BK490.out) hb); replace HB := Aside0.mk (below_step zq95 hb); (try clear hb); (try clear ho0); obtain ⟨Ao29, co29, eo29⟩ := Kd.V_slice HO501.out; subst eo29; obtain ⟨Ao30, co30, eo30⟩ := Kd.V_slice HO507.out; subst eo30) | ((with_reducible refine gate_dst (N := 51) rfl ?_); refine Kd.N_lit k25 _ 25 ?hg (N' := 51) ?hd (xs := ([(⟨t498, t499⟩ : S25), (⟨t504, t505⟩ : S25)] : List (S25))) (inner := [.bool t498, .slice Ao29 t499.length co29, .bool t504, .slice Ao30 t505.length co30]) (ok := (fun k_ => k_ ≠ gb490)) (okp := (fun k_ => k_ ≠ gb490)) ?hr ?hp (fun _ hk => hk) ((show ∀ k_, w28.heap.size ≤ k_ → (fun k_ => k_ ≠ gb490) k_ from fun k_ hk => Kd.freshB (g := gb490) (o := .cells #[.bool t486, .slice Ao10 t487.length co10] 33 (0, 0)) (zq9 BK490.out) k_ hk) _ (Nat.le_refl _)) (Below.refl _ _) (Nat.le_refl _) (by simp) ?_; (case hd => rfl); (case hg => rfl); (case hr => exact zq0); (case hp => exact (Reps.c2 (show Kd.FK k25 _ _ (⟨t498, t499⟩ : S25) [.bool t498, .slice Ao29 t499.length co29] from (k25_mkF _ _ (⟨t498, t499⟩ : S25) (Kd.V_reads' (Kd.V_mono (ok' := (fun k_ => k_ ≠ gb490)) (HO501.out) (fun k_ hk => hk))).2.1 (Kd.V_F (Kd.V_mono (ok' := (fun k_ => k_ ≠ gb490)) (HO501.out) (fun k_ hk => hk))))) (Reps.c2 (show Kd.FK k25 _ _ (⟨t504, t505⟩ : S25) [.bool t504, .slice Ao30 t505.length co30] from (k25_mkF _ _ (⟨t504, t505⟩ : S25) (Kd.V_reads' (Kd.V_mono (ok' := (fun k_ => k_ ≠ gb490)) (HO507.out) (fun k_ hk => hk))).2.1 (Kd.V_F (Kd.V_mono (ok' := (fun k_ => k_ ≠ gb490)) (HO507.out) (fun k_ hk => hk))))) (Reps.none _ _)))); intro v509 w31 ho32 hb hg_ hnew_; clear hg_ hnew_; (first | rw [← Ny508.out] at ho32 | (simp only [Int.reduceToNat] at ho32; rw [← Ny508.out] at ho32)); replace HO_491001 := Aside0.mk (Kd.V_elder' (zq1 HO_491001.out) (Kd.N_base ho32) hb); have HO510 := Aside0.mk (Kd.N_lower ho32 (below_size zq95)); replace BK490 := Aside0.mk (blk_below (g := gb490) (o := .cells #[.bool t486, .slice Ao10 t487.length co10] 33 (0, 0)) (zq9 BK490.out) hb); replace HB := Aside0.mk (below_step zq95 hb); clear hb ho32))
    try simp only [Act.put, List.setIfInBounds_toArray, List.set_cons_zero, List.set_cons_succ]
    go_loopg [11] kj5 (fun kq v11 w' => ∃ (x11_2 : Int), v11 = .int .i64 x11_2 ∧ Aside0 (worldmintlaw05_WideFrom.l0 kq y508 x11_2 = some r) ∧ Aside0 (kq ≤ kj5) ∧ Aside0 (Kd.N k25 25 w' w.heap.size (fun k_ => k_ ≠ gb490) v509 y508) ∧ Aside0 (Kd.V (Kd.int .u32) 81 w' w.heap.size (fun k_ => some k_ ≠ (v509 : Value).ownBlock ∧ k_ ≠ gb490) (.slice Ao10 t487.length co10) t487) ∧ Aside0 (w'.heap[gb490]? = some (.cells #[.bool t486, (.slice Ao10 t487.length co10)] 33 (0, 0))) ∧ Aside0 (Below w.heap.size w w'))
    case atStart => exact ⟨(0), zq5, H', ⟨Nat.le_refl _⟩, ⟨by (with_reducible repeat (first | apply Kd.N_alloc | apply Kd.N_drewN | apply Kd.N_drew)); exact HO510.out⟩, ⟨by (with_reducible repeat (first | apply Kd.V_alloc | apply Kd.V_drewN | apply Kd.V_drew)); exact Kd.V_mono HO_491001.out (fun _ hk => ⟨hk.2, hk.1⟩)⟩, ⟨by (with_reducible repeat (first | refine blk_drewN ?_ _ | refine blk_drew ?_ | refine blk_alloc ?_ _)); exact BK490.out⟩, ⟨by repeat (first | (with_reducible first | exact HB.out | apply below_alloc | apply pw_below_drewN | apply below_drew1 | refine below_set ?_ GE490.out) | exact HB.out)⟩⟩
    case round =>
     clear H'
     try clear c1
     try clear c2
     try clear p2
     try clear c4
     try clear p6
     try clear c12
     try clear c12b0
     try clear c12b1
     try clear c13
     try clear c14
     try clear c18
     try clear c21
     try clear c22
     try clear c23
     try clear c24
     try clear hcz9_0
     try clear hcz9_1
     try clear hfz9_0
     try clear hfz9_1
     try clear p2
     obtain ⟨x11_2, rfl, HA, HK2, HO_10, HO_491001, BK490, HB⟩ := hrel
     cases gk with
     | zero => exact absurd HA.out (by simp [worldmintlaw05_WideFrom.l0])
     | succ k2 =>
      have H := HA.out
      clear HA
      simp only [worldmintlaw05_WideFrom.l0] at H
      by_cases c33 : x11_2 < 2
      ·rw [if_pos c33] at H
       have c33b0 : decide (x11_2 < 2) = true := decide_eq_true c33
       clear c33
       by_cases c34 : 0 ≤ x11_2
       ·rw [if_pos c34] at H
        have c34b0 : decide (0 ≤ x11_2) = true := decide_eq_true c34
        clear c34
        by_cases c35 : x11_2 < (y508.length : Int)
        ·rw [if_pos c35] at H
         have c35b0 : decide (x11_2 < (y508.length : Int)) = true := decide_eq_true c35
         clear c35
         replace H := Option.bind_eq_some_iff.mp H
         obtain ⟨⟨t513, t514, t517⟩, A360, H⟩ := H
         replace H : ((wide_Int_Small.f k2 t513 t514).bind fun bt519 => ((worldmintref05_Small.f k2 ((rd_T25 y508 x11_2).f0) ((rd_T25 y508 x11_2).f1)).bind fun bt522 => (if t517 = true then (if bt519.1 = bt522.1 then (if (!(bt519.2 == bt522.2)) = true then (some false) else (worldmintlaw05_WideFrom.l0 k2 y508 (wrap64 (x11_2 + 1)))) else (some false)) else (some false)))) = some r := H
         have A36 := Aside0.mk A360
         clear A360
         replace H := Option.bind_eq_some_iff.mp H
         obtain ⟨⟨t519, t520⟩, A370, H⟩ := H
         replace H : ((worldmintref05_Small.f k2 ((rd_T25 y508 x11_2).f0) ((rd_T25 y508 x11_2).f1)).bind fun bt522 => (if t517 = true then (if t519 = bt522.1 then (if (!(t520 == bt522.2)) = true then (some false) else (worldmintlaw05_WideFrom.l0 k2 y508 (wrap64 (x11_2 + 1)))) else (some false)) else (some false))) = some r := H
         have A37 := Aside0.mk A370
         clear A370
         replace H := Option.bind_eq_some_iff.mp H
         obtain ⟨⟨t522, t523⟩, A380, H⟩ := H
         replace H : (if t517 = true then (if t519 = t522 then (if (!(t520 == t523)) = true then (some false) else (worldmintlaw05_WideFrom.l0 k2 y508 (wrap64 (x11_2 + 1)))) else (some false)) else (some false)) = some r := H
         have A38 := Aside0.mk A380
         clear A380
         by_cases c39 : t517 = true
         ·subst c39
          have H1 : (if t519 = t522 then (if (!(t520 == t523)) = true then (some false) else (worldmintlaw05_WideFrom.l0 k2 y508 (wrap64 (x11_2 + 1)))) else (some false)) = some r := by rw [if_pos rfl] at H; exact H
          clear H
          have H := H1
          clear H1
          by_cases c40 : t519 = t522
          ·rw [if_pos c40] at H
           have c40b0 : (t519 == t522) = true := beq_iff_eq.mpr c40
           have c40b1 : (t519 != t522) = false := bne_eq_false_iff_eq.mpr c40
           clear c40
           by_cases c41 : (!(t520 == t523)) = true
           ·rw [if_pos c41] at H
            have c41b0 : (!(t520 == t523)) = true := c41
            clear c41
            subst hT_
            cases H
           ·rw [if_neg c41] at H
            have c41b0 : (!(t520 == t523)) = false := by simpa using c41
            clear c41
            have H' := Aside0.mk H
            clear H
            obtain ⟨Ao42, co42, eo42⟩ := Kd.N_slice HO_10.out
            subst eo42
            have p512 : 0 ≤ (x11_2 : Int) := of_decide_eq_true zq3
            have q512 : x11_2 < (y508.length : Int) := of_decide_eq_true zq3
            obtain ⟨ad512, A512_1, c512_1, e512, hx512_0, hx512_1, hl512_1, hi512_1⟩ := at_T25 (Kd.N_reads' HO_10.out).2.2 x11_2 p512 q512
            cases e512
            obtain ⟨ce512, hce512, hMe512, hcc512⟩ := Kd.N_get HO_10.out z25 x11_2 p512 (by first | exact q512 | exact of_decide_eq_true zq3 | (have e_ := (Kd.N_reads' HO_10.out).1; omega))
            obtain ⟨ua512_1, uc512_1, rfl, ul512_1, ge512_1⟩ := k25_openF hMe512
            have hv512_1 := hcc512 1 _ rfl
            rw [add_field _ _ 1 (by omega)] at hv512_1
            replace hv512_1 := Option.some.inj (hv512_1.symm.trans hx512_1)
            injection hv512_1 with hva_ hvn_ hvc_
            rw [hva_] at ge512_1
            rw [hvc_] at ul512_1
            have HL512_1 := Aside0.mk (show Kd.V (Kd.int .i64) 3 _ w.heap.size _ _ ((rd_T25 y508 x11_2).f1) from Kd.V_mk ul512_1 ge512_1)
            clear hva_ hvn_ hvc_ ge512_1 ul512_1
            clear hcc512 hce512
            have HR512_1 := Aside0.mk hi512_1
            have HC512_1 := Aside0.mk hl512_1
            clear hi512_1 hl512_1
            replace p512 := eq_true p512
            replace q512 := eq_true q512
            go_wp2_with (first | ((with_reducible refine gate_callee (f := 25) rfl ?_); refine goesL_ (some 61) rfl rfl Tryz.func25 (by kernel_rfl) rfl #[.agg #[.bool ((rd_T25 y508 x11_2).f0), .slice A512_1 ((rd_T25 y508 x11_2).f1).length c512_1]] rfl zq6 ?_; (with_reducible refine (worldmintlaw05_wider.calls k2 ((rd_T25 y508 x11_2).f0) _ _ ((rd_T25 y508 x11_2).f1) t513 t514 true _ ?side1 ?side2 A36.out).mono ?_); (case side1 => repeat (first | exact (by repeat (first | (with_reducible exact HR512_1.out) | (with_reducible refine Kd.C_alloc ?_ _) | (with_reducible refine Kd.C_drewN ?_ _) | (with_reducible refine Kd.C_drew ?_) | exact HR512_1.out)) | (with_reducible refine Kd.C_alloc ?_ _) | (with_reducible refine Kd.C_drewN ?_ _) | (with_reducible refine Kd.C_drew ?_))); (case side2 => exact HC512_1.out); rintro e w43 ⟨v515, rfl, ho0, hb⟩; refine ⟨_, rfl, ?_⟩; have n0_ := Aside0.mk (Kd.N_below (zq97 HO_10.out) hb); have n1_ := Aside0.mk (Kd.V_below (zq1 HO_491001.out) hb); have n2_ := Aside0.mk (Kd.V_lower (Kd.V_mono (ok' := fun k_ => some k_ ≠ (.slice (some ad512) y508.length co42 : Value).ownBlock ∧ k_ ≠ gb490) ho0 (fun k_ hk_ => ⟨(Kd.fresh' (Kd.N_lt (zq97 HO_10.out)) k_ hk_), (Kd.freshB (g := gb490) (o := .cells #[.bool t486, .slice Ao10 t487.length co10] 33 (0, 0)) (zq9 BK490.out) k_ hk_)⟩)) (below_size zq95)); have n3_ := Aside0.mk (blk_below (g := gb490) (o := .cells #[.bool t486, .slice Ao10 t487.length co10] 33 (0, 0)) (zq9 BK490.out) hb); have n4_ := Aside0.mk (below_step zq95 hb); clear HO_10 HO_491001 BK490 HB; have HO_10 := n0_; have HO_491001 := n1_; have HO516 := n2_; have BK490 := n3_; have HB := n4_; clear n0_ n1_ n2_ n3_ n4_; (try clear hb); (try clear ho0)) | ((with_reducible refine gate_dst (N := 12) rfl ?_); refine box_event ?hg (N := 12) ?hd (cs := #[.bool false, .slice none 0 0]) (t := 33) ?hr ?_; (case hd => rfl); (case hg => rfl); (case hr => exact zq0); intro gb518 hg w44 hbox hb; have n0_ := Aside0.mk (Kd.N_below (Kd.N_elderB (zq97 HO_10.out) gb518 (Nat.le_of_eq hg.symm)) hb); have n1_ := Aside0.mk (Kd.V_below (Kd.V_elderB (zq1 HO_491001.out) gb518 (Nat.le_of_eq hg.symm)) hb); have n2_ := Aside0.mk (Kd.V_below (Kd.V_elderB (zq1 HO516.out) gb518 (Nat.le_of_eq hg.symm)) hb); have n3_ := Aside0.mk (blk_below (g := gb490) (o := .cells #[.bool t486, .slice Ao10 t487.length co10] 33 (0, 0)) (zq9 BK490.out) hb); have n4_ := Aside0.mk (below_step zq95 hb); have n5_ := Aside0.mk (hbox); have n6_ := Aside0.mk ((by rw [hg]; exact (below_size zq95) : w.heap.size ≤ gb518)); have n7_ := Aside0.mk ((by rw [hg]; exact Nat.ne_of_lt (blk_lt (g := gb490) (o := .cells #[.bool t486, .slice Ao10 t487.length co10] 33 (0, 0)) (zq9 BK490.out)) : gb490 ≠ gb518)); have n8_ := Aside0.mk ((by rw [hg]; exact Nat.ne_of_gt (blk_lt (g := gb490) (o := .cells #[.bool t486, .slice Ao10 t487.length co10] 33 (0, 0)) (zq9 BK490.out)) : gb518 ≠ gb490)); clear HO_10 HO_491001 HO516 BK490 HB; have HO_10 := n0_; have HO_491001 := n1_; have HO516 := n2_; have BK490 := n3_; have HB := n4_; have BK518 := n5_; have GE518 := n6_; have NB490_518 := n7_; have NB518_490 := n8_; clear n0_ n1_ n2_ n3_ n4_ n5_ n6_ n7_ n8_; clear hb hbox hg; have hnb45 := NB518_490.out; have hnc45 := NB490_518.out; have hcz46_0 : w44.cell? ⟨gb518, 0, none⟩ = some (.bool false) := (blk_cell BK518.out 0).trans rfl; have hcz46_1 : w44.cell? ⟨gb518, 1, none⟩ = some (.slice none 0 0) := (blk_cell BK518.out 1).trans rfl; have hfz46_0 := blk_frozen BK518.out 0; have hfz46_1 := blk_frozen BK518.out 1; obtain ⟨Ao47, co47, eo47⟩ := Kd.V_slice HO516.out; subst eo47) | ((with_reducible refine gate_callee (f := 22) rfl ?_); refine goesL_ (some 66) rfl rfl Tryz.func22 (by kernel_rfl) rfl #[.agg #[.bool t513, .slice Ao47 t514.length co47]] rfl zq6 ?_; (with_reducible refine (wide_Int_Small.calls k2 t513 _ _ t514 t519 t520 _ ?side1 ?side2 A37.out).mono ?_); (case side1 => refine (Kd.V_reads' (e := 81) (base := w.heap.size) (ok := fun k_ => ((some k_ ≠ (.slice (some ad512) y508.length co42 : Value).ownBlock ∧ k_ ≠ gb490) ∧ k_ ≠ gb518)) (n := t514.length) (c := co47) ?_).2.2; exact (zq98 HO516.out)); (case side2 => exact (Kd.V_reads' HO516.out).2.1); rintro e w48 ⟨rfl, hb⟩; refine ⟨_, rfl, ?_⟩; replace HO_10 := Aside0.mk (Kd.N_below (by (with_reducible repeat (first | apply Kd.N_alloc | apply Kd.N_drewN | apply Kd.N_drew)); exact (Kd.N_mono (Kd.N_far (p := ⟨gb518, 1, none⟩) (Kd.N_far (p := ⟨gb518, 0, none⟩) (Kd.N_mono HO_10.out (fun k_ hk => (⟨hk, hk.2⟩ : _ ∧ k_ ≠ gb518))) (fun _ hk => hk.2) (.bool t513)) (fun _ hk => hk.2) (.slice Ao47 t514.length co47)) (fun _ h_ => h_.1))) hb); replace HO_491001 := Aside0.mk (Kd.V_below (zq98 HO_491001.out) hb); replace BK490 := Aside0.mk (blk_below (g := gb490) (o := .cells #[.bool t486, .slice Ao10 t487.length co10] 33 (0, 0)) (by (with_reducible repeat (first | refine blk_drewN ?_ _ | refine blk_drew ?_ | refine blk_alloc ?_ _)); refine blk_far ?_ NB490_518.out _; (with_reducible repeat (first | refine blk_drewN ?_ _ | refine blk_drew ?_ | refine blk_alloc ?_ _)); refine blk_far ?_ NB490_518.out _; (with_reducible repeat (first | refine blk_drewN ?_ _ | refine blk_drew ?_ | refine blk_alloc ?_ _)); exact BK490.out) hb); replace HB := Aside0.mk (below_step zq99 hb); (try clear hb); have p521 : 0 ≤ (x11_2 : Int) := of_decide_eq_true zq3; have q521 : x11_2 < (y508.length : Int) := of_decide_eq_true zq3; obtain ⟨ad521, A521_1, c521_1, e521, hx521_0, hx521_1, hl521_1, hi521_1⟩ := at_T25 (Kd.N_reads' HO_10.out).2.2 x11_2 p521 q521; obtain rfl : ad512 = ad521 := (by injection e521); obtain ⟨ce521, hce521, hMe521, hcc521⟩ := Kd.N_get HO_10.out z25 x11_2 p521 (by first | exact q521 | exact of_decide_eq_true zq3 | (have e_ := (Kd.N_reads' HO_10.out).1; omega)); obtain ⟨ua521_1, uc521_1, rfl, ul521_1, ge521_1⟩ := k25_openF hMe521; have hv521_1 := hcc521 1 _ rfl; rw [add_field _ _ 1 (by omega)] at hv521_1; replace hv521_1 := Option.some.inj (hv521_1.symm.trans hx521_1); injection hv521_1 with hva_ hvn_ hvc_; rw [hva_] at ge521_1; rw [hvc_] at ul521_1; have HL521_1 := Aside0.mk (show Kd.V (Kd.int .i64) 3 _ w.heap.size _ _ ((rd_T25 y508 x11_2).f1) from Kd.V_mk ul521_1 ge521_1); clear hva_ hvn_ hvc_ ge521_1 ul521_1; clear hcc521 hce521; have HR521_1 := Aside0.mk hi521_1; have HC521_1 := Aside0.mk hl521_1; clear hi521_1 hl521_1; replace p521 := eq_true p521; replace q521 := eq_true q521) | ((with_reducible refine gate_callee (f := 26) rfl ?_); refine goesL_ (some 74) rfl rfl Tryz.func26 (by kernel_rfl) rfl #[.agg #[.bool ((rd_T25 y508 x11_2).f0), .slice A521_1 ((rd_T25 y508 x11_2).f1).length c521_1]] rfl zq6 ?_; (with_reducible refine (worldmintref05_Small.calls k2 ((rd_T25 y508 x11_2).f0) _ _ ((rd_T25 y508 x11_2).f1) t522 t523 _ ?side1 ?side2 A38.out).mono ?_); (case side1 => repeat (first | exact (by repeat (first | (with_reducible exact HR521_1.out) | (with_reducible refine Kd.C_alloc ?_ _) | (with_reducible refine Kd.C_drewN ?_ _) | (with_reducible refine Kd.C_drew ?_) | exact HR521_1.out)) | (with_reducible refine Kd.C_alloc ?_ _) | (with_reducible refine Kd.C_drewN ?_ _) | (with_reducible refine Kd.C_drew ?_))); (case side2 => exact HC521_1.out); rintro e w49 ⟨rfl, hb⟩; refine ⟨_, rfl, ?_⟩; replace HO_10 := Aside0.mk (Kd.N_below (zq97 HO_10.out) hb); replace HO_491001 := Aside0.mk (Kd.V_below (zq1 HO_491001.out) hb); replace BK490 := Aside0.mk (blk_below (g := gb490) (o := .cells #[.bool t486, .slice Ao10 t487.length co10] 33 (0, 0)) (zq9 BK490.out) hb); replace HB := Aside0.mk (below_step zq99 hb); (try clear hb)))
            go_roundg k2
            case measure => have := HJ5.out; have := HK2.out; omega
            case rel => exact ⟨(wrap64 (x11_2 + 1)), zq5, H', ⟨by have := HJ5.out; have := HK2.out; omega⟩, ⟨by (with_reducible repeat (first | apply Kd.N_alloc | apply Kd.N_drewN | apply Kd.N_drew)); exact Kd.N_mono HO_10.out (fun _ hk => hk.1)⟩, ⟨by (with_reducible repeat (first | apply Kd.V_alloc | apply Kd.V_drewN | apply Kd.V_drew)); exact Kd.V_mono HO_491001.out (fun _ hk => ⟨hk.1.1, hk.1.2⟩)⟩, ⟨by (with_reducible repeat (first | refine blk_drewN ?_ _ | refine blk_drew ?_ | refine blk_alloc ?_ _)); exact BK490.out⟩, ⟨by repeat (first | (with_reducible first | exact HB.out | apply below_alloc | apply pw_below_drewN | apply below_drew1 | refine below_set ?_ GE490.out | refine below_set ?_ GE518.out) | exact HB.out)⟩⟩
          ·rw [if_neg c40] at H
           have c40b0 : (t519 == t522) = false := beq_eq_false_iff_ne.mpr c40
           have c40b1 : (t519 != t522) = true := bne_iff_ne.mpr c40
           subst hT_
           cases H
         ·replace c39 := Bool.eq_false_iff.mpr c39
          subst c39
          have H1 : (some false) = some r := by rw [if_neg (show ¬ (false = true) by decide)] at H; exact H
          clear H
          have H := H1
          clear H1
          subst hT_
          cases H
        ·rw [if_neg c35] at H
         exact absurd H (by simp)
       ·rw [if_neg c34] at H
        exact absurd H (by simp)
      ·rw [if_neg c33] at H
       have c33b0 : decide (x11_2 < 2) = false := decide_eq_false c33
       clear c33
       replace H := Option.bind_eq_some_iff.mp H
       obtain ⟨t511, A500, H⟩ := H
       replace H : (some t511) = some r := H
       have A50 := Aside0.mk A500
       clear A500
       obtain rfl := Option.some.inj H
       go_wp2_with (first | ((with_reducible refine gate_callee (f := 20) rfl ?_); refine goesL_ (some 89) rfl rfl Tryz.func20 (by kernel_rfl) rfl #[] rfl zq6 ?_; (with_reducible refine (worldmintlaw05_lives.calls k2  t511 _ A50.out zq96 (by first | exact hT_ | rfl)).mono ?_); rintro e w51 ⟨rfl, hb⟩; refine ⟨_, rfl, ?_⟩; replace HB := Aside0.mk (below_step zq95 hb); (try clear hb)))
       go_ret
       exact ⟨by first | rfl | (simp [errW_none, errW_some] <;> rfl) | (simp [*, errW_none, errW_some] <;> rfl), by repeat (first | (with_reducible first | exact HB.out | apply below_alloc | apply pw_below_drewN | apply below_drew1 | refine below_set ?_ GE490.out) | exact HB.out)⟩

/-- THE ONE PURE STATEMENT of worldmintlaw05_WideFrom: yours. -/
def worldmintlaw05_WideFrom.Pure : Prop := ∀ (a0 : Int) (l1 : List Int) (a2 : Int), (Lit.int .i64 a0).wf = true → l1.length ≤ maxLen → l1.length * 8 ≤ 140737488351232 → (∀ x ∈ l1, (Lit.int .i64 x).wf = true) → (Lit.int .i64 a2).wf = true → ∃ k, worldmintlaw05_WideFrom.f k a0 l1 a2 = some true
theorem worldmintlaw05_WideFrom.walk (P : worldmintlaw05_WideFrom.Pure) (a0 : Int) (a1 : Option Addr) (len1 cap1 : Nat) (z1 : List Int) (a2 : Int) (w : World) (w0 : (Lit.int .i64 a0).wf = true) (w1 : (a1 = none ∧ len1 = 0 ∧ cap1 = 0 ∧ z1 = []) ∨ ∃ x, a1 = some x ∧ len1 ≤ cap1 ∧ cap1 ≤ maxLen ∧ z1.length = cap1 ∧ (∀ i, i < z1.length → w.cell? (x.add i) = some (.int .i64 (z1.getD i 0))) ∧ ∀ n ∈ z1, (Lit.int .i64 n).wf = true) (y1 : len1 * 8 ≤ 140737488351232) (w2 : (Lit.int .i64 a2).wf = true) (hG : GOK w) :
  Calls Tryz.prog 4 #[.int .i64 a0, .slice a1 len1 cap1, .int .i64 a2] w fun e w' => e = .returned (.bool true) ∧ Below w.heap.size w w' := by
 obtain ⟨l1, rfl, hr1, hm1, hw1, hc1⟩ := ReadsInt.ofRowC w1
 obtain ⟨k, h⟩ := P a0 l1 a2 w0 hm1 y1 hw1 w2
 refine (worldmintlaw05_WideFrom.calls k a0 _ _ l1 a2 true w (Kd.C_of_reads (d := (0 : Int)) (h1 := fun _ => rfl) hr1) hc1 h hG rfl).mono ?_
 rintro e w' ⟨rfl, hd⟩
 exact ⟨rfl, hd⟩

end Go.Proofs.YtlceokefdihdkaaGreatDoor.X
