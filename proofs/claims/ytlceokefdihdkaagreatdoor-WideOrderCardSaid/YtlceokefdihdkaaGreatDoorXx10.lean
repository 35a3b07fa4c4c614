-- Written by a program of this session (xprint) out of the translation: Lean checks it.
import Derived.Test.YtlceokefdihdkaaGreatDoorXx0
import Derived.Test.YtlceokefdihdkaaGreatDoorXx1
import Derived.Test.YtlceokefdihdkaaGreatDoorXx3
import Derived.Test.YtlceokefdihdkaaGreatDoorXx4
import Derived.Test.YtlceokefdihdkaaGreatDoorXx5
import Derived.Test.YtlceokefdihdkaaGreatDoorXx8
import Derived.Test.YtlceokefdihdkaaGreatDoorXx9
import Derived.Test.YtlceokefdihdkaaGreatDoorExn
namespace Go.Proofs.YtlceokefdihdkaaGreatDoor.X
open Go.RowKit Go.Proofs.YtlceokefdihdkaaGreatDoorW.PrintWords Go.Proofs.YtlceokefdihdkaaGreatDoorW.PrintLast Go.Proofs.YtlceokefdihdkaaGreatDoorW.PrintMore
attribute [local go_sem] max2_int min2_int max_two min_two max_three min_three max_four min_four   -- for this text's walks alone
set_option linter.unusedVariables false
set_option linter.unusedSimpArgs false

/-! ### worldmintlaw05_WideOrder: function 8 -/
def worldmintlaw05_WideOrder.l0 : Nat → List (S25) → Bool → Int → Bool → List Int → Bool → List Int → Option (Bool)
 | 0, _, _, _, _, _, _, _ => none
 | k + 1, x6, x8, x9, x469000, x469001, x495000, x495001 => if x9 < 3 then (if 0 ≤ x9 then (if x9 < (x6.length : Int) then ((worldmintlaw05_wider.f k ((rd_T25 x6 x9).f0) ((rd_T25 x6 x9).f1)).bind fun bt496 => (if x8 = true then (if bt496.2.2 = true then ((wide_Compare.f k x495000 x495001 bt496.1 bt496.2.1).bind fun t502 => ((worldmintref05_Compare.f k x469000 x469001 ((rd_T25 x6 x9).f0) ((rd_T25 x6 x9).f1)).bind fun t504 => (if t502 = t504 then ((wide_Compare.f k bt496.1 bt496.2.1 x495000 x495001).bind fun t505 => ((worldmintref05_Compare.f k ((rd_T25 x6 x9).f0) ((rd_T25 x6 x9).f1) x469000 x469001).bind fun t507 => (if t505 = t507 then (worldmintlaw05_WideOrder.l0 k x6 x8 (wrap64 (x9 + 1)) x469000 x469001 x495000 x495001) else (some false)))) else (some false)))) else (some false)) else (some false))) else (none)) else (none)) else ((wide_Sign.f k x495000 x495001).bind fun t508 => ((worldmintref05_Compare.f k x469000 x469001 false ([] : List Int)).bind fun t509 => (if t508 = t509 then ((wide_Neg.f x495000 x495001).bind fun bt510 => ((worldmintref05_Neg.f k x469000 x469001).bind fun bt514 => ((worldmintlaw05_equal.f k bt510.1 bt510.2 bt514.1 bt514.2).bind fun t518 => (if t518 = true then ((worldmintlaw05_lives.f k).bind fun t519 => (some t519)) else (some false))))) else (some false))))
def worldmintlaw05_WideOrder.f (k : Nat) (l0 : List Int) (a1 : Int) : Option (Bool) := (worldmintref05_Number.f k l0 0).bind fun bt464 => ((worldmintref05_Number.f k l0 6).bind fun bt469 => ((worldmintref01_Bound.f a1 1).bind fun t473 => ((worldmintref05_Of.f k t473).bind fun bt474 => ((worldmintref05_Add.f k bt464.1 bt464.2 bt474.1 bt474.2).bind fun bt478 => ((worldmintref05_Neg.f k bt464.1 bt464.2).bind fun bt482 => ((worldmintlaw05_wider.f k bt464.1 bt464.2).bind fun bt489 => (worldmintlaw05_WideOrder.l0 k (([(⟨bt469.1, bt469.2⟩ : S25), (⟨bt478.1, bt478.2⟩ : S25), (⟨bt482.1, bt482.2⟩ : S25)] : List (S25))) bt489.2.2 0 bt464.1 bt464.2 bt489.1 bt489.2.1)))))))
theorem worldmintlaw05_WideOrder.mono_l : ∀ k, (∀ y0 y1 y2 y3 y4 y5 y6, LeO (worldmintlaw05_WideOrder.l0 k y0 y1 y2 y3 y4 y5 y6) (worldmintlaw05_WideOrder.l0 (k + 1) y0 y1 y2 y3 y4 y5 y6))
 | 0 => fun _ _ _ _ _ _ _ r h => by simp [worldmintlaw05_WideOrder.l0] at h
 | k + 1 => by
  have ih0 := worldmintlaw05_WideOrder.mono_l k
  ·intro y0 y1 y2 y3 y4 y5 y6
   unfold worldmintlaw05_WideOrder.l0
   repeat' first
   | (with_reducible exact ih0 _ _ _ _ _ _ _)
   | (with_reducible exact wide_Compare.mono _ _ _ _ _)
   | (with_reducible exact wide_Sign.mono _ _ _)
   | (with_reducible exact worldmintlaw05_equal.mono _ _ _ _ _)
   | (with_reducible exact worldmintlaw05_lives.mono _)
   | (with_reducible exact worldmintlaw05_wider.mono _ _ _)
   | (with_reducible exact worldmintref05_Add.mono _ _ _ _ _)
   | (with_reducible exact worldmintref05_Compare.mono _ _ _ _ _)
   | (with_reducible exact worldmintref05_Neg.mono _ _ _)
   | (with_reducible exact worldmintref05_Number.mono _ _ _)
   | (with_reducible exact worldmintref05_Of.mono _ _)
   | (with_reducible exact LeO.refl _)
   | (with_reducible exact LeO.none _)
   | (with_reducible refine LeO.ite ?_ ?_)
   | (with_reducible refine LeO.bind ?_ (fun _ => ?_))
   | exact ih0 _ _ _ _ _ _ _
   | exact wide_Compare.mono _ _ _ _ _
   | exact wide_Sign.mono _ _ _
   | exact worldmintlaw05_equal.mono _ _ _ _ _
   | exact worldmintlaw05_lives.mono _
   | exact worldmintlaw05_wider.mono _ _ _
   | exact worldmintref05_Add.mono _ _ _ _ _
   | exact worldmintref05_Compare.mono _ _ _ _ _
   | exact worldmintref05_Neg.mono _ _ _
   | exact worldmintref05_Number.mono _ _ _
   | exact worldmintref05_Of.mono _ _
   | exact LeO.none _
   | refine LeO.ite ?_ ?_
   | refine LeO.bind ?_ (fun _ => ?_)
theorem worldmintlaw05_WideOrder.mono : ∀ a0 a1 k, LeO (worldmintlaw05_WideOrder.f k a0 a1) (worldmintlaw05_WideOrder.f (k + 1) a0 a1) := by
 intro a0 a1 k
 have ih0 := worldmintlaw05_WideOrder.mono_l k
 unfold worldmintlaw05_WideOrder.f
 repeat' first
   | (with_reducible exact ih0 _ _ _ _ _ _ _)
   | (with_reducible exact wide_Compare.mono _ _ _ _ _)
   | (with_reducible exact wide_Sign.mono _ _ _)
   | (with_reducible exact worldmintlaw05_equal.mono _ _ _ _ _)
   | (with_reducible exact worldmintlaw05_lives.mono _)
   | (with_reducible exact worldmintlaw05_wider.mono _ _ _)
   | (with_reducible exact worldmintref05_Add.mono _ _ _ _ _)
   | (with_reducible exact worldmintref05_Compare.mono _ _ _ _ _)
   | (with_reducible exact worldmintref05_Neg.mono _ _ _)
   | (with_reducible exact worldmintref05_Number.mono _ _ _)
   | (with_reducible exact worldmintref05_Of.mono _ _)
   | (with_reducible exact LeO.refl _)
   | (with_reducible exact LeO.none _)
   | (with_reducible refine LeO.ite ?_ ?_)
   | (with_reducible refine LeO.bind ?_ (fun _ => ?_))
   | exact ih0 _ _ _ _ _ _ _
   | exact wide_Compare.mono _ _ _ _ _
   | exact wide_Sign.mono _ _ _
   | exact worldmintlaw05_equal.mono _ _ _ _ _
   | exact worldmintlaw05_lives.mono _
   | exact worldmintlaw05_wider.mono _ _ _
   | exact worldmintref05_Add.mono _ _ _ _ _
   | exact worldmintref05_Compare.mono _ _ _ _ _
   | exact worldmintref05_Neg.mono _ _ _
   | exact worldmintref05_Number.mono _ _ _
   | exact worldmintref05_Of.mono _ _
   | exact LeO.none _
   | refine LeO.ite ?_ ?_
   | refine LeO.bind ?_ (fun _ => ?_)
def worldmintlaw05_WideOrder.T2 : Bool × List (List Nat × List Nat) := (true, [([], []), ([0], [0]), ([], []), ([], []), ([3, 1], [3]), ([4, 4], [4]), ([2, 5, 5], [2, 5]), ([], []), ([7, 6], [7]), ([1, 6, 8], [1, 6, 8]), ([9, 8, 0, 1, 2, 3, 4, 5, 6, 7, 8, 9], [9])])
def worldmintlaw05_WideOrder.B2 : List Nat := [0, 1, 0, 0, 11, 27, 63, 0, 255, 511, 1023]
theorem worldmintlaw05_WideOrder.tab2 : rtab .any (opsOf Tryz.f8 2) = worldmintlaw05_WideOrder.T2 := by kernel_rfl
theorem worldmintlaw05_WideOrder.bits2 : waitsOk worldmintlaw05_WideOrder.T2.2 worldmintlaw05_WideOrder.B2 = true := by kernel_rfl
def worldmintlaw05_WideOrder.T8 : Bool × List (List Nat × List Nat) := (true, [([], []), ([0], [0]), ([1], [1]), ([2], [2]), ([3, 2], [2, 3]), ([2, 4], [2, 4]), ([5, 2], [5]), ([6], [6]), ([6], [6]), ([7, 8, 6, 6], [6, 7, 8]), ([6], [6]), ([6], [6]), ([6], [6]), ([11, 12, 6], [6, 11, 12]), ([13, 6], [6, 13]), ([10, 14, 9, 6], [6, 10, 14]), ([9, 15, 6], [6, 9, 15]), ([6, 16], [6, 16]), ([17, 15], [17]), ([18], [18]), ([18], [18]), ([19, 20, 18, 18], [18, 19, 20]), ([18], [18]), ([18], [18]), ([22, 23, 18], [18, 22, 23]), ([24, 18], [18, 24]), ([18], [18]), ([25, 26, 21, 18], [18, 25, 26]), ([21, 27, 18], [18, 21, 27]), ([18, 28], [18, 28])])
def worldmintlaw05_WideOrder.B8 : List Nat := [0, 1, 3, 7, 15, 31, 63, 127, 127, 511, 127, 127, 127, 6271, 14463, 32767, 65535, 131071, 262143, 524287, 524287, 2097151, 524287, 524287, 13107199, 29884415, 524287, 134217727, 268435455, 536870911]
theorem worldmintlaw05_WideOrder.tab8 : rtab .any (opsOf Tryz.f8 8) = worldmintlaw05_WideOrder.T8 := by kernel_rfl
theorem worldmintlaw05_WideOrder.bits8 : waitsOk worldmintlaw05_WideOrder.T8.2 worldmintlaw05_WideOrder.B8 = true := by kernel_rfl
def worldmintlaw05_WideOrder.T10 : Bool × List (List Nat × List Nat) := (true, [([], []), ([0], [0]), ([], []), ([], []), ([2, 3, 1], [2, 3]), ([1, 4], [1, 4]), ([5, 4], [5]), ([6], [6]), ([7, 6, 6], [6, 7]), ([6], [6]), ([9, 8, 6], [6, 9]), ([8, 10, 10, 6], [6, 8, 10]), ([6, 11], [6, 11]), ([12, 11], [12]), ([13, 13], [13]), ([13, 14], [13, 14]), ([15, 14, 0, 1, 2, 3, 4, 5, 6, 7, 8, 9, 10, 11, 12, 13, 14, 15], [15])])
def worldmintlaw05_WideOrder.B10 : List Nat := [0, 1, 0, 0, 15, 31, 63, 127, 255, 127, 1023, 2047, 4095, 8191, 16383, 32767, 65535]
theorem worldmintlaw05_WideOrder.tab10 : rtab .any (opsOf Tryz.f8 10) = worldmintlaw05_WideOrder.T10 := by kernel_rfl
theorem worldmintlaw05_WideOrder.bits10 : waitsOk worldmintlaw05_WideOrder.T10.2 worldmintlaw05_WideOrder.B10 = true := by kernel_rfl
set_option maxHeartbeats 8000000 in
set_option maxRecDepth 100000 in
theorem worldmintlaw05_WideOrder.calls (k : Nat) (A0 : Option Addr) (c0 : Nat) (l0 : List Int) (a1 : Int) (r : Bool) (w : World) (hr0 : Kd.C (Kd.int .i64) w A0 l0.length l0) (hc0 : l0.length ≤ c0) (h : worldmintlaw05_WideOrder.f k l0 a1 = some r) (hG : GOK w) (hT_ : r = true) :
  Calls Tryz.prog 8 #[.slice A0 l0.length c0, .int .i64 a1] w fun e w' => e = .returned (.bool r) ∧ Below w.heap.size w w' := by
 have hu25 := Tryz.underlying25
 have hu33 := Tryz.underlying33
 have HR0 := am_ hr0
 have HC0 := am_ hc0
 clear hr0 hc0
 have HB := am_ (Below.refl w.heap.size w)
 have H : ((worldmintref05_Number.f k l0 0).bind fun bt464 => ((worldmintref05_Number.f k l0 6).bind fun bt469 => ((worldmintref01_Bound.f a1 1).bind fun t473 => ((worldmintref05_Of.f k t473).bind fun bt474 => ((worldmintref05_Add.f k bt464.1 bt464.2 bt474.1 bt474.2).bind fun bt478 => ((worldmintref05_Neg.f k bt464.1 bt464.2).bind fun bt482 => ((worldmintlaw05_wider.f k bt464.1 bt464.2).bind fun bt489 => (worldmintlaw05_WideOrder.l0 k (([(⟨bt469.1, bt469.2⟩ : S25), (⟨bt478.1, bt478.2⟩ : S25), (⟨bt482.1, bt482.2⟩ : S25)] : List (S25))) bt489.2.2 0 bt464.1 bt464.2 bt489.1 bt489.2.1)))))))) = some r := h
 clear h
 replace H := Option.bind_eq_some_iff.mp H
 obtain ⟨⟨t464, t465⟩, A30, H⟩ := H
 replace H : ((worldmintref05_Number.f k l0 6).bind fun bt469 => ((worldmintref01_Bound.f a1 1).bind fun t473 => ((worldmintref05_Of.f k t473).bind fun bt474 => ((worldmintref05_Add.f k t464 t465 bt474.1 bt474.2).bind fun bt478 => ((worldmintref05_Neg.f k t464 t465).bind fun bt482 => ((worldmintlaw05_wider.f k t464 t465).bind fun bt489 => (worldmintlaw05_WideOrder.l0 k (([(⟨bt469.1, bt469.2⟩ : S25), (⟨bt478.1, bt478.2⟩ : S25), (⟨bt482.1, bt482.2⟩ : S25)] : List (S25))) bt489.2.2 0 t464 t465 bt489.1 bt489.2.1))))))) = some r := H
 have A3 := am_ A30
 clear A30
 replace H := Option.bind_eq_some_iff.mp H
 obtain ⟨⟨t469, t470⟩, A40, H⟩ := H
 replace H : ((worldmintref01_Bound.f a1 1).bind fun t473 => ((worldmintref05_Of.f k t473).bind fun bt474 => ((worldmintref05_Add.f k t464 t465 bt474.1 bt474.2).bind fun bt478 => ((worldmintref05_Neg.f k t464 t465).bind fun bt482 => ((worldmintlaw05_wider.f k t464 t465).bind fun bt489 => (worldmintlaw05_WideOrder.l0 k (([(⟨t469, t470⟩ : S25), (⟨bt478.1, bt478.2⟩ : S25), (⟨bt482.1, bt482.2⟩ : S25)] : List (S25))) bt489.2.2 0 t464 t465 bt489.1 bt489.2.1)))))) = some r := H
 have A4 := am_ A40
 clear A40
 replace H := Option.bind_eq_some_iff.mp H
 obtain ⟨t473, A50, H⟩ := H
 replace H : ((worldmintref05_Of.f k t473).bind fun bt474 => ((worldmintref05_Add.f k t464 t465 bt474.1 bt474.2).bind fun bt478 => ((worldmintref05_Neg.f k t464 t465).bind fun bt482 => ((worldmintlaw05_wider.f k t464 t465).bind fun bt489 => (worldmintlaw05_WideOrder.l0 k (([(⟨t469, t470⟩ : S25), (⟨bt478.1, bt478.2⟩ : S25), (⟨bt482.1, bt482.2⟩ : S25)] : List (S25))) bt489.2.2 0 t464 t465 bt489.1 bt489.2.1))))) = some r := H
 have A5 := am_ A50
 clear A50
 replace H := Option.bind_eq_some_iff.mp H
 obtain ⟨⟨t474, t475⟩, A60, H⟩ := H
 replace H : ((worldmintref05_Add.f k t464 t465 t474 t475).bind fun bt478 => ((worldmintref05_Neg.f k t464 t465).bind fun bt482 => ((worldmintlaw05_wider.f k t464 t465).bind fun bt489 => (worldmintlaw05_WideOrder.l0 k (([(⟨t469, t470⟩ : S25), (⟨bt478.1, bt478.2⟩ : S25), (⟨bt482.1, bt482.2⟩ : S25)] : List (S25))) bt489.2.2 0 t464 t465 bt489.1 bt489.2.1)))) = some r := H
 have A6 := am_ A60
 clear A60
 replace H := Option.bind_eq_some_iff.mp H
 obtain ⟨⟨t478, t479⟩, A70, H⟩ := H
 replace H : ((worldmintref05_Neg.f k t464 t465).bind fun bt482 => ((worldmintlaw05_wider.f k t464 t465).bind fun bt489 => (worldmintlaw05_WideOrder.l0 k (([(⟨t469, t470⟩ : S25), (⟨t478, t479⟩ : S25), (⟨bt482.1, bt482.2⟩ : S25)] : List (S25))) bt489.2.2 0 t464 t465 bt489.1 bt489.2.1))) = some r := H
 have A7 := am_ A70
 clear A70
 replace H := Option.bind_eq_some_iff.mp H
 obtain ⟨⟨t482, t483⟩, A80, H⟩ := H
 replace H : ((worldmintlaw05_wider.f k t464 t465).bind fun bt489 => (worldmintlaw05_WideOrder.l0 k (([(⟨t469, t470⟩ : S25), (⟨t478, t479⟩ : S25), (⟨t482, t483⟩ : S25)] : List (S25))) bt489.2.2 0 t464 t465 bt489.1 bt489.2.1)) = some r := H
 have A8 := am_ A80
 clear A80
 obtain ⟨y486, hy486⟩ : ∃ y_ : List (S25), y_ = (([(⟨t469, t470⟩ : S25), (⟨t478, t479⟩ : S25), (⟨t482, t483⟩ : S25)] : List (S25))) := ⟨_, rfl⟩
 replace H : ((worldmintlaw05_wider.f k t464 t465).bind fun bt489 => (worldmintlaw05_WideOrder.l0 k y486 bt489.2.2 0 t464 t465 bt489.1 bt489.2.1)) = some r := by first | (rw [hy486]; with_reducible exact H) | (have H2_ := (Option.bind_some _ _).symm.trans H; rw [hy486]; with_reducible exact H2_) | (have H2_ := (Option.bind_some _ _).symm.trans H; with_reducible exact H2_) | with_reducible exact H | (rw [hy486]; exact H) | exact H
 have Ny486 := am_ hy486
 clear hy486
 replace H := Option.bind_eq_some_iff.mp H
 obtain ⟨⟨t489, t490, t493⟩, A90, H⟩ := H
 replace H : (worldmintlaw05_WideOrder.l0 k y486 t493 0 t464 t465 t489 t490) = some r := H
 have A9 := am_ A90
 clear A90
 have H' := am_ H
 clear H
 go_enter Tryz.func8, Tryz.ntmps8
 try go_wp2_with (first | ((with_reducible refine gate_callee (f := 13) rfl ?_); refine goesL_ (some 13) rfl rfl Tryz.func13 (by kernel_rfl) rfl #[.slice A0 l0.length c0, .int .i64 0] rfl zq6 ?_; (with_reducible refine (worldmintref05_Number.calls k _ _ l0 0 t464 t465 _ ?side1 ?side2 A3.out).mono ?_); (case side1 => repeat (first | exact HR0.out | (with_reducible refine Kd.C_alloc ?_ _) | (with_reducible refine Kd.C_drewN ?_ _) | (with_reducible refine Kd.C_drew ?_))); (case side2 => exact HC0.out); rintro e w10 ⟨v466, rfl, ho0, hb⟩; refine ⟨_, rfl, ?_⟩; have HO467 := am_ (Kd.V_lower (Kd.V_mono (ok' := fun k_ => True) ho0 (fun k_ hk_ => trivial)) (below_size zq2)); replace HB := am_ (below_step zq2 hb); (try clear hb); (try clear ho0)) | ((with_reducible refine gate_dst (N := 5) rfl ?_); refine box_event ?hg (N := 5) ?hd (cs := #[.bool false, .slice none 0 0]) (t := 25) ?hr ?_; (case hd => rfl); (case hg => rfl); (case hr => exact zq0); intro gb468 hg w11 hbox hb; have n0_ := am_ (Kd.V_below (Kd.V_elderB (zq1 HO467.out) gb468 (Nat.le_of_eq hg.symm)) hb); have n1_ := am_ (below_step zq2 hb); have n2_ := am_ (hbox); have n3_ := am_ ((by rw [hg]; exact (below_size zq2) : w.heap.size ≤ gb468)); clear HO467 HB; have HO467 := n0_; have HB := n1_; have BK468 := n2_; have GE468 := n3_; clear n0_ n1_ n2_ n3_; clear hb hbox hg; have hcz12_0 : w11.cell? ⟨gb468, 0, none⟩ = some (.bool false) := (blk_cell BK468.out 0).trans rfl; have hcz12_1 : w11.cell? ⟨gb468, 1, none⟩ = some (.slice none 0 0) := (blk_cell BK468.out 1).trans rfl; have hfz12_0 := blk_frozen BK468.out 0; have hfz12_1 := blk_frozen BK468.out 1; obtain ⟨Ao13, co13, eo13⟩ := Kd.V_slice HO467.out; subst eo13))
 have n0_ : Aside0 (Kd.V (Kd.int .i64) 3 ((w11.setCell ⟨gb468, 0, none⟩ (.bool t464)).setCell ⟨gb468, 1, none⟩ (.slice Ao13 t465.length co13)) w.heap.size (fun k_ => k_ ≠ gb468) (.slice Ao13 t465.length co13) t465) := ⟨by (with_reducible repeat (first | apply Kd.V_alloc | apply Kd.V_drewN | apply Kd.V_drew)); exact Kd.V_mono (Kd.V_far (p := ⟨gb468, 1, none⟩) (Kd.V_far (p := ⟨gb468, 0, none⟩) (Kd.V_mono HO467.out (fun k_ hk => (⟨hk, hk.2⟩ : _ ∧ k_ ≠ gb468))) (fun _ hk => hk.2) (.bool t464)) (fun _ hk => hk.2) (.slice Ao13 t465.length co13)) (fun _ hk => hk.1.2)⟩
 have n1_ : Aside0 (((w11.setCell ⟨gb468, 0, none⟩ (.bool t464)).setCell ⟨gb468, 1, none⟩ (.slice Ao13 t465.length co13)).heap[gb468]? = some (.cells #[.bool t464, .slice Ao13 t465.length co13] 25 (0, 0))) := ⟨by (with_reducible repeat (first | refine blk_drewN ?_ _ | refine blk_drew ?_ | refine blk_alloc ?_ _)); refine blk_put (cs := #[.bool t464, .slice none 0 0]) ?_ 1 _ rfl; (with_reducible repeat (first | refine blk_drewN ?_ _ | refine blk_drew ?_ | refine blk_alloc ?_ _)); refine blk_put (cs := #[.bool false, .slice none 0 0]) ?_ 0 _ rfl; (with_reducible repeat (first | refine blk_drewN ?_ _ | refine blk_drew ?_ | refine blk_alloc ?_ _)); exact BK468.out⟩
 have n2_ : Aside0 (Below w.heap.size w ((w11.setCell ⟨gb468, 0, none⟩ (.bool t464)).setCell ⟨gb468, 1, none⟩ (.slice Ao13 t465.length co13))) := ⟨by repeat (first | (with_reducible first | exact HB.out | apply below_alloc | apply pw_below_drewN | apply below_drew1 | refine below_set ?_ GE468.out) | exact HB.out)⟩
 (try clear HO467); (try clear BK468); (try clear HB)
 generalize ((w11.setCell ⟨gb468, 0, none⟩ (.bool t464)).setCell ⟨gb468, 1, none⟩ (.slice Ao13 t465.length co13)) = w14 at n0_ n1_ n2_ ⊢
 have HO467 := n0_; have BK468 := n1_; have HB := n2_; clear n0_ n1_ n2_; replace HO467 := am_ (Kd.V_drew HO467.out); replace BK468 := am_ (blk_drew BK468.out); replace HB := am_ (below_drew1 HB.out)
 refine start_ (n := 11) (S := fun w' => w'.cell? ⟨gb468, 0, none⟩ = some (.bool t464) ∧ w'.cell? ⟨gb468, 1, none⟩ = some (.slice Ao13 t465.length co13)) (ds := []) #[false, false, false, false, false, false, false, false, false, false, false] (by kernel_rfl) rfl rfl ⟨(blk_cell BK468.out 0).trans rfl, (blk_cell BK468.out 1).trans rfl⟩ (fun hHeld => ?_); refine with_tabW worldmintlaw05_WideOrder.tab2 worldmintlaw05_WideOrder.bits2 (fun HT_ HW_ => ?_)
 generalize w14.drew = w15 at HO467 BK468 HB hHeld ⊢
 refine pure_ (i := 0) (N := some 14) (v := ?_) (a' := ?_) #[true, false, false, false, false, false, false, false, false, false, false] rfl rfl (any_of HT_.out (by kernel_rfl)) (fun _ _ _ h => h) (Or.inl ⟨by rfl, ?_⟩) ?_ ?_
 rotate_left
 ·intro w'
  go_simp
  with_reducible rfl
 rotate_left
 ·exact za_
 refine pure_ (i := 3) (N := some 17) (v := ?_) (a' := ?_) #[true, false, false, true, false, false, false, false, false, false, false] rfl rfl (any_of HT_.out (by kernel_rfl)) (fun _ _ _ h => h) (Or.inl ⟨by rfl, ?_⟩) ?_ ?_
 rotate_left
 ·intro w'
  go_simp
  with_reducible rfl
 rotate_left
 ·exact za_
 refine take_ (i := 2) (N := some 16) (v := ?_) (a' := ?_) #[true, false, true, true, false, false, false, false, false, false, false] rfl rfl (take_ofW HT_.out HW_.out (by kernel_rfl)) (fun _ _ _ h => h) (Or.inl ⟨by rfl, ?_⟩) hHeld ?_ ?_
 rotate_left
 ·rintro w' ⟨s0, s1⟩
  go_simp
  with_reducible rfl
 rotate_left
 ·exact za_
 refine take_ (i := 7) (N := some 21) (v := ?_) (a' := ?_) #[true, false, true, true, false, false, false, true, false, false, false] rfl rfl (take_ofW HT_.out HW_.out (by kernel_rfl)) (fun _ _ _ h => h) (Or.inl ⟨by rfl, ?_⟩) hHeld ?_ ?_
 rotate_left
 ·rintro w' ⟨s0, s1⟩
  go_simp
  with_reducible rfl
 rotate_left
 ·exact za_
 refine one_ (i := 1) (N := some 15) #[true, true, true, true, false, false, false, true, false, false, false] rfl rfl (one_of HT_.out (by kernel_rfl)) (by decide) (fun K hK => ?_)
 refine goes_ Tryz.func13 (by kernel_rfl) rfl #[.slice A0 l0.length c0, .int .i64 6] (by rfl) rfl rfl zq6 ?_
 with_reducible refine (worldmintref05_Number.calls k _ _ l0 6 t469 t470 _ ?side1 ?side2 A4.out).mono ?_
 (case side1 => exact zq18)
 (case side2 => exact HC0.out)
 rintro e w16 ⟨v471, rfl, ho0, hb⟩
 refine ⟨_, rfl, ?_⟩
 replace HO467 := am_ (Kd.V_below (zq1 HO467.out) hb); have HO472 := am_ (Kd.V_lower (Kd.V_mono (ok' := fun k_ => k_ ≠ gb468) ho0 (fun k_ hk_ => (Kd.freshB (g := gb468) (o := .cells #[.bool t464, .slice Ao13 t465.length co13] 25 (0, 0)) (zq9 BK468.out) k_ hk_))) (below_size zq89)); replace BK468 := am_ (blk_below (g := gb468) (o := .cells #[.bool t464, .slice Ao13 t465.length co13] 25 (0, 0)) (zq9 BK468.out) hb); replace HB := am_ (below_step zq89 hb); (try clear hb); (try clear ho0)
 refine hK.out _ _ ⟨(blk_cell BK468.out 0).trans rfl, (blk_cell BK468.out 1).trans rfl⟩ (fun hHeld => ?_)
 clear hK K
 refine norm_ (a' := ?_) ?_ ?_
 rotate_left
 ·show Act.put _ (some 15) _ = _
  exact za_
 refine one_ (i := 4) (N := some 18) #[true, true, true, true, true, false, false, true, false, false, false] rfl rfl (one_of HT_.out (by kernel_rfl)) (by decide) (fun K hK => ?_)
 refine goes_ Tryz.func35 (by kernel_rfl) rfl #[.int .i64 a1, .int .i64 1] (by rfl) rfl rfl zq6 ?_
 with_reducible refine (worldmintref01_Bound.calls a1 1 t473 _ A5.out).mono ?_
 rintro e w' ⟨rfl, ⟨nd, rfl⟩⟩
 refine ⟨_, rfl, ?_⟩
 refine hK.out _ _ ⟨(blk_cell BK468.out 0).trans rfl, (blk_cell BK468.out 1).trans rfl⟩ (fun hHeld => ?_)
 clear hK K
 refine norm_ (a' := ?_) ?_ ?_
 rotate_left
 ·show Act.put _ (some 18) _ = _
  exact za_
 refine one_ (i := 5) (N := some 19) #[true, true, true, true, true, true, false, true, false, false, false] rfl rfl (one_of HT_.out (by kernel_rfl)) (by decide) (fun K hK => ?_)
 refine goes_ Tryz.func23 (by kernel_rfl) rfl #[.int .i64 t473] (by rfl) rfl rfl zq6 ?_
 with_reducible refine (worldmintref05_Of.calls k t473 t474 t475 _ A6.out).mono ?_
 rintro e w17 ⟨v476, rfl, ho0, hb⟩
 refine ⟨_, rfl, ?_⟩
 replace HO467 := am_ (Kd.V_below (zq1 HO467.out) hb); replace HO472 := am_ (Kd.V_below (zq1 HO472.out) hb); have HO477 := am_ (Kd.V_lower (Kd.V_mono (ok' := fun k_ => k_ ≠ gb468) ho0 (fun k_ hk_ => (Kd.freshB (g := gb468) (o := .cells #[.bool t464, .slice Ao13 t465.length co13] 25 (0, 0)) (zq9 BK468.out) k_ hk_))) (below_size zq89)); replace BK468 := am_ (blk_below (g := gb468) (o := .cells #[.bool t464, .slice Ao13 t465.length co13] 25 (0, 0)) (zq9 BK468.out) hb); replace HB := am_ (below_step zq89 hb); (try clear hb); (try clear ho0)
 obtain ⟨Ao18, co18, eo18⟩ := Kd.V_slice HO477.out
 (first | subst eo18 | (injection eo18 with f1_ f2_ f3_; have f4_ := f1_.symm; have f5_ := f3_.symm; clear f1_ f2_ f3_; subst f4_; subst f5_))
 refine hK.out _ _ ⟨(blk_cell BK468.out 0).trans rfl, (blk_cell BK468.out 1).trans rfl⟩ (fun hHeld => ?_)
 clear hK K
 refine norm_ (a' := ?_) ?_ ?_
 rotate_left
 ·show Act.put _ (some 19) _ = _
  exact za_
 refine one_ (i := 6) (N := some 20) #[true, true, true, true, true, true, true, true, false, false, false] rfl rfl (one_of HT_.out (by kernel_rfl)) (by decide) (fun K hK => ?_)
 refine goes_ Tryz.func29 (by kernel_rfl) rfl #[.agg #[.bool t464, .slice Ao13 t465.length co13], .agg #[.bool t474, .slice Ao18 t475.length co18]] (by rfl) rfl rfl zq6 ?_
 with_reducible refine (worldmintref05_Add.calls k t464 _ _ t465 t474 _ _ t475 t478 t479 _ ?side1 ?side2 ?side3 ?side4 A7.out).mono ?_
 (case side1 => exact (zq31 HO467.out))
 (case side2 => exact (Kd.V_reads' HO467.out).2.1)
 (case side3 => exact (zq31 HO477.out))
 (case side4 => exact (Kd.V_reads' HO477.out).2.1)
 rintro e w19 ⟨v480, rfl, ho0, hb⟩
 refine ⟨_, rfl, ?_⟩
 replace HO467 := am_ (Kd.V_below (zq1 HO467.out) hb); replace HO472 := am_ (Kd.V_below (zq1 HO472.out) hb); have HO481 := am_ (Kd.V_lower (Kd.V_mono (ok' := fun k_ => k_ ≠ gb468) ho0 (fun k_ hk_ => (Kd.freshB (g := gb468) (o := .cells #[.bool t464, .slice Ao13 t465.length co13] 25 (0, 0)) (zq9 BK468.out) k_ hk_))) (below_size zq89)); replace BK468 := am_ (blk_below (g := gb468) (o := .cells #[.bool t464, .slice Ao13 t465.length co13] 25 (0, 0)) (zq9 BK468.out) hb); replace HB := am_ (below_step zq89 hb); (try clear hb); (try clear ho0)
 refine hK.out _ _ ⟨(blk_cell BK468.out 0).trans rfl, (blk_cell BK468.out 1).trans rfl⟩ (fun hHeld => ?_)
 clear hK K
 refine norm_ (a' := ?_) ?_ ?_
 rotate_left
 ·show Act.put _ (some 20) _ = _
  exact za_
 refine one_ (i := 8) (N := some 22) #[true, true, true, true, true, true, true, true, true, false, false] rfl rfl (one_of HT_.out (by kernel_rfl)) (by decide) (fun K hK => ?_)
 refine goes_ Tryz.func36 (by kernel_rfl) rfl #[.agg #[.bool t464, .slice Ao13 t465.length co13]] (by rfl) rfl rfl zq6 ?_
 with_reducible refine (worldmintref05_Neg.calls k t464 (fun k_ => k_ ≠ gb468) _ _ t465 t482 t483 _ ?side1 A8.out).mono ?_
 (case side1 => exact HO467.out)
 rintro e w20 ⟨v484, rfl, ho0, hb⟩
 refine ⟨_, rfl, ?_⟩
 replace HO467 := am_ (Kd.V_below (zq1 HO467.out) hb); replace HO472 := am_ (Kd.V_below (zq1 HO472.out) hb); replace HO481 := am_ (Kd.V_below (zq1 HO481.out) hb); have HO485 := am_ (Kd.V_lower (Kd.V_mono (ok' := fun k_ => k_ ≠ gb468) ho0 (fun k_ hk_ => Or.elim hk_ (fun hs_ => hs_) (fun hn_ => (Kd.freshB (g := gb468) (o := .cells #[.bool t464, .slice Ao13 t465.length co13] 25 (0, 0)) (zq9 BK468.out) k_ hn_)))) (below_size zq89)); replace BK468 := am_ (blk_below (g := gb468) (o := .cells #[.bool t464, .slice Ao13 t465.length co13] 25 (0, 0)) (zq9 BK468.out) hb); replace HB := am_ (below_step zq89 hb); (try clear hb); (try clear ho0)
 obtain ⟨Ao21, co21, eo21⟩ := Kd.V_slice HO472.out
 (first | subst eo21 | (injection eo21 with f1_ f2_ f3_; have f4_ := f1_.symm; have f5_ := f3_.symm; clear f1_ f2_ f3_; subst f4_; subst f5_))
 obtain ⟨Ao22, co22, eo22⟩ := Kd.V_slice HO481.out
 (first | subst eo22 | (injection eo22 with f1_ f2_ f3_; have f4_ := f1_.symm; have f5_ := f3_.symm; clear f1_ f2_ f3_; subst f4_; subst f5_))
 obtain ⟨Ao23, co23, eo23⟩ := Kd.V_slice HO485.out
 (first | subst eo23 | (injection eo23 with f1_ f2_ f3_; have f4_ := f1_.symm; have f5_ := f3_.symm; clear f1_ f2_ f3_; subst f4_; subst f5_))
 refine hK.out _ _ ⟨(blk_cell BK468.out 0).trans rfl, (blk_cell BK468.out 1).trans rfl⟩ (fun hHeld => ?_)
 clear hK K
 refine norm_ (a' := ?_) ?_ ?_
 rotate_left
 ·show Act.put _ (some 22) _ = _
  exact za_
 refine one_ (i := 9) (N := some 23) #[true, true, true, true, true, true, true, true, true, true, false] rfl rfl (one_of HT_.out (by kernel_rfl)) (by decide) (fun K hK => ?_)
 refine Kd.N_lit_step k25 _ 25 ?hg (N' := 23) ?hd (xs := ([(⟨t469, t470⟩ : S25), (⟨t478, t479⟩ : S25), (⟨t482, t483⟩ : S25)] : List (S25))) (inner := [.bool t469, .slice Ao21 t470.length co21, .bool t478, .slice Ao22 t479.length co22, .bool t482, .slice Ao23 t483.length co23]) (ok := (fun k_ => k_ ≠ gb468)) (okp := (fun k_ => k_ ≠ gb468)) ?hr ?hp (fun _ hk => hk) ((show ∀ k_, w20.heap.size ≤ k_ → (fun k_ => k_ ≠ gb468) k_ from fun k_ hk => Kd.freshB (g := gb468) (o := .cells #[.bool t464, .slice Ao13 t465.length co13] 25 (0, 0)) (zq9 BK468.out) k_ hk) _ (Nat.le_refl _)) (Below.refl _ _) (Nat.le_refl _) (by simp) ?_; (case hd => rfl); (case hg => rfl); (case hr => exact zq0); (case hp => exact (Reps.c2 (show Kd.FK k25 _ _ (⟨t469, t470⟩ : S25) [.bool t469, .slice Ao21 t470.length co21] from (k25_mkF _ _ (⟨t469, t470⟩ : S25) (Kd.V_reads' (Kd.V_mono (ok' := (fun k_ => k_ ≠ gb468)) (HO472.out) (fun k_ hk => hk))).2.1 (Kd.V_F (Kd.V_mono (ok' := (fun k_ => k_ ≠ gb468)) (HO472.out) (fun k_ hk => hk))))) (Reps.c2 (show Kd.FK k25 _ _ (⟨t478, t479⟩ : S25) [.bool t478, .slice Ao22 t479.length co22] from (k25_mkF _ _ (⟨t478, t479⟩ : S25) (Kd.V_reads' (Kd.V_mono (ok' := (fun k_ => k_ ≠ gb468)) (HO481.out) (fun k_ hk => hk))).2.1 (Kd.V_F (Kd.V_mono (ok' := (fun k_ => k_ ≠ gb468)) (HO481.out) (fun k_ hk => hk))))) (Reps.c2 (show Kd.FK k25 _ _ (⟨t482, t483⟩ : S25) [.bool t482, .slice Ao23 t483.length co23] from (k25_mkF _ _ (⟨t482, t483⟩ : S25) (Kd.V_reads' (Kd.V_mono (ok' := (fun k_ => k_ ≠ gb468)) (HO485.out) (fun k_ hk => hk))).2.1 (Kd.V_F (Kd.V_mono (ok' := (fun k_ => k_ ≠ gb468)) (HO485.out) (fun k_ hk => hk))))) (Reps.none _ _)))))
 intro v487 w24 ho25 hb hg_ hnew_
 clear hg_ hnew_
 (first | rw [← Ny486.out] at ho25 | (simp only [Int.reduceToNat] at ho25; rw [← Ny486.out] at ho25))
 replace HO467 := am_ (Kd.V_elder' (zq1 HO467.out) (Kd.N_base ho25) hb); have HO488 := am_ (Kd.N_lower ho25 (below_size zq89)); replace BK468 := am_ (blk_below (g := gb468) (o := .cells #[.bool t464, .slice Ao13 t465.length co13] 25 (0, 0)) (zq9 BK468.out) hb); replace HB := am_ (below_step zq89 hb)
 clear hb ho25
 refine hK.out _ _ ⟨(blk_cell BK468.out 0).trans rfl, (blk_cell BK468.out 1).trans rfl⟩ (fun hHeld => ?_)
 clear hK K
 refine norm_ (a' := ?_) ?_ ?_
 rotate_left
 ·show Act.put _ (some 23) _ = _
  exact za_
 refine pure_ (i := 10) (N := some 6) (v := ?_) (a' := ?_) #[true, true, true, true, true, true, true, true, true, true, true] rfl rfl (any_of HT_.out (by kernel_rfl)) (fun _ _ _ h => h) (Or.inl ⟨by rfl, ?_⟩) ?_ ?_
 rotate_left
 ·intro w'
  go_simp
  with_reducible rfl
 rotate_left
 ·exact za_
 refine done_ (done_of HT_.out (by kernel_rfl)) ?_
 have hcz26_0 : w24.cell? ⟨gb468, 0, none⟩ = some (.bool t464) := (blk_cell BK468.out 0).trans rfl
 have hcz26_1 : w24.cell? ⟨gb468, 1, none⟩ = some (.slice Ao13 t465.length co13) := (blk_cell BK468.out 1).trans rfl
 have hfz26_0 := blk_frozen BK468.out 0
 have hfz26_1 := blk_frozen BK468.out 1
 try go_wp2_with (first | ((with_reducible refine gate_callee (f := 25) rfl ?_); refine goesL_ (some 26) rfl rfl Tryz.func25 (by kernel_rfl) rfl #[.agg #[.bool t464, .slice Ao13 t465.length co13]] rfl zq6 ?_; (with_reducible refine (worldmintlaw05_wider.calls k t464 _ _ t465 t489 t490 t493 _ ?side1 ?side2 A9.out).mono ?_); (case side1 => exact (zq31 HO467.out)); (case side2 => exact (Kd.V_reads' HO467.out).2.1); rintro e w27 ⟨v491, rfl, ho0, hb⟩; refine ⟨_, rfl, ?_⟩; have n0_ := am_ (Kd.V_below (zq1 HO467.out) hb); have n1_ := am_ (Kd.N_below (zq90 HO488.out) hb); have n2_ := am_ (Kd.V_lower (Kd.V_mono (ok' := fun k_ => some k_ ≠ (v487 : Value).ownBlock ∧ k_ ≠ gb468) ho0 (fun k_ hk_ => ⟨(Kd.fresh' (Kd.N_lt (zq90 HO488.out)) k_ hk_), (Kd.freshB (g := gb468) (o := .cells #[.bool t464, .slice Ao13 t465.length co13] 25 (0, 0)) (zq9 BK468.out) k_ hk_)⟩)) (below_size zq89)); have n3_ := am_ (blk_below (g := gb468) (o := .cells #[.bool t464, .slice Ao13 t465.length co13] 25 (0, 0)) (zq9 BK468.out) hb); have n4_ := am_ (below_step zq89 hb); clear HO467 HO488 BK468 HB; have HO467 := n0_; have HO488 := n1_; have HO492 := n2_; have BK468 := n3_; have HB := n4_; clear n0_ n1_ n2_ n3_ n4_; (try clear hb); (try clear ho0)) | ((with_reducible refine gate_dst (N := 7) rfl ?_); refine box_event ?hg (N := 7) ?hd (cs := #[.bool false, .slice none 0 0]) (t := 33) ?hr ?_; (case hd => rfl); (case hg => rfl); (case hr => exact zq0); intro gb494 hg w28 hbox hb; have n0_ := am_ (Kd.V_below (Kd.V_elderB (zq1 HO467.out) gb494 (Nat.le_of_eq hg.symm)) hb); have n1_ := am_ (Kd.N_below (Kd.N_elderB (zq90 HO488.out) gb494 (Nat.le_of_eq hg.symm)) hb); have n2_ := am_ (Kd.V_below (Kd.V_elderB (zq1 HO492.out) gb494 (Nat.le_of_eq hg.symm)) hb); have n3_ := am_ (blk_below (g := gb468) (o := .cells #[.bool t464, .slice Ao13 t465.length co13] 25 (0, 0)) (zq9 BK468.out) hb); have n4_ := am_ (below_step zq89 hb); have n5_ := am_ (hbox); have n6_ := am_ ((by rw [hg]; exact (below_size zq89) : w.heap.size ≤ gb494)); have n7_ := am_ ((by rw [hg]; exact Nat.ne_of_lt (blk_lt (g := gb468) (zq9 BK468.out)) : gb468 ≠ gb494)); have n8_ := am_ ((by rw [hg]; exact Nat.ne_of_gt (blk_lt (g := gb468) (zq9 BK468.out)) : gb494 ≠ gb468)); clear HO467 HO488 HO492 BK468 HB; have HO467 := n0_; have HO488 := n1_; have HO492 := n2_; have BK468 := n3_; have HB := n4_; have BK494 := n5_; have GE494 := n6_; have NB468_494 := n7_; have NB494_468 := n8_; clear n0_ n1_ n2_ n3_ n4_ n5_ n6_ n7_ n8_; clear hb hbox hg; have hnb29 := NB494_468.out; have hnc29 := NB468_494.out; have hcz30_0 : w28.cell? ⟨gb494, 0, none⟩ = some (.bool false) := (blk_cell BK494.out 0).trans rfl; have hcz30_1 : w28.cell? ⟨gb494, 1, none⟩ = some (.slice none 0 0) := (blk_cell BK494.out 1).trans rfl; have hfz30_0 := blk_frozen BK494.out 0; have hfz30_1 := blk_frozen BK494.out 1; obtain ⟨Ao31, co31, eo31⟩ := Kd.V_slice HO492.out; subst eo31))
 try simp only [Act.put, List.setIfInBounds_toArray, List.set_cons_zero, List.set_cons_succ]
 go_loopg [9] k (fun kq v9 w' => ∃ (x9_1 : Int), v9 = .int .i64 x9_1 ∧ Aside0 (worldmintlaw05_WideOrder.l0 kq y486 t493 x9_1 t464 t465 t489 t490 = some r) ∧ Aside0 (kq ≤ k) ∧ Aside0 (Kd.N k25 25 w' w.heap.size (fun k_ => k_ ≠ gb468 ∧ k_ ≠ gb494) v487 y486) ∧ Aside0 (Kd.V (Kd.int .i64) 3 w' w.heap.size (fun k_ => some k_ ≠ (v487 : Value).ownBlock ∧ k_ ≠ gb468 ∧ k_ ≠ gb494) (.slice Ao13 t465.length co13) t465) ∧ Aside0 (Kd.V (Kd.int .u32) 81 w' w.heap.size (fun k_ => some k_ ≠ (v487 : Value).ownBlock ∧ k_ ≠ gb468 ∧ k_ ≠ gb494) (.slice Ao31 t490.length co31) t490) ∧ Aside0 (w'.heap[gb468]? = some (.cells #[.bool t464, (.slice Ao13 t465.length co13)] 25 (0, 0))) ∧ Aside0 (w'.heap[gb494]? = some (.cells #[.bool t489, (.slice Ao31 t490.length co31)] 33 (0, 0))) ∧ Aside0 (Below w.heap.size w w'))
 case atStart => exact ⟨(0), zq5, H', ⟨Nat.le_refl _⟩, ⟨by (with_reducible repeat (first | apply Kd.N_alloc | apply Kd.N_drewN | apply Kd.N_drew)); exact Kd.N_mono (Kd.N_far (p := ⟨gb494, 1, none⟩) (Kd.N_far (p := ⟨gb494, 0, none⟩) (Kd.N_mono HO488.out (fun k_ hk => (⟨hk, hk.2⟩ : _ ∧ k_ ≠ gb494))) (fun _ hk => hk.2) (.bool t489)) (fun _ hk => hk.2) (.slice Ao31 t490.length co31)) (fun _ hk => ⟨hk.1.1, hk.1.2⟩)⟩, ⟨by (with_reducible repeat (first | apply Kd.V_alloc | apply Kd.V_drewN | apply Kd.V_drew)); exact Kd.V_mono (Kd.V_far (p := ⟨gb494, 1, none⟩) (Kd.V_far (p := ⟨gb494, 0, none⟩) (Kd.V_mono HO467.out (fun k_ hk => (⟨hk, hk.2⟩ : _ ∧ k_ ≠ gb494))) (fun _ hk => hk.2) (.bool t489)) (fun _ hk => hk.2) (.slice Ao31 t490.length co31)) (fun _ hk => ⟨hk.1.1.2, ⟨hk.1.1.1, hk.1.2⟩⟩)⟩, ⟨by (with_reducible repeat (first | apply Kd.V_alloc | apply Kd.V_drewN | apply Kd.V_drew)); exact Kd.V_mono (Kd.V_far (p := ⟨gb494, 1, none⟩) (Kd.V_far (p := ⟨gb494, 0, none⟩) (Kd.V_mono HO492.out (fun k_ hk => (⟨hk, hk.2⟩ : _ ∧ k_ ≠ gb494))) (fun _ hk => hk.2) (.bool t489)) (fun _ hk => hk.2) (.slice Ao31 t490.length co31)) (fun _ hk => ⟨hk.1.1.1, ⟨hk.1.1.2, hk.1.2⟩⟩)⟩, ⟨by (with_reducible repeat (first | refine blk_drewN ?_ _ | refine blk_drew ?_ | refine blk_alloc ?_ _)); refine blk_far ?_ NB468_494.out _; (with_reducible repeat (first | refine blk_drewN ?_ _ | refine blk_drew ?_ | refine blk_alloc ?_ _)); refine blk_far ?_ NB468_494.out _; (with_reducible repeat (first | refine blk_drewN ?_ _ | refine blk_drew ?_ | refine blk_alloc ?_ _)); exact BK468.out⟩, ⟨by (with_reducible repeat (first | refine blk_drewN ?_ _ | refine blk_drew ?_ | refine blk_alloc ?_ _)); refine blk_put (cs := #[.bool t489, .slice none 0 0]) ?_ 1 _ rfl; (with_reducible repeat (first | refine blk_drewN ?_ _ | refine blk_drew ?_ | refine blk_alloc ?_ _)); refine blk_put (cs := #[.bool false, .slice none 0 0]) ?_ 0 _ rfl; (with_reducible repeat (first | refine blk_drewN ?_ _ | refine blk_drew ?_ | refine blk_alloc ?_ _)); exact BK494.out⟩, ⟨by repeat (first | (with_reducible first | exact HB.out | apply below_alloc | apply pw_below_drewN | apply below_drew1 | refine below_set ?_ GE468.out | refine below_set ?_ GE494.out) | exact HB.out)⟩⟩
 case round =>
  clear H'
  try clear c1
  try clear c2
  try clear p2
  try clear c3
  try clear c8
  try clear c13
  try clear c23
  try clear c25
  try clear c29
  try clear hcz12_0
  try clear hcz12_1
  try clear hcz26_0
  try clear hcz26_1
  try clear hcz30_0
  try clear hcz30_1
  try clear hfz12_0
  try clear hfz12_1
  try clear hfz26_0
  try clear hfz26_1
  try clear hfz30_0
  try clear hfz30_1
  obtain ⟨x9_1, rfl, HA, HK1, HO_6, HO_469001, HO_495001, BK468, BK494, HB⟩ := hrel
  cases gk with
  | zero => exact absurd HA.out (by simp [worldmintlaw05_WideOrder.l0])
  | succ k1 =>
   have H := HA.out
   clear HA
   simp only [worldmintlaw05_WideOrder.l0] at H
   by_cases c32 : x9_1 < 3
   ·rw [if_pos c32] at H
    have c32b0 : decide (x9_1 < 3) = true := decide_eq_true c32
    clear c32
    by_cases c33 : 0 ≤ x9_1
    ·rw [if_pos c33] at H
     have c33b0 : decide (0 ≤ x9_1) = true := decide_eq_true c33
     clear c33
     by_cases c34 : x9_1 < (y486.length : Int)
     ·rw [if_pos c34] at H
      have c34b0 : decide (x9_1 < (y486.length : Int)) = true := decide_eq_true c34
      clear c34
      replace H := Option.bind_eq_some_iff.mp H
      obtain ⟨⟨t496, t497, t500⟩, A350, H⟩ := H
      replace H : (if t493 = true then (if t500 = true then ((wide_Compare.f k1 t489 t490 t496 t497).bind fun t502 => ((worldmintref05_Compare.f k1 t464 t465 ((rd_T25 y486 x9_1).f0) ((rd_T25 y486 x9_1).f1)).bind fun t504 => (if t502 = t504 then ((wide_Compare.f k1 t496 t497 t489 t490).bind fun t505 => ((worldmintref05_Compare.f k1 ((rd_T25 y486 x9_1).f0) ((rd_T25 y486 x9_1).f1) t464 t465).bind fun t507 => (if t505 = t507 then (worldmintlaw05_WideOrder.l0 k1 y486 t493 (wrap64 (x9_1 + 1)) t464 t465 t489 t490) else (some false)))) else (some false)))) else (some false)) else (some false)) = some r := H
      have A35 := am_ A350
      clear A350
      by_cases c36 : t493 = true
      ·subst c36
       have H1 : (if t500 = true then ((wide_Compare.f k1 t489 t490 t496 t497).bind fun t502 => ((worldmintref05_Compare.f k1 t464 t465 ((rd_T25 y486 x9_1).f0) ((rd_T25 y486 x9_1).f1)).bind fun t504 => (if t502 = t504 then ((wide_Compare.f k1 t496 t497 t489 t490).bind fun t505 => ((worldmintref05_Compare.f k1 ((rd_T25 y486 x9_1).f0) ((rd_T25 y486 x9_1).f1) t464 t465).bind fun t507 => (if t505 = t507 then (worldmintlaw05_WideOrder.l0 k1 y486 true (wrap64 (x9_1 + 1)) t464 t465 t489 t490) else (some false)))) else (some false)))) else (some false)) = some r := by rw [if_pos rfl] at H; exact H
       clear H
       have H := H1
       clear H1
       by_cases c37 : t500 = true
       ·subst c37
        have H1 : ((wide_Compare.f k1 t489 t490 t496 t497).bind fun t502 => ((worldmintref05_Compare.f k1 t464 t465 ((rd_T25 y486 x9_1).f0) ((rd_T25 y486 x9_1).f1)).bind fun t504 => (if t502 = t504 then ((wide_Compare.f k1 t496 t497 t489 t490).bind fun t505 => ((worldmintref05_Compare.f k1 ((rd_T25 y486 x9_1).f0) ((rd_T25 y486 x9_1).f1) t464 t465).bind fun t507 => (if t505 = t507 then (worldmintlaw05_WideOrder.l0 k1 y486 true (wrap64 (x9_1 + 1)) t464 t465 t489 t490) else (some false)))) else (some false)))) = some r := by rw [if_pos rfl] at H; exact H
        clear H
        have H := H1
        clear H1
        replace H := Option.bind_eq_some_iff.mp H
        obtain ⟨t502, A380, H⟩ := H
        replace H : ((worldmintref05_Compare.f k1 t464 t465 ((rd_T25 y486 x9_1).f0) ((rd_T25 y486 x9_1).f1)).bind fun t504 => (if t502 = t504 then ((wide_Compare.f k1 t496 t497 t489 t490).bind fun t505 => ((worldmintref05_Compare.f k1 ((rd_T25 y486 x9_1).f0) ((rd_T25 y486 x9_1).f1) t464 t465).bind fun t507 => (if t505 = t507 then (worldmintlaw05_WideOrder.l0 k1 y486 true (wrap64 (x9_1 + 1)) t464 t465 t489 t490) else (some false)))) else (some false))) = some r := H
        have A38 := am_ A380
        clear A380
        replace H := Option.bind_eq_some_iff.mp H
        obtain ⟨t504, A390, H⟩ := H
        replace H : (if t502 = t504 then ((wide_Compare.f k1 t496 t497 t489 t490).bind fun t505 => ((worldmintref05_Compare.f k1 ((rd_T25 y486 x9_1).f0) ((rd_T25 y486 x9_1).f1) t464 t465).bind fun t507 => (if t505 = t507 then (worldmintlaw05_WideOrder.l0 k1 y486 true (wrap64 (x9_1 + 1)) t464 t465 t489 t490) else (some false)))) else (some false)) = some r := H
        have A39 := am_ A390
        clear A390
        by_cases c40 : t502 = t504
        ·rw [if_pos c40] at H
         have c40b0 : (t502 == t504) = true := beq_iff_eq.mpr c40
         have c40b1 : (t502 != t504) = false := bne_eq_false_iff_eq.mpr c40
         clear c40
         replace H := Option.bind_eq_some_iff.mp H
         obtain ⟨t505, A410, H⟩ := H
         replace H : ((worldmintref05_Compare.f k1 ((rd_T25 y486 x9_1).f0) ((rd_T25 y486 x9_1).f1) t464 t465).bind fun t507 => (if t505 = t507 then (worldmintlaw05_WideOrder.l0 k1 y486 true (wrap64 (x9_1 + 1)) t464 t465 t489 t490) else (some false))) = some r := H
         have A41 := am_ A410
         clear A410
         replace H := Option.bind_eq_some_iff.mp H
         obtain ⟨t507, A420, H⟩ := H
         replace H : (if t505 = t507 then (worldmintlaw05_WideOrder.l0 k1 y486 true (wrap64 (x9_1 + 1)) t464 t465 t489 t490) else (some false)) = some r := H
         have A42 := am_ A420
         clear A420
         by_cases c43 : t505 = t507
         ·rw [if_pos c43] at H
          have c43b0 : (t505 == t507) = true := beq_iff_eq.mpr c43
          have c43b1 : (t505 != t507) = false := bne_eq_false_iff_eq.mpr c43
          clear c43
          have H' := am_ H
          clear H
          obtain ⟨Ao44, co44, eo44⟩ := Kd.N_slice HO_6.out
          subst eo44
          have p495 : 0 ≤ (x9_1 : Int) := of_decide_eq_true zq3
          have q495 : x9_1 < (y486.length : Int) := of_decide_eq_true zq3
          obtain ⟨ad495, A495_1, c495_1, e495, hx495_0, hx495_1, hl495_1, hi495_1⟩ := at_T25 (Kd.N_reads' HO_6.out).2.2 x9_1 p495 q495
          cases e495
          obtain ⟨ce495, hce495, hMe495, hcc495⟩ := Kd.N_get HO_6.out z25 x9_1 p495 (by first | exact q495 | exact of_decide_eq_true zq3 | (have e_ := (Kd.N_reads' HO_6.out).1; omega))
          obtain ⟨ua495_1, uc495_1, rfl, ul495_1, ge495_1⟩ := k25_openF hMe495
          have hv495_1 := hcc495 1 _ rfl
          rw [add_field _ _ 1 (by omega)] at hv495_1
          replace hv495_1 := Option.some.inj (hv495_1.symm.trans hx495_1)
          injection hv495_1 with hva_ hvn_ hvc_
          rw [hva_] at ge495_1
          rw [hvc_] at ul495_1
          have HL495_1 := am_ (show Kd.V (Kd.int .i64) 3 _ w.heap.size _ _ ((rd_T25 y486 x9_1).f1) from Kd.V_mk ul495_1 ge495_1)
          clear hva_ hvn_ hvc_ ge495_1 ul495_1
          clear hcc495 hce495
          have HR495_1 := am_ hi495_1
          have HC495_1 := am_ hl495_1
          clear hi495_1 hl495_1
          replace p495 := eq_true p495
          replace q495 := eq_true q495
          try go_wp2_with (first | ((with_reducible refine gate_callee (f := 25) rfl ?_); refine goesL_ (some 38) rfl rfl Tryz.func25 (by kernel_rfl) rfl #[.agg #[.bool ((rd_T25 y486 x9_1).f0), .slice A495_1 ((rd_T25 y486 x9_1).f1).length c495_1]] rfl zq6 ?_; (with_reducible refine (worldmintlaw05_wider.calls k1 ((rd_T25 y486 x9_1).f0) _ _ ((rd_T25 y486 x9_1).f1) t496 t497 true _ ?side1 ?side2 A35.out).mono ?_); (case side1 => repeat (first | exact (by repeat (first | (with_reducible exact HR495_1.out) | (with_reducible refine Kd.C_alloc ?_ _) | (with_reducible refine Kd.C_drewN ?_ _) | (with_reducible refine Kd.C_drew ?_) | exact HR495_1.out)) | (with_reducible refine Kd.C_alloc ?_ _) | (with_reducible refine Kd.C_drewN ?_ _) | (with_reducible refine Kd.C_drew ?_))); (case side2 => exact HC495_1.out); rintro e w45 ⟨v498, rfl, ho0, hb⟩; refine ⟨_, rfl, ?_⟩; have n0_ := am_ (Kd.N_below (zq90 HO_6.out) hb); have n1_ := am_ (Kd.V_below (zq1 HO_469001.out) hb); have n2_ := am_ (Kd.V_below (zq1 HO_495001.out) hb); have n3_ := am_ (Kd.V_below (zq1 HL495_1.out) hb); have n4_ := am_ (Kd.V_lower (Kd.V_mono (ok' := fun k_ => some k_ ≠ (.slice (some ad495) y486.length co44 : Value).ownBlock ∧ k_ ≠ gb468 ∧ k_ ≠ gb494) ho0 (fun k_ hk_ => ⟨(Kd.fresh' (Kd.N_lt (zq90 HO_6.out)) k_ hk_), (Kd.freshB (g := gb468) (o := .cells #[.bool t464, .slice Ao13 t465.length co13] 25 (0, 0)) (zq9 BK468.out) k_ hk_), (Kd.freshB (g := gb494) (o := .cells #[.bool t489, .slice Ao31 t490.length co31] 33 (0, 0)) (zq9 BK494.out) k_ hk_)⟩)) (below_size zq91)); have n5_ := am_ (blk_below (g := gb468) (o := .cells #[.bool t464, .slice Ao13 t465.length co13] 25 (0, 0)) (zq9 BK468.out) hb); have n6_ := am_ (blk_below (g := gb494) (o := .cells #[.bool t489, .slice Ao31 t490.length co31] 33 (0, 0)) (zq9 BK494.out) hb); have n7_ := am_ (below_step zq91 hb); clear HO_6 HO_469001 HO_495001 HL495_1 BK468 BK494 HB; have HO_6 := n0_; have HO_469001 := n1_; have HO_495001 := n2_; have HL495_1 := n3_; have HO499 := n4_; have BK468 := n5_; have BK494 := n6_; have HB := n7_; clear n0_ n1_ n2_ n3_ n4_ n5_ n6_ n7_; (try clear hb); (try clear ho0)) | ((with_reducible refine gate_dst (N := 10) rfl ?_); refine box_event ?hg (N := 10) ?hd (cs := #[.bool false, .slice none 0 0]) (t := 33) ?hr ?_; (case hd => rfl); (case hg => rfl); (case hr => exact zq0); intro gb501 hg w46 hbox hb; have n0_ := am_ (Kd.N_below (Kd.N_elderB (zq90 HO_6.out) gb501 (Nat.le_of_eq hg.symm)) hb); have n1_ := am_ (Kd.V_below (Kd.V_elderB (zq1 HO_469001.out) gb501 (Nat.le_of_eq hg.symm)) hb); have n2_ := am_ (Kd.V_below (Kd.V_elderB (zq1 HO_495001.out) gb501 (Nat.le_of_eq hg.symm)) hb); have n3_ := am_ (Kd.V_below (Kd.V_elderB (zq1 HL495_1.out) gb501 (Nat.le_of_eq hg.symm)) hb); have n4_ := am_ (Kd.V_below (Kd.V_elderB (zq1 HO499.out) gb501 (Nat.le_of_eq hg.symm)) hb); have n5_ := am_ (blk_below (g := gb468) (o := .cells #[.bool t464, .slice Ao13 t465.length co13] 25 (0, 0)) (zq9 BK468.out) hb); have n6_ := am_ (blk_below (g := gb494) (o := .cells #[.bool t489, .slice Ao31 t490.length co31] 33 (0, 0)) (zq9 BK494.out) hb); have n7_ := am_ (below_step zq91 hb); have n8_ := am_ (hbox); have n9_ := am_ ((by rw [hg]; exact (below_size zq91) : w.heap.size ≤ gb501)); have n10_ := am_ ((by rw [hg]; exact Nat.ne_of_lt (blk_lt (g := gb468) (zq9 BK468.out)) : gb468 ≠ gb501)); have n11_ := am_ ((by rw [hg]; exact Nat.ne_of_gt (blk_lt (g := gb468) (zq9 BK468.out)) : gb501 ≠ gb468)); have n12_ := am_ ((by rw [hg]; exact Nat.ne_of_lt (blk_lt (g := gb494) (zq9 BK494.out)) : gb494 ≠ gb501)); have n13_ := am_ ((by rw [hg]; exact Nat.ne_of_gt (blk_lt (g := gb494) (zq9 BK494.out)) : gb501 ≠ gb494)); clear HO_6 HO_469001 HO_495001 HL495_1 HO499 BK468 BK494 HB; have HO_6 := n0_; have HO_469001 := n1_; have HO_495001 := n2_; have HL495_1 := n3_; have HO499 := n4_; have BK468 := n5_; have BK494 := n6_; have HB := n7_; have BK501 := n8_; have GE501 := n9_; have NB468_501 := n10_; have NB501_468 := n11_; have NB494_501 := n12_; have NB501_494 := n13_; clear n0_ n1_ n2_ n3_ n4_ n5_ n6_ n7_ n8_ n9_ n10_ n11_ n12_ n13_; clear hb hbox hg; have hnb47 := NB501_468.out; have hnc47 := NB468_501.out; have hnb48 := NB501_494.out; have hnc48 := NB494_501.out; have hcz49_0 : w46.cell? ⟨gb501, 0, none⟩ = some (.bool false) := (blk_cell BK501.out 0).trans rfl; have hcz49_1 : w46.cell? ⟨gb501, 1, none⟩ = some (.slice none 0 0) := (blk_cell BK501.out 1).trans rfl; have hfz49_0 := blk_frozen BK501.out 0; have hfz49_1 := blk_frozen BK501.out 1; obtain ⟨Ao50, co50, eo50⟩ := Kd.V_slice HO499.out; subst eo50))
          have n0_ : Aside0 (Kd.N k25 25 ((w46.setCell ⟨gb501, 0, none⟩ (.bool t496)).setCell ⟨gb501, 1, none⟩ (.slice Ao50 t497.length co50)) w.heap.size (fun k_ => k_ ≠ gb468 ∧ k_ ≠ gb494 ∧ k_ ≠ gb501) (.slice (some ad495) y486.length co44) y486) := ⟨by (with_reducible repeat (first | apply Kd.N_alloc | apply Kd.N_drewN | apply Kd.N_drew)); exact Kd.N_mono (Kd.N_far (p := ⟨gb501, 1, none⟩) (Kd.N_far (p := ⟨gb501, 0, none⟩) (Kd.N_mono HO_6.out (fun k_ hk => (⟨hk, hk.2⟩ : _ ∧ k_ ≠ gb501))) (fun _ hk => hk.2) (.bool t496)) (fun _ hk => hk.2) (.slice Ao50 t497.length co50)) (fun _ hk => ⟨hk.1.1.1, ⟨hk.1.1.2, hk.1.2⟩⟩)⟩
          have n1_ : Aside0 (Kd.V (Kd.int .i64) 3 ((w46.setCell ⟨gb501, 0, none⟩ (.bool t496)).setCell ⟨gb501, 1, none⟩ (.slice Ao50 t497.length co50)) w.heap.size (fun k_ => some k_ ≠ (.slice (some ad495) y486.length co44 : Value).ownBlock ∧ k_ ≠ gb468 ∧ k_ ≠ gb494 ∧ k_ ≠ gb501) (.slice Ao13 t465.length co13) t465) := ⟨by (with_reducible repeat (first | apply Kd.V_alloc | apply Kd.V_drewN | apply Kd.V_drew)); exact Kd.V_mono (Kd.V_far (p := ⟨gb501, 1, none⟩) (Kd.V_far (p := ⟨gb501, 0, none⟩) (Kd.V_mono HO_469001.out (fun k_ hk => (⟨hk, hk.2⟩ : _ ∧ k_ ≠ gb501))) (fun _ hk => hk.2) (.bool t496)) (fun _ hk => hk.2) (.slice Ao50 t497.length co50)) (fun _ hk => ⟨hk.1.1.1, ⟨hk.1.1.2.1, ⟨hk.1.1.2.2, hk.1.2⟩⟩⟩)⟩
          have n2_ : Aside0 (Kd.V (Kd.int .u32) 81 ((w46.setCell ⟨gb501, 0, none⟩ (.bool t496)).setCell ⟨gb501, 1, none⟩ (.slice Ao50 t497.length co50)) w.heap.size (fun k_ => some k_ ≠ (.slice (some ad495) y486.length co44 : Value).ownBlock ∧ k_ ≠ gb468 ∧ k_ ≠ gb494 ∧ k_ ≠ gb501) (.slice Ao31 t490.length co31) t490) := ⟨by (with_reducible repeat (first | apply Kd.V_alloc | apply Kd.V_drewN | apply Kd.V_drew)); exact Kd.V_mono (Kd.V_far (p := ⟨gb501, 1, none⟩) (Kd.V_far (p := ⟨gb501, 0, none⟩) (Kd.V_mono HO_495001.out (fun k_ hk => (⟨hk, hk.2⟩ : _ ∧ k_ ≠ gb501))) (fun _ hk => hk.2) (.bool t496)) (fun _ hk => hk.2) (.slice Ao50 t497.length co50)) (fun _ hk => ⟨hk.1.1.1, ⟨hk.1.1.2.1, ⟨hk.1.1.2.2, hk.1.2⟩⟩⟩)⟩
          have n3_ : Aside0 (Kd.V (Kd.int .i64) 3 ((w46.setCell ⟨gb501, 0, none⟩ (.bool t496)).setCell ⟨gb501, 1, none⟩ (.slice Ao50 t497.length co50)) w.heap.size (fun k_ => some k_ ≠ (.slice (some ad495) y486.length co44 : Value).ownBlock ∧ k_ ≠ gb468 ∧ k_ ≠ gb494 ∧ k_ ≠ gb501) (.slice A495_1 ((rd_T25 y486 x9_1).f1).length c495_1) ((rd_T25 y486 x9_1).f1)) := ⟨by (with_reducible repeat (first | apply Kd.V_alloc | apply Kd.V_drewN | apply Kd.V_drew)); exact Kd.V_mono (Kd.V_far (p := ⟨gb501, 1, none⟩) (Kd.V_far (p := ⟨gb501, 0, none⟩) (Kd.V_mono HL495_1.out (fun k_ hk => (⟨hk, hk.2⟩ : _ ∧ k_ ≠ gb501))) (fun _ hk => hk.2) (.bool t496)) (fun _ hk => hk.2) (.slice Ao50 t497.length co50)) (fun _ hk => ⟨hk.1.1.2, ⟨hk.1.1.1.1, ⟨hk.1.1.1.2, hk.1.2⟩⟩⟩)⟩
          have n4_ : Aside0 (Kd.V (Kd.int .u32) 81 ((w46.setCell ⟨gb501, 0, none⟩ (.bool t496)).setCell ⟨gb501, 1, none⟩ (.slice Ao50 t497.length co50)) w.heap.size (fun k_ => some k_ ≠ (.slice (some ad495) y486.length co44 : Value).ownBlock ∧ k_ ≠ gb468 ∧ k_ ≠ gb494 ∧ k_ ≠ gb501) (.slice Ao50 t497.length co50) t497) := ⟨by (with_reducible repeat (first | apply Kd.V_alloc | apply Kd.V_drewN | apply Kd.V_drew)); exact Kd.V_mono (Kd.V_far (p := ⟨gb501, 1, none⟩) (Kd.V_far (p := ⟨gb501, 0, none⟩) (Kd.V_mono HO499.out (fun k_ hk => (⟨hk, hk.2⟩ : _ ∧ k_ ≠ gb501))) (fun _ hk => hk.2) (.bool t496)) (fun _ hk => hk.2) (.slice Ao50 t497.length co50)) (fun _ hk => ⟨hk.1.1.1, ⟨hk.1.1.2.1, ⟨hk.1.1.2.2, hk.1.2⟩⟩⟩)⟩
          have n5_ : Aside0 (((w46.setCell ⟨gb501, 0, none⟩ (.bool t496)).setCell ⟨gb501, 1, none⟩ (.slice Ao50 t497.length co50)).heap[gb468]? = some (.cells #[.bool t464, .slice Ao13 t465.length co13] 25 (0, 0))) := ⟨by (with_reducible repeat (first | refine blk_drewN ?_ _ | refine blk_drew ?_ | refine blk_alloc ?_ _)); refine blk_far ?_ NB468_501.out _; (with_reducible repeat (first | refine blk_drewN ?_ _ | refine blk_drew ?_ | refine blk_alloc ?_ _)); refine blk_far ?_ NB468_501.out _; (with_reducible repeat (first | refine blk_drewN ?_ _ | refine blk_drew ?_ | refine blk_alloc ?_ _)); exact BK468.out⟩
          have n6_ : Aside0 (((w46.setCell ⟨gb501, 0, none⟩ (.bool t496)).setCell ⟨gb501, 1, none⟩ (.slice Ao50 t497.length co50)).heap[gb494]? = some (.cells #[.bool t489, .slice Ao31 t490.length co31] 33 (0, 0))) := ⟨by (with_reducible repeat (first | refine blk_drewN ?_ _ | refine blk_drew ?_ | refine blk_alloc ?_ _)); refine blk_far ?_ NB494_501.out _; (with_reducible repeat (first | refine blk_drewN ?_ _ | refine blk_drew ?_ | refine blk_alloc ?_ _)); refine blk_far ?_ NB494_501.out _; (with_reducible repeat (first | refine blk_drewN ?_ _ | refine blk_drew ?_ | refine blk_alloc ?_ _)); exact BK494.out⟩
          have n7_ : Aside0 (((w46.setCell ⟨gb501, 0, none⟩ (.bool t496)).setCell ⟨gb501, 1, none⟩ (.slice Ao50 t497.length co50)).heap[gb501]? = some (.cells #[.bool t496, .slice Ao50 t497.length co50] 33 (0, 0))) := ⟨by (with_reducible repeat (first | refine blk_drewN ?_ _ | refine blk_drew ?_ | refine blk_alloc ?_ _)); refine blk_put (cs := #[.bool t496, .slice none 0 0]) ?_ 1 _ rfl; (with_reducible repeat (first | refine blk_drewN ?_ _ | refine blk_drew ?_ | refine blk_alloc ?_ _)); refine blk_put (cs := #[.bool false, .slice none 0 0]) ?_ 0 _ rfl; (with_reducible repeat (first | refine blk_drewN ?_ _ | refine blk_drew ?_ | refine blk_alloc ?_ _)); exact BK501.out⟩
          have n8_ : Aside0 (Below w.heap.size w ((w46.setCell ⟨gb501, 0, none⟩ (.bool t496)).setCell ⟨gb501, 1, none⟩ (.slice Ao50 t497.length co50))) := ⟨by repeat (first | (with_reducible first | exact HB.out | apply below_alloc | apply pw_below_drewN | apply below_drew1 | refine below_set ?_ GE468.out | refine below_set ?_ GE494.out | refine below_set ?_ GE501.out) | exact HB.out)⟩
          
          generalize ((w46.setCell ⟨gb501, 0, none⟩ (.bool t496)).setCell ⟨gb501, 1, none⟩ (.slice Ao50 t497.length co50)) = w51 at n0_ n1_ n2_ n3_ n4_ n5_ n6_ n7_ n8_ ⊢
          have HO_6 := n0_; have HO_469001 := n1_; have HO_495001 := n2_; have HL495_1 := n3_; have HO499 := n4_; have BK468 := n5_; have BK494 := n6_; have BK501 := n7_; have HB := n8_; clear n0_ n1_ n2_ n3_ n4_ n5_ n6_ n7_ n8_; replace HO_6 := am_ (Kd.N_drew HO_6.out); replace HO_469001 := am_ (Kd.V_drew HO_469001.out); replace HO_495001 := am_ (Kd.V_drew HO_495001.out); replace HL495_1 := am_ (Kd.V_drew HL495_1.out); replace HO499 := am_ (Kd.V_drew HO499.out); replace BK468 := am_ (blk_drew BK468.out); replace BK494 := am_ (blk_drew BK494.out); replace BK501 := am_ (blk_drew BK501.out); replace HB := am_ (below_drew1 HB.out)
          have p503 : 0 ≤ (x9_1 : Int) := of_decide_eq_true zq3
          have q503 : x9_1 < (y486.length : Int) := of_decide_eq_true zq3
          obtain ⟨ad503, A503_1, c503_1, e503, hx503_0, hx503_1, hl503_1, hi503_1⟩ := at_T25 (Kd.N_reads' HO_6.out).2.2 x9_1 p503 q503
          obtain rfl : ad495 = ad503 := (by injection e503)
          obtain ⟨ce503, hce503, hMe503, hcc503⟩ := Kd.N_get HO_6.out z25 x9_1 p503 (by first | exact q503 | exact of_decide_eq_true zq3 | (have e_ := (Kd.N_reads' HO_6.out).1; omega))
          obtain ⟨ua503_1, uc503_1, rfl, ul503_1, ge503_1⟩ := k25_openF hMe503
          have hv503_1 := hcc503 1 _ rfl
          rw [add_field _ _ 1 (by omega)] at hv503_1
          replace hv503_1 := Option.some.inj (hv503_1.symm.trans hx503_1)
          injection hv503_1 with hva_ hvn_ hvc_
          rw [hva_] at ge503_1
          rw [hvc_] at ul503_1
          have HL503_1 := am_ (show Kd.V (Kd.int .i64) 3 _ w.heap.size _ _ ((rd_T25 y486 x9_1).f1) from Kd.V_mk ul503_1 ge503_1)
          clear hva_ hvn_ hvc_ ge503_1 ul503_1
          clear hcc503 hce503
          have HR503_1 := am_ hi503_1
          have HC503_1 := am_ hl503_1
          clear hi503_1 hl503_1
          replace p503 := eq_true p503
          replace q503 := eq_true q503
          have p506 : 0 ≤ (x9_1 : Int) := of_decide_eq_true zq3
          have q506 : x9_1 < (y486.length : Int) := of_decide_eq_true zq3
          obtain ⟨ad506, A506_1, c506_1, e506, hx506_0, hx506_1, hl506_1, hi506_1⟩ := at_T25 (Kd.N_reads' HO_6.out).2.2 x9_1 p506 q506
          obtain rfl : ad495 = ad506 := (by injection e506)
          obtain ⟨ce506, hce506, hMe506, hcc506⟩ := Kd.N_get HO_6.out z25 x9_1 p506 (by first | exact q506 | exact of_decide_eq_true zq3 | (have e_ := (Kd.N_reads' HO_6.out).1; omega))
          obtain ⟨ua506_1, uc506_1, rfl, ul506_1, ge506_1⟩ := k25_openF hMe506
          have hv506_1 := hcc506 1 _ rfl
          rw [add_field _ _ 1 (by omega)] at hv506_1
          replace hv506_1 := Option.some.inj (hv506_1.symm.trans hx506_1)
          injection hv506_1 with hva_ hvn_ hvc_
          rw [hva_] at ge506_1
          rw [hvc_] at ul506_1
          have HL506_1 := am_ (show Kd.V (Kd.int .i64) 3 _ w.heap.size _ _ ((rd_T25 y486 x9_1).f1) from Kd.V_mk ul506_1 ge506_1)
          clear hva_ hvn_ hvc_ ge506_1 ul506_1
          clear hcc506 hce506
          have HR506_1 := am_ hi506_1
          have HC506_1 := am_ hl506_1
          clear hi506_1 hl506_1
          replace p506 := eq_true p506
          replace q506 := eq_true q506
          refine start_ (n := 30) (S := fun w' => w'.cell? ⟨gb494, 0, none⟩ = some (.bool t489) ∧ w'.cell? ⟨gb494, 1, none⟩ = some (.slice Ao31 t490.length co31) ∧ w'.cell? ⟨gb501, 0, none⟩ = some (.bool t496) ∧ w'.cell? ⟨gb501, 1, none⟩ = some (.slice Ao50 t497.length co50) ∧ w'.cell? ⟨gb468, 0, none⟩ = some (.bool t464) ∧ w'.cell? ⟨gb468, 1, none⟩ = some (.slice Ao13 t465.length co13) ∧ w'.cell? (ad495.add ((x9_1).toNat * 2)) = some (.bool ((rd_T25 y486 x9_1).f0)) ∧ w'.cell? ⟨(ad495.add ((x9_1).toNat * 2)).block, (ad495.add ((x9_1).toNat * 2)).off + 1, none⟩ = some (.slice A503_1 ((rd_T25 y486 x9_1).f1).length c503_1) ∧ w'.cell? (ad495.add ((x9_1).toNat * 2)) = some (.bool ((rd_T25 y486 x9_1).f0)) ∧ w'.cell? ⟨(ad495.add ((x9_1).toNat * 2)).block, (ad495.add ((x9_1).toNat * 2)).off + 1, none⟩ = some (.slice A506_1 ((rd_T25 y486 x9_1).f1).length c506_1)) (ds := []) #[false, false, false, false, false, false, false, false, false, false, false, false, false, false, false, false, false, false, false, false, false, false, false, false, false, false, false, false, false, false] (by kernel_rfl) rfl rfl ⟨(blk_cell BK494.out 0).trans rfl, (blk_cell BK494.out 1).trans rfl, (blk_cell BK501.out 0).trans rfl, (blk_cell BK501.out 1).trans rfl, (blk_cell BK468.out 0).trans rfl, (blk_cell BK468.out 1).trans rfl, hx503_0, hx503_1, hx506_0, hx506_1⟩ (fun hHeld => ?_); refine with_tabW worldmintlaw05_WideOrder.tab8 worldmintlaw05_WideOrder.bits8 (fun HT_ HW_ => ?_)
          generalize w51.drew = w52 at HO_6 HO_469001 HO_495001 HL495_1 HO499 BK468 BK494 BK501 HB HL503_1 HL506_1 HR503_1 HR506_1 hx503_0 hx503_1 hx506_0 hx506_1 hHeld ⊢
          refine pure_ (i := 0) (N := some 41) (v := ?_) (a' := ?_) #[true, false, false, false, false, false, false, false, false, false, false, false, false, false, false, false, false, false, false, false, false, false, false, false, false, false, false, false, false, false] rfl rfl (any_of HT_.out (by kernel_rfl)) (fun _ _ _ h => h) (Or.inl ⟨by rfl, ?_⟩) ?_ ?_
          rotate_left
          ·intro w'
           go_simp
           with_reducible rfl
          rotate_left
          ·exact za_
          refine pure_ (i := 1) (N := some 42) (v := ?_) (a' := ?_) #[true, true, false, false, false, false, false, false, false, false, false, false, false, false, false, false, false, false, false, false, false, false, false, false, false, false, false, false, false, false] rfl rfl (any_of HT_.out (by kernel_rfl)) (fun _ _ _ h => h) (Or.inl ⟨by rfl, ?_⟩) ?_ ?_
          rotate_left
          ·intro w'
           go_simp
           with_reducible rfl
          rotate_left
          ·exact za_
          refine pure_ (i := 2) (N := some 43) (v := ?_) (a' := ?_) #[true, true, true, false, false, false, false, false, false, false, false, false, false, false, false, false, false, false, false, false, false, false, false, false, false, false, false, false, false, false] rfl rfl (any_of HT_.out (by kernel_rfl)) (fun _ _ _ h => h) (Or.inl ⟨by rfl, ?_⟩) ?_ ?_
          rotate_left
          ·intro w'
           go_simp
           with_reducible rfl
          rotate_left
          ·exact za_
          refine pure_ (i := 3) (N := some 44) (v := ?_) (a' := ?_) #[true, true, true, true, false, false, false, false, false, false, false, false, false, false, false, false, false, false, false, false, false, false, false, false, false, false, false, false, false, false] rfl rfl (any_of HT_.out (by kernel_rfl)) (fun _ _ _ h => h) (Or.inl ⟨by rfl, ?_⟩) ?_ ?_
          rotate_left
          ·intro w'
           go_simp
           with_reducible rfl
          rotate_left
          ·exact za_
          refine pure_ (i := 4) (N := some 45) (v := ?_) (a' := ?_) #[true, true, true, true, true, false, false, false, false, false, false, false, false, false, false, false, false, false, false, false, false, false, false, false, false, false, false, false, false, false] rfl rfl (any_of HT_.out (by kernel_rfl)) (fun _ _ _ h => h) (Or.inl ⟨by rfl, ?_⟩) ?_ ?_
          rotate_left
          ·intro w'
           go_simp
           with_reducible rfl
          rotate_left
          ·exact za_
          refine pure_ (i := 5) (N := some 46) (v := ?_) (a' := ?_) #[true, true, true, true, true, true, false, false, false, false, false, false, false, false, false, false, false, false, false, false, false, false, false, false, false, false, false, false, false, false] rfl rfl (any_of HT_.out (by kernel_rfl)) (fun _ _ _ h => h) (Or.inl ⟨by rfl, ?_⟩) ?_ ?_
          rotate_left
          ·intro w'
           go_simp
           with_reducible rfl
          rotate_left
          ·exact za_
          refine pure_ (i := 6) (N := some 47) (v := ?_) (a' := ?_) #[true, true, true, true, true, true, true, false, false, false, false, false, false, false, false, false, false, false, false, false, false, false, false, false, false, false, false, false, false, false] rfl rfl (any_of HT_.out (by kernel_rfl)) (fun _ _ _ h => h) (Or.inl ⟨by rfl, ?_⟩) ?_ ?_
          rotate_left
          ·intro w'
           go_simp
           with_reducible rfl
          rotate_left
          ·exact za_
          refine pure_ (i := 11) (N := some 52) (v := ?_) (a' := ?_) #[true, true, true, true, true, true, true, false, false, false, false, true, false, false, false, false, false, false, false, false, false, false, false, false, false, false, false, false, false, false] rfl rfl (any_of HT_.out (by kernel_rfl)) (fun _ _ _ h => h) (Or.inl ⟨by rfl, ?_⟩) ?_ ?_
          rotate_left
          ·intro w'
           go_simp
           with_reducible rfl
          rotate_left
          ·exact za_
          refine pure_ (i := 12) (N := some 53) (v := ?_) (a' := ?_) #[true, true, true, true, true, true, true, false, false, false, false, true, true, false, false, false, false, false, false, false, false, false, false, false, false, false, false, false, false, false] rfl rfl (any_of HT_.out (by kernel_rfl)) (fun _ _ _ h => h) (Or.inl ⟨by rfl, ?_⟩) ?_ ?_
          rotate_left
          ·intro w'
           go_simp
           with_reducible rfl
          rotate_left
          ·exact za_
          refine pure_ (i := 13) (N := some 54) (v := ?_) (a' := ?_) #[true, true, true, true, true, true, true, false, false, false, false, true, true, true, false, false, false, false, false, false, false, false, false, false, false, false, false, false, false, false] rfl rfl (any_of HT_.out (by kernel_rfl)) (fun _ _ _ h => h) (Or.inl ⟨by rfl, ?_⟩) ?_ ?_
          rotate_left
          ·intro w'
           go_simp
           with_reducible rfl
          rotate_left
          ·exact za_
          refine take_ (i := 7) (N := some 48) (v := ?_) (a' := ?_) #[true, true, true, true, true, true, true, true, false, false, false, true, true, true, false, false, false, false, false, false, false, false, false, false, false, false, false, false, false, false] rfl rfl (take_ofW HT_.out HW_.out (by kernel_rfl)) (fun _ _ _ h => h) (Or.inl ⟨by rfl, ?_⟩) hHeld ?_ ?_
          rotate_left
          ·rintro w' ⟨s0, s1, s2, s3, s4, s5, s6, s7, s8, s9⟩
           go_simp
           with_reducible rfl
          rotate_left
          ·exact za_
          refine take_ (i := 8) (N := some 49) (v := ?_) (a' := ?_) #[true, true, true, true, true, true, true, true, true, false, false, true, true, true, false, false, false, false, false, false, false, false, false, false, false, false, false, false, false, false] rfl rfl (take_ofW HT_.out HW_.out (by kernel_rfl)) (fun _ _ _ h => h) (Or.inl ⟨by rfl, ?_⟩) hHeld ?_ ?_
          rotate_left
          ·rintro w' ⟨s0, s1, s2, s3, s4, s5, s6, s7, s8, s9⟩
           go_simp
           with_reducible rfl
          rotate_left
          ·exact za_
          refine take_ (i := 10) (N := some 51) (v := ?_) (a' := ?_) #[true, true, true, true, true, true, true, true, true, false, true, true, true, true, false, false, false, false, false, false, false, false, false, false, false, false, false, false, false, false] rfl rfl (take_ofW HT_.out HW_.out (by kernel_rfl)) (fun _ _ _ h => h) (Or.inl ⟨by rfl, ?_⟩) hHeld ?_ ?_
          rotate_left
          ·rintro w' ⟨s0, s1, s2, s3, s4, s5, s6, s7, s8, s9⟩
           go_simp
           with_reducible rfl
          rotate_left
          ·exact za_
          refine take_ (i := 14) (N := some 55) (v := ?_) (a' := ?_) #[true, true, true, true, true, true, true, true, true, false, true, true, true, true, true, false, false, false, false, false, false, false, false, false, false, false, false, false, false, false] rfl rfl (take_ofW HT_.out HW_.out (by kernel_rfl)) (fun _ _ _ h => h) (Or.inl ⟨by rfl, ?_⟩) hHeld ?_ ?_
          rotate_left
          ·rintro w' ⟨s0, s1, s2, s3, s4, s5, s6, s7, s8, s9⟩
           go_simp
           with_reducible rfl
          rotate_left
          ·exact za_
          refine one_ (i := 9) (N := some 50) #[true, true, true, true, true, true, true, true, true, true, true, true, true, true, true, false, false, false, false, false, false, false, false, false, false, false, false, false, false, false] rfl rfl (one_of HT_.out (by kernel_rfl)) (by decide) (fun K hK => ?_)
          refine goes_ Tryz.func37 (by kernel_rfl) rfl #[.agg #[.bool t489, .slice Ao31 t490.length co31], .agg #[.bool t496, .slice Ao50 t497.length co50]] (by rfl) rfl rfl zq6 ?_
          with_reducible refine (wide_Compare.calls k1 t489 _ _ t490 t496 _ _ t497 t502 _ ?side1 ?side2 ?side3 ?side4 A38.out).mono ?_
          (case side1 => exact (zq31 HO_495001.out))
          (case side2 => exact (Kd.V_reads' HO_495001.out).2.1)
          (case side3 => exact (zq31 HO499.out))
          (case side4 => exact (Kd.V_reads' HO499.out).2.1)
          rintro e w53 ⟨rfl, hb⟩
          have HS6_ := (hb.cell (World.block_lt_of_cell? _ _ (hHeld.2.2.2.2.2.2.1))).trans (hHeld.2.2.2.2.2.2.1)
          have HS7_ := (hb.cell (World.block_lt_of_cell? _ _ (hHeld.2.2.2.2.2.2.2.1))).trans (hHeld.2.2.2.2.2.2.2.1)
          have HS8_ := (hb.cell (World.block_lt_of_cell? _ _ (hHeld.2.2.2.2.2.2.2.2.1))).trans (hHeld.2.2.2.2.2.2.2.2.1)
          have HS9_ := (hb.cell (World.block_lt_of_cell? _ _ (hHeld.2.2.2.2.2.2.2.2.2))).trans (hHeld.2.2.2.2.2.2.2.2.2)
          refine ⟨_, rfl, ?_⟩
          replace HO_6 := am_ (Kd.N_below (zq90 HO_6.out) hb); replace HO_469001 := am_ (Kd.V_below (zq1 HO_469001.out) hb); replace HO_495001 := am_ (Kd.V_below (zq1 HO_495001.out) hb); replace HO499 := am_ (Kd.V_below (zq1 HO499.out) hb); replace BK468 := am_ (blk_below (g := gb468) (o := .cells #[.bool t464, .slice Ao13 t465.length co13] 25 (0, 0)) (zq9 BK468.out) hb); replace BK494 := am_ (blk_below (g := gb494) (o := .cells #[.bool t489, .slice Ao31 t490.length co31] 33 (0, 0)) (zq9 BK494.out) hb); replace BK501 := am_ (blk_below (g := gb501) (o := .cells #[.bool t496, .slice Ao50 t497.length co50] 33 (0, 0)) (zq9 BK501.out) hb); replace HR503_1 := am_ (Kd.C_below zq92 hb); replace HB := am_ (below_step zq93 hb); (try clear hb)
          refine hK.out _ _ ⟨(blk_cell BK494.out 0).trans rfl, (blk_cell BK494.out 1).trans rfl, (blk_cell BK501.out 0).trans rfl, (blk_cell BK501.out 1).trans rfl, (blk_cell BK468.out 0).trans rfl, (blk_cell BK468.out 1).trans rfl, HS6_, HS7_, HS8_, HS9_⟩ (fun hHeld => ?_)
          clear hK K
          refine norm_ (a' := ?_) ?_ ?_
          rotate_left
          ·show Act.put _ (some 50) _ = _
           exact za_
          refine one_ (i := 15) (N := some 56) #[true, true, true, true, true, true, true, true, true, true, true, true, true, true, true, true, false, false, false, false, false, false, false, false, false, false, false, false, false, false] rfl rfl (one_of HT_.out (by kernel_rfl)) (by decide) (fun K hK => ?_)
          refine goes_ Tryz.func38 (by kernel_rfl) rfl #[.agg #[.bool t464, .slice Ao13 t465.length co13], .agg #[.bool ((rd_T25 y486 x9_1).f0), .slice A503_1 ((rd_T25 y486 x9_1).f1).length c503_1]] (by rfl) rfl rfl zq6 ?_
          with_reducible refine (worldmintref05_Compare.calls k1 t464 _ _ t465 ((rd_T25 y486 x9_1).f0) _ _ ((rd_T25 y486 x9_1).f1) t504 _ ?side1 ?side2 ?side3 ?side4 A39.out).mono ?_
          (case side1 => exact (zq31 HO_469001.out))
          (case side2 => exact (Kd.V_reads' HO_469001.out).2.1)
          (case side3 => exact zq94)
          (case side4 => exact HC503_1.out)
          rintro e w54 ⟨rfl, hb⟩
          have HS6_ := (hb.cell (World.block_lt_of_cell? _ _ (hHeld.2.2.2.2.2.2.1))).trans (hHeld.2.2.2.2.2.2.1)
          have HS7_ := (hb.cell (World.block_lt_of_cell? _ _ (hHeld.2.2.2.2.2.2.2.1))).trans (hHeld.2.2.2.2.2.2.2.1)
          have HS8_ := (hb.cell (World.block_lt_of_cell? _ _ (hHeld.2.2.2.2.2.2.2.2.1))).trans (hHeld.2.2.2.2.2.2.2.2.1)
          have HS9_ := (hb.cell (World.block_lt_of_cell? _ _ (hHeld.2.2.2.2.2.2.2.2.2))).trans (hHeld.2.2.2.2.2.2.2.2.2)
          refine ⟨_, rfl, ?_⟩
          replace HO_6 := am_ (Kd.N_below (zq90 HO_6.out) hb); replace HO_469001 := am_ (Kd.V_below (zq1 HO_469001.out) hb); replace HO_495001 := am_ (Kd.V_below (zq1 HO_495001.out) hb); replace HO499 := am_ (Kd.V_below (zq1 HO499.out) hb); replace BK468 := am_ (blk_below (g := gb468) (o := .cells #[.bool t464, .slice Ao13 t465.length co13] 25 (0, 0)) (zq9 BK468.out) hb); replace BK494 := am_ (blk_below (g := gb494) (o := .cells #[.bool t489, .slice Ao31 t490.length co31] 33 (0, 0)) (zq9 BK494.out) hb); replace BK501 := am_ (blk_below (g := gb501) (o := .cells #[.bool t496, .slice Ao50 t497.length co50] 33 (0, 0)) (zq9 BK501.out) hb); replace HR503_1 := am_ (Kd.C_below zq92 hb); replace HB := am_ (below_step zq93 hb); (try clear hb)
          refine hK.out _ _ ⟨(blk_cell BK494.out 0).trans rfl, (blk_cell BK494.out 1).trans rfl, (blk_cell BK501.out 0).trans rfl, (blk_cell BK501.out 1).trans rfl, (blk_cell BK468.out 0).trans rfl, (blk_cell BK468.out 1).trans rfl, HS6_, HS7_, HS8_, HS9_⟩ (fun hHeld => ?_)
          clear hK K
          refine norm_ (a' := ?_) ?_ ?_
          rotate_left
          ·show Act.put _ (some 56) _ = _
           exact za_
          refine pure_ (i := 16) (N := some 57) (v := ?_) (a' := ?_) #[true, true, true, true, true, true, true, true, true, true, true, true, true, true, true, true, true, false, false, false, false, false, false, false, false, false, false, false, false, false] rfl rfl (any_of HT_.out (by kernel_rfl)) (fun _ _ _ h => h) (Or.inl ⟨by rfl, ?_⟩) ?_ ?_
          rotate_left
          ·intro w'
           go_simp
           with_reducible rfl
          rotate_left
          ·exact za_
          refine pure_ (i := 17) (N := some 58) (v := ?_) (a' := ?_) #[true, true, true, true, true, true, true, true, true, true, true, true, true, true, true, true, true, true, false, false, false, false, false, false, false, false, false, false, false, false] rfl rfl (any_of HT_.out (by kernel_rfl)) (fun _ _ _ h => h) (Or.inl ⟨by rfl, ?_⟩) ?_ ?_
          rotate_left
          ·intro w'
           go_simp
           with_reducible rfl
          rotate_left
          ·exact za_
          refine pure_ (i := 18) (N := some 59) (v := ?_) (a' := ?_) #[true, true, true, true, true, true, true, true, true, true, true, true, true, true, true, true, true, true, true, false, false, false, false, false, false, false, false, false, false, false] rfl rfl (any_of HT_.out (by kernel_rfl)) (fun _ _ _ h => h) (Or.inl ⟨by rfl, ?_⟩) ?_ ?_
          rotate_left
          ·intro w'
           go_simp
           with_reducible rfl
          rotate_left
          ·exact za_
          refine pure_ (i := 22) (N := some 63) (v := ?_) (a' := ?_) #[true, true, true, true, true, true, true, true, true, true, true, true, true, true, true, true, true, true, true, false, false, false, true, false, false, false, false, false, false, false] rfl rfl (any_of HT_.out (by kernel_rfl)) (fun _ _ _ h => h) (Or.inl ⟨by rfl, ?_⟩) ?_ ?_
          rotate_left
          ·intro w'
           go_simp
           with_reducible rfl
          rotate_left
          ·exact za_
          refine pure_ (i := 23) (N := some 64) (v := ?_) (a' := ?_) #[true, true, true, true, true, true, true, true, true, true, true, true, true, true, true, true, true, true, true, false, false, false, true, true, false, false, false, false, false, false] rfl rfl (any_of HT_.out (by kernel_rfl)) (fun _ _ _ h => h) (Or.inl ⟨by rfl, ?_⟩) ?_ ?_
          rotate_left
          ·intro w'
           go_simp
           with_reducible rfl
          rotate_left
          ·exact za_
          refine pure_ (i := 24) (N := some 65) (v := ?_) (a' := ?_) #[true, true, true, true, true, true, true, true, true, true, true, true, true, true, true, true, true, true, true, false, false, false, true, true, true, false, false, false, false, false] rfl rfl (any_of HT_.out (by kernel_rfl)) (fun _ _ _ h => h) (Or.inl ⟨by rfl, ?_⟩) ?_ ?_
          rotate_left
          ·intro w'
           go_simp
           with_reducible rfl
          rotate_left
          ·exact za_
          refine take_ (i := 19) (N := some 60) (v := ?_) (a' := ?_) #[true, true, true, true, true, true, true, true, true, true, true, true, true, true, true, true, true, true, true, true, false, false, true, true, true, false, false, false, false, false] rfl rfl (take_ofW HT_.out HW_.out (by kernel_rfl)) (fun _ _ _ h => h) (Or.inl ⟨by rfl, ?_⟩) hHeld ?_ ?_
          rotate_left
          ·rintro w' ⟨s0, s1, s2, s3, s4, s5, s6, s7, s8, s9⟩
           go_simp
           with_reducible rfl
          rotate_left
          ·exact za_
          refine take_ (i := 20) (N := some 61) (v := ?_) (a' := ?_) #[true, true, true, true, true, true, true, true, true, true, true, true, true, true, true, true, true, true, true, true, true, false, true, true, true, false, false, false, false, false] rfl rfl (take_ofW HT_.out HW_.out (by kernel_rfl)) (fun _ _ _ h => h) (Or.inl ⟨by rfl, ?_⟩) hHeld ?_ ?_
          rotate_left
          ·rintro w' ⟨s0, s1, s2, s3, s4, s5, s6, s7, s8, s9⟩
           go_simp
           with_reducible rfl
          rotate_left
          ·exact za_
          refine take_ (i := 25) (N := some 66) (v := ?_) (a' := ?_) #[true, true, true, true, true, true, true, true, true, true, true, true, true, true, true, true, true, true, true, true, true, false, true, true, true, true, false, false, false, false] rfl rfl (take_ofW HT_.out HW_.out (by kernel_rfl)) (fun _ _ _ h => h) (Or.inl ⟨by rfl, ?_⟩) hHeld ?_ ?_
          rotate_left
          ·rintro w' ⟨s0, s1, s2, s3, s4, s5, s6, s7, s8, s9⟩
           go_simp
           with_reducible rfl
          rotate_left
          ·exact za_
          refine take_ (i := 26) (N := some 67) (v := ?_) (a' := ?_) #[true, true, true, true, true, true, true, true, true, true, true, true, true, true, true, true, true, true, true, true, true, false, true, true, true, true, true, false, false, false] rfl rfl (take_ofW HT_.out HW_.out (by kernel_rfl)) (fun _ _ _ h => h) (Or.inl ⟨by rfl, ?_⟩) hHeld ?_ ?_
          rotate_left
          ·rintro w' ⟨s0, s1, s2, s3, s4, s5, s6, s7, s8, s9⟩
           go_simp
           with_reducible rfl
          rotate_left
          ·exact za_
          refine one_ (i := 21) (N := some 62) #[true, true, true, true, true, true, true, true, true, true, true, true, true, true, true, true, true, true, true, true, true, true, true, true, true, true, true, false, false, false] rfl rfl (one_of HT_.out (by kernel_rfl)) (by decide) (fun K hK => ?_)
          refine goes_ Tryz.func37 (by kernel_rfl) rfl #[.agg #[.bool t496, .slice Ao50 t497.length co50], .agg #[.bool t489, .slice Ao31 t490.length co31]] (by rfl) rfl rfl zq6 ?_
          with_reducible refine (wide_Compare.calls k1 t496 _ _ t497 t489 _ _ t490 t505 _ ?side1 ?side2 ?side3 ?side4 A41.out).mono ?_
          (case side1 => exact (zq31 HO499.out))
          (case side2 => exact (Kd.V_reads' HO499.out).2.1)
          (case side3 => exact (zq31 HO_495001.out))
          (case side4 => exact (Kd.V_reads' HO_495001.out).2.1)
          rintro e w55 ⟨rfl, hb⟩
          have HS6_ := (hb.cell (World.block_lt_of_cell? _ _ (hHeld.2.2.2.2.2.2.1))).trans (hHeld.2.2.2.2.2.2.1)
          have HS7_ := (hb.cell (World.block_lt_of_cell? _ _ (hHeld.2.2.2.2.2.2.2.1))).trans (hHeld.2.2.2.2.2.2.2.1)
          have HS8_ := (hb.cell (World.block_lt_of_cell? _ _ (hHeld.2.2.2.2.2.2.2.2.1))).trans (hHeld.2.2.2.2.2.2.2.2.1)
          have HS9_ := (hb.cell (World.block_lt_of_cell? _ _ (hHeld.2.2.2.2.2.2.2.2.2))).trans (hHeld.2.2.2.2.2.2.2.2.2)
          refine ⟨_, rfl, ?_⟩
          replace HO_6 := am_ (Kd.N_below (zq90 HO_6.out) hb); replace HO_469001 := am_ (Kd.V_below (zq1 HO_469001.out) hb); replace HO_495001 := am_ (Kd.V_below (zq1 HO_495001.out) hb); replace BK468 := am_ (blk_below (g := gb468) (o := .cells #[.bool t464, .slice Ao13 t465.length co13] 25 (0, 0)) (zq9 BK468.out) hb); replace BK494 := am_ (blk_below (g := gb494) (o := .cells #[.bool t489, .slice Ao31 t490.length co31] 33 (0, 0)) (zq9 BK494.out) hb); replace BK501 := am_ (blk_below (g := gb501) (o := .cells #[.bool t496, .slice Ao50 t497.length co50] 33 (0, 0)) (zq9 BK501.out) hb); replace HR503_1 := am_ (Kd.C_below zq92 hb); replace HB := am_ (below_step zq93 hb); (try clear hb)
          refine hK.out _ _ ⟨(blk_cell BK494.out 0).trans rfl, (blk_cell BK494.out 1).trans rfl, (blk_cell BK501.out 0).trans rfl, (blk_cell BK501.out 1).trans rfl, (blk_cell BK468.out 0).trans rfl, (blk_cell BK468.out 1).trans rfl, HS6_, HS7_, HS8_, HS9_⟩ (fun hHeld => ?_)
          clear hK K
          refine norm_ (a' := ?_) ?_ ?_
          rotate_left
          ·show Act.put _ (some 62) _ = _
           exact za_
          refine one_ (i := 27) (N := some 68) #[true, true, true, true, true, true, true, true, true, true, true, true, true, true, true, true, true, true, true, true, true, true, true, true, true, true, true, true, false, false] rfl rfl (one_of HT_.out (by kernel_rfl)) (by decide) (fun K hK => ?_)
          refine goes_ Tryz.func38 (by kernel_rfl) rfl #[.agg #[.bool ((rd_T25 y486 x9_1).f0), .slice A503_1 ((rd_T25 y486 x9_1).f1).length c503_1], .agg #[.bool t464, .slice Ao13 t465.length co13]] (by rfl) rfl rfl zq6 ?_
          with_reducible refine (worldmintref05_Compare.calls k1 ((rd_T25 y486 x9_1).f0) _ _ ((rd_T25 y486 x9_1).f1) t464 _ _ t465 t507 _ ?side1 ?side2 ?side3 ?side4 A42.out).mono ?_
          (case side1 => exact zq94)
          (case side2 => exact HC503_1.out)
          (case side3 => exact (zq31 HO_469001.out))
          (case side4 => exact (Kd.V_reads' HO_469001.out).2.1)
          rintro e w56 ⟨rfl, hb⟩
          have HS6_ := (hb.cell (World.block_lt_of_cell? _ _ (hHeld.2.2.2.2.2.2.1))).trans (hHeld.2.2.2.2.2.2.1)
          have HS7_ := (hb.cell (World.block_lt_of_cell? _ _ (hHeld.2.2.2.2.2.2.2.1))).trans (hHeld.2.2.2.2.2.2.2.1)
          have HS8_ := (hb.cell (World.block_lt_of_cell? _ _ (hHeld.2.2.2.2.2.2.2.2.1))).trans (hHeld.2.2.2.2.2.2.2.2.1)
          have HS9_ := (hb.cell (World.block_lt_of_cell? _ _ (hHeld.2.2.2.2.2.2.2.2.2))).trans (hHeld.2.2.2.2.2.2.2.2.2)
          refine ⟨_, rfl, ?_⟩
          replace HO_6 := am_ (Kd.N_below (zq90 HO_6.out) hb); replace HO_469001 := am_ (Kd.V_below (zq1 HO_469001.out) hb); replace HO_495001 := am_ (Kd.V_below (zq1 HO_495001.out) hb); replace BK468 := am_ (blk_below (g := gb468) (o := .cells #[.bool t464, .slice Ao13 t465.length co13] 25 (0, 0)) (zq9 BK468.out) hb); replace BK494 := am_ (blk_below (g := gb494) (o := .cells #[.bool t489, .slice Ao31 t490.length co31] 33 (0, 0)) (zq9 BK494.out) hb); replace BK501 := am_ (blk_below (g := gb501) (o := .cells #[.bool t496, .slice Ao50 t497.length co50] 33 (0, 0)) (zq9 BK501.out) hb); replace HB := am_ (below_step zq93 hb); (try clear hb)
          refine hK.out _ _ ⟨(blk_cell BK494.out 0).trans rfl, (blk_cell BK494.out 1).trans rfl, (blk_cell BK501.out 0).trans rfl, (blk_cell BK501.out 1).trans rfl, (blk_cell BK468.out 0).trans rfl, (blk_cell BK468.out 1).trans rfl, HS6_, HS7_, HS8_, HS9_⟩ (fun hHeld => ?_)
          clear hK K
          refine norm_ (a' := ?_) ?_ ?_
          rotate_left
          ·show Act.put _ (some 68) _ = _
           exact za_
          refine pure_ (i := 28) (N := some 69) (v := ?_) (a' := ?_) #[true, true, true, true, true, true, true, true, true, true, true, true, true, true, true, true, true, true, true, true, true, true, true, true, true, true, true, true, true, false] rfl rfl (any_of HT_.out (by kernel_rfl)) (fun _ _ _ h => h) (Or.inl ⟨by rfl, ?_⟩) ?_ ?_
          rotate_left
          ·intro w'
           go_simp
           with_reducible rfl
          rotate_left
          ·exact za_
          refine pure_ (i := 29) (N := some 70) (v := ?_) (a' := ?_) #[true, true, true, true, true, true, true, true, true, true, true, true, true, true, true, true, true, true, true, true, true, true, true, true, true, true, true, true, true, true] rfl rfl (any_of HT_.out (by kernel_rfl)) (fun _ _ _ h => h) (Or.inl ⟨by rfl, ?_⟩) ?_ ?_
          rotate_left
          ·intro w'
           go_simp
           with_reducible rfl
          rotate_left
          ·exact za_
          refine done_ (done_of HT_.out (by kernel_rfl)) ?_
          try go_wp2
          go_roundg k1
          case measure => have := HK1.out; omega
          case rel => exact ⟨(wrap64 (x9_1 + 1)), zq5, H', ⟨by have := HK1.out; omega⟩, ⟨by (with_reducible repeat (first | apply Kd.N_alloc | apply Kd.N_drewN | apply Kd.N_drew)); exact Kd.N_mono HO_6.out (fun _ hk => ⟨hk.1, hk.2.1⟩)⟩, ⟨by (with_reducible repeat (first | apply Kd.V_alloc | apply Kd.V_drewN | apply Kd.V_drew)); exact Kd.V_mono HO_469001.out (fun _ hk => ⟨hk.1, ⟨hk.2.1, hk.2.2.1⟩⟩)⟩, ⟨by (with_reducible repeat (first | apply Kd.V_alloc | apply Kd.V_drewN | apply Kd.V_drew)); exact Kd.V_mono HO_495001.out (fun _ hk => ⟨hk.1, ⟨hk.2.1, hk.2.2.1⟩⟩)⟩, ⟨by (with_reducible repeat (first | refine blk_drewN ?_ _ | refine blk_drew ?_ | refine blk_alloc ?_ _)); exact BK468.out⟩, ⟨by (with_reducible repeat (first | refine blk_drewN ?_ _ | refine blk_drew ?_ | refine blk_alloc ?_ _)); exact BK494.out⟩, ⟨by repeat (first | (with_reducible first | exact HB.out | apply below_alloc | apply pw_below_drewN | apply below_drew1 | refine below_set ?_ GE468.out | refine below_set ?_ GE494.out | refine below_set ?_ GE501.out) | exact HB.out)⟩⟩
         ·rw [if_neg c43] at H
          have c43b0 : (t505 == t507) = false := beq_eq_false_iff_ne.mpr c43
          have c43b1 : (t505 != t507) = true := bne_iff_ne.mpr c43
          subst hT_
          cases H
        ·rw [if_neg c40] at H
         have c40b0 : (t502 == t504) = false := beq_eq_false_iff_ne.mpr c40
         have c40b1 : (t502 != t504) = true := bne_iff_ne.mpr c40
         subst hT_
         cases H
       ·replace c37 := Bool.eq_false_iff.mpr c37
        subst c37
        have H1 : (some false) = some r := by rw [if_neg (show ¬ (false = true) by decide)] at H; exact H
        clear H
        have H := H1
        clear H1
        subst hT_
        cases H
      ·replace c36 := Bool.eq_false_iff.mpr c36
       subst c36
       have H1 : (some false) = some r := by rw [if_neg (show ¬ (false = true) by decide)] at H; exact H
       clear H
       have H := H1
       clear H1
       subst hT_
       cases H
     ·rw [if_neg c34] at H
      exact absurd H (by simp)
    ·rw [if_neg c33] at H
     exact absurd H (by simp)
   ·rw [if_neg c32] at H
    have c32b0 : decide (x9_1 < 3) = false := decide_eq_false c32
    clear c32
    replace H := Option.bind_eq_some_iff.mp H
    obtain ⟨t508, A570, H⟩ := H
    replace H : ((worldmintref05_Compare.f k1 t464 t465 false ([] : List Int)).bind fun t509 => (if t508 = t509 then ((wide_Neg.f t489 t490).bind fun bt510 => ((worldmintref05_Neg.f k1 t464 t465).bind fun bt514 => ((worldmintlaw05_equal.f k1 bt510.1 bt510.2 bt514.1 bt514.2).bind fun t518 => (if t518 = true then ((worldmintlaw05_lives.f k1).bind fun t519 => (some t519)) else (some false))))) else (some false))) = some r := H
    have A57 := am_ A570
    clear A570
    replace H := Option.bind_eq_some_iff.mp H
    obtain ⟨t509, A580, H⟩ := H
    replace H : (if t508 = t509 then ((wide_Neg.f t489 t490).bind fun bt510 => ((worldmintref05_Neg.f k1 t464 t465).bind fun bt514 => ((worldmintlaw05_equal.f k1 bt510.1 bt510.2 bt514.1 bt514.2).bind fun t518 => (if t518 = true then ((worldmintlaw05_lives.f k1).bind fun t519 => (some t519)) else (some false))))) else (some false)) = some r := H
    have A58 := am_ A580
    clear A580
    by_cases c59 : t508 = t509
    ·rw [if_pos c59] at H
     have c59b0 : (t508 == t509) = true := beq_iff_eq.mpr c59
     have c59b1 : (t508 != t509) = false := bne_eq_false_iff_eq.mpr c59
     clear c59
     replace H := Option.bind_eq_some_iff.mp H
     obtain ⟨⟨t510, t511⟩, A600, H⟩ := H
     replace H : ((worldmintref05_Neg.f k1 t464 t465).bind fun bt514 => ((worldmintlaw05_equal.f k1 t510 t511 bt514.1 bt514.2).bind fun t518 => (if t518 = true then ((worldmintlaw05_lives.f k1).bind fun t519 => (some t519)) else (some false)))) = some r := H
     have A60 := am_ A600
     clear A600
     replace H := Option.bind_eq_some_iff.mp H
     obtain ⟨⟨t514, t515⟩, A610, H⟩ := H
     replace H : ((worldmintlaw05_equal.f k1 t510 t511 t514 t515).bind fun t518 => (if t518 = true then ((worldmintlaw05_lives.f k1).bind fun t519 => (some t519)) else (some false))) = some r := H
     have A61 := am_ A610
     clear A610
     replace H := Option.bind_eq_some_iff.mp H
     obtain ⟨t518, A620, H⟩ := H
     replace H : (if t518 = true then ((worldmintlaw05_lives.f k1).bind fun t519 => (some t519)) else (some false)) = some r := H
     have A62 := am_ A620
     clear A620
     by_cases c63 : t518 = true
     ·subst c63
      have H1 : ((worldmintlaw05_lives.f k1).bind fun t519 => (some t519)) = some r := by rw [if_pos rfl] at H; exact H
      clear H
      have H := H1
      clear H1
      replace H := Option.bind_eq_some_iff.mp H
      obtain ⟨t519, A640, H⟩ := H
      replace H : (some t519) = some r := H
      have A64 := am_ A640
      clear A640
      obtain rfl := Option.some.inj H
      try go_wp2
      replace HO_6 := am_ (Kd.N_drew HO_6.out); replace HO_469001 := am_ (Kd.V_drew HO_469001.out); replace HO_495001 := am_ (Kd.V_drew HO_495001.out); replace BK468 := am_ (blk_drew BK468.out); replace BK494 := am_ (blk_drew BK494.out); replace HB := am_ (below_drew1 HB.out)
      refine start_ (n := 17) (S := fun w' => w'.cell? ⟨gb494, 0, none⟩ = some (.bool t489) ∧ w'.cell? ⟨gb494, 1, none⟩ = some (.slice Ao31 t490.length co31) ∧ w'.cell? ⟨gb468, 0, none⟩ = some (.bool t464) ∧ w'.cell? ⟨gb468, 1, none⟩ = some (.slice Ao13 t465.length co13)) (ds := []) #[false, false, false, false, false, false, false, false, false, false, false, false, false, false, false, false, false] (by kernel_rfl) rfl rfl ⟨(blk_cell BK494.out 0).trans rfl, (blk_cell BK494.out 1).trans rfl, (blk_cell BK468.out 0).trans rfl, (blk_cell BK468.out 1).trans rfl⟩ (fun hHeld => ?_); refine with_tabW worldmintlaw05_WideOrder.tab10 worldmintlaw05_WideOrder.bits10 (fun HT_ HW_ => ?_)
      generalize wr.drew = w65 at HO_6 HO_469001 HO_495001 BK468 BK494 HB hHeld ⊢
      refine pure_ (i := 3) (N := some 74) (v := ?_) (a' := ?_) #[false, false, false, true, false, false, false, false, false, false, false, false, false, false, false, false, false] rfl rfl (any_of HT_.out (by kernel_rfl)) (fun _ _ _ h => h) (Or.inl ⟨by rfl, ?_⟩) ?_ ?_
      rotate_left
      ·intro w'
       go_simp
       with_reducible rfl
      rotate_left
      ·exact za_
      refine take_ (i := 0) (N := some 71) (v := ?_) (a' := ?_) #[true, false, false, true, false, false, false, false, false, false, false, false, false, false, false, false, false] rfl rfl (take_ofW HT_.out HW_.out (by kernel_rfl)) (fun _ _ _ h => h) (Or.inl ⟨by rfl, ?_⟩) hHeld ?_ ?_
      rotate_left
      ·rintro w' ⟨s0, s1, s2, s3⟩
       go_simp
       with_reducible rfl
      rotate_left
      ·exact za_
      refine take_ (i := 2) (N := some 73) (v := ?_) (a' := ?_) #[true, false, true, true, false, false, false, false, false, false, false, false, false, false, false, false, false] rfl rfl (take_ofW HT_.out HW_.out (by kernel_rfl)) (fun _ _ _ h => h) (Or.inl ⟨by rfl, ?_⟩) hHeld ?_ ?_
      rotate_left
      ·rintro w' ⟨s0, s1, s2, s3⟩
       go_simp
       with_reducible rfl
      rotate_left
      ·exact za_
      refine one_ (i := 1) (N := some 72) #[true, true, true, true, false, false, false, false, false, false, false, false, false, false, false, false, false] rfl rfl (one_of HT_.out (by kernel_rfl)) (by decide) (fun K hK => ?_)
      refine goes_ Tryz.func39 (by kernel_rfl) rfl #[.agg #[.bool t489, .slice Ao31 t490.length co31]] (by rfl) rfl rfl zq6 ?_
      with_reducible refine (wide_Sign.calls k1 t489 _ _ t490 t508 _ ?side1 ?side2 A57.out).mono ?_
      (case side1 => exact (zq31 HO_495001.out))
      (case side2 => exact (Kd.V_reads' HO_495001.out).2.1)
      rintro e w66 ⟨rfl, hb⟩
      refine ⟨_, rfl, ?_⟩
      replace HO_6 := am_ (Kd.N_below (zq90 HO_6.out) hb); replace HO_469001 := am_ (Kd.V_below (zq1 HO_469001.out) hb); replace HO_495001 := am_ (Kd.V_below (zq1 HO_495001.out) hb); replace BK468 := am_ (blk_below (g := gb468) (o := .cells #[.bool t464, .slice Ao13 t465.length co13] 25 (0, 0)) (zq9 BK468.out) hb); replace BK494 := am_ (blk_below (g := gb494) (o := .cells #[.bool t489, .slice Ao31 t490.length co31] 33 (0, 0)) (zq9 BK494.out) hb); replace HB := am_ (below_step zq91 hb); (try clear hb)
      refine hK.out _ _ ⟨(blk_cell BK494.out 0).trans rfl, (blk_cell BK494.out 1).trans rfl, (blk_cell BK468.out 0).trans rfl, (blk_cell BK468.out 1).trans rfl⟩ (fun hHeld => ?_)
      clear hK K
      refine norm_ (a' := ?_) ?_ ?_
      rotate_left
      ·show Act.put _ (some 72) _ = _
       exact za_
      refine one_ (i := 4) (N := some 75) #[true, true, true, true, true, false, false, false, false, false, false, false, false, false, false, false, false] rfl rfl (one_of HT_.out (by kernel_rfl)) (by decide) (fun K hK => ?_)
      refine goes_ Tryz.func38 (by kernel_rfl) rfl #[.agg #[.bool t464, .slice Ao13 t465.length co13], .agg #[.bool false, .slice none 0 0]] (by rfl) rfl rfl zq6 ?_
      refine (worldmintref05_Compare.calls k1 t464 _ _ t465 false _ _ ([] : List Int) t509 _ ?side1 ?side2 ?side3 ?side4 A58.out).mono ?_
      (case side1 => exact (zq31 HO_469001.out))
      (case side2 => exact (Kd.V_reads' HO_469001.out).2.1)
      (case side3 => exact Kd.C_nil _ _)
      (case side4 => exact Nat.le_refl _)
      rintro e w67 ⟨rfl, hb⟩
      refine ⟨_, rfl, ?_⟩
      replace HO_6 := am_ (Kd.N_below (zq90 HO_6.out) hb); replace HO_469001 := am_ (Kd.V_below (zq1 HO_469001.out) hb); replace HO_495001 := am_ (Kd.V_below (zq1 HO_495001.out) hb); replace BK468 := am_ (blk_below (g := gb468) (o := .cells #[.bool t464, .slice Ao13 t465.length co13] 25 (0, 0)) (zq9 BK468.out) hb); replace BK494 := am_ (blk_below (g := gb494) (o := .cells #[.bool t489, .slice Ao31 t490.length co31] 33 (0, 0)) (zq9 BK494.out) hb); replace HB := am_ (below_step zq91 hb); (try clear hb)
      refine hK.out _ _ ⟨(blk_cell BK494.out 0).trans rfl, (blk_cell BK494.out 1).trans rfl, (blk_cell BK468.out 0).trans rfl, (blk_cell BK468.out 1).trans rfl⟩ (fun hHeld => ?_)
      clear hK K
      refine norm_ (a' := ?_) ?_ ?_
      rotate_left
      ·show Act.put _ (some 75) _ = _
       exact za_
      refine pure_ (i := 5) (N := some 76) (v := ?_) (a' := ?_) #[true, true, true, true, true, true, false, false, false, false, false, false, false, false, false, false, false] rfl rfl (any_of HT_.out (by kernel_rfl)) (fun _ _ _ h => h) (Or.inl ⟨by rfl, ?_⟩) ?_ ?_
      rotate_left
      ·intro w'
       go_simp
       with_reducible rfl
      rotate_left
      ·exact za_
      refine pure_ (i := 6) (N := some 77) (v := ?_) (a' := ?_) #[true, true, true, true, true, true, true, false, false, false, false, false, false, false, false, false, false] rfl rfl (any_of HT_.out (by kernel_rfl)) (fun _ _ _ h => h) (Or.inl ⟨by rfl, ?_⟩) ?_ ?_
      rotate_left
      ·intro w'
       go_simp
       with_reducible rfl
      rotate_left
      ·exact za_
      refine take_ (i := 7) (N := some 78) (v := ?_) (a' := ?_) #[true, true, true, true, true, true, true, true, false, false, false, false, false, false, false, false, false] rfl rfl (take_ofW HT_.out HW_.out (by kernel_rfl)) (fun _ _ _ h => h) (Or.inl ⟨by rfl, ?_⟩) hHeld ?_ ?_
      rotate_left
      ·rintro w' ⟨s0, s1, s2, s3⟩
       go_simp
       with_reducible rfl
      rotate_left
      ·exact za_
      refine take_ (i := 9) (N := some 80) (v := ?_) (a' := ?_) #[true, true, true, true, true, true, true, true, false, true, false, false, false, false, false, false, false] rfl rfl (take_ofW HT_.out HW_.out (by kernel_rfl)) (fun _ _ _ h => h) (Or.inl ⟨by rfl, ?_⟩) hHeld ?_ ?_
      rotate_left
      ·rintro w' ⟨s0, s1, s2, s3⟩
       go_simp
       with_reducible rfl
      rotate_left
      ·exact za_
      refine one_ (i := 8) (N := some 79) #[true, true, true, true, true, true, true, true, true, true, false, false, false, false, false, false, false] rfl rfl (one_of HT_.out (by kernel_rfl)) (by decide) (fun K hK => ?_)
      refine goes_ Tryz.func40 (by kernel_rfl) rfl #[.agg #[.bool t489, .slice Ao31 t490.length co31]] (by rfl) rfl rfl zq6 ?_
      with_reducible refine (wide_Neg.calls t489 (fun k_ => (some k_ ≠ (v487 : Value).ownBlock ∧ (k_ ≠ gb468 ∧ k_ ≠ gb494))) _ _ t490 t510 t511 _ ?side1 A60.out).mono ?_
      (case side1 => exact HO_495001.out)
      rintro e w68 ⟨v512, rfl, ho0, hb⟩
      refine ⟨_, rfl, ?_⟩
      have n0_ := am_ (Kd.N_below (zq90 HO_6.out) hb); have n1_ := am_ (Kd.V_below (zq1 HO_469001.out) hb); have n2_ := am_ (Kd.V_lower (Kd.V_mono (ok' := fun k_ => some k_ ≠ (v487 : Value).ownBlock ∧ k_ ≠ gb468 ∧ k_ ≠ gb494) ho0 (fun k_ hk_ => ⟨Or.elim hk_ (fun hs_ => hs_.1) (fun hn_ => (Kd.fresh' (Kd.N_lt (zq90 HO_6.out)) k_ hn_)), Or.elim hk_ (fun hs_ => hs_.2.1) (fun hn_ => (Kd.freshB (g := gb468) (o := .cells #[.bool t464, .slice Ao13 t465.length co13] 25 (0, 0)) (zq9 BK468.out) k_ hn_)), Or.elim hk_ (fun hs_ => hs_.2.2) (fun hn_ => (Kd.freshB (g := gb494) (o := .cells #[.bool t489, .slice Ao31 t490.length co31] 33 (0, 0)) (zq9 BK494.out) k_ hn_))⟩)) (below_size zq91)); have n3_ := am_ (blk_below (g := gb468) (o := .cells #[.bool t464, .slice Ao13 t465.length co13] 25 (0, 0)) (zq9 BK468.out) hb); have n4_ := am_ (blk_below (g := gb494) (o := .cells #[.bool t489, .slice Ao31 t490.length co31] 33 (0, 0)) (zq9 BK494.out) hb); have n5_ := am_ (below_step zq91 hb); clear HO_6 HO_469001 BK468 BK494 HB; have HO_6 := n0_; have HO_469001 := n1_; have HO513 := n2_; have BK468 := n3_; have BK494 := n4_; have HB := n5_; clear n0_ n1_ n2_ n3_ n4_ n5_; (try clear hb); (try clear ho0)
      refine hK.out _ _ ⟨(blk_cell BK494.out 0).trans rfl, (blk_cell BK494.out 1).trans rfl, (blk_cell BK468.out 0).trans rfl, (blk_cell BK468.out 1).trans rfl⟩ (fun hHeld => ?_)
      clear hK K
      refine norm_ (a' := ?_) ?_ ?_
      rotate_left
      ·show Act.put _ (some 79) _ = _
       exact za_
      refine one_ (i := 10) (N := some 81) #[true, true, true, true, true, true, true, true, true, true, true, false, false, false, false, false, false] rfl rfl (one_of HT_.out (by kernel_rfl)) (by decide) (fun K hK => ?_)
      refine goes_ Tryz.func36 (by kernel_rfl) rfl #[.agg #[.bool t464, .slice Ao13 t465.length co13]] (by rfl) rfl rfl zq6 ?_
      with_reducible refine (worldmintref05_Neg.calls k1 t464 (fun k_ => (some k_ ≠ (v487 : Value).ownBlock ∧ (k_ ≠ gb468 ∧ k_ ≠ gb494))) _ _ t465 t514 t515 _ ?side1 A61.out).mono ?_
      (case side1 => exact HO_469001.out)
      rintro e w69 ⟨v516, rfl, ho0, hb⟩
      refine ⟨_, rfl, ?_⟩
      have n0_ := am_ (Kd.N_below (zq90 HO_6.out) hb); have n1_ := am_ (Kd.V_below (zq1 HO513.out) hb); have n2_ := am_ (Kd.V_lower (Kd.V_mono (ok' := fun k_ => some k_ ≠ (v487 : Value).ownBlock ∧ k_ ≠ gb468 ∧ k_ ≠ gb494) ho0 (fun k_ hk_ => ⟨Or.elim hk_ (fun hs_ => hs_.1) (fun hn_ => (Kd.fresh' (Kd.N_lt (zq90 HO_6.out)) k_ hn_)), Or.elim hk_ (fun hs_ => hs_.2.1) (fun hn_ => (Kd.freshB (g := gb468) (o := .cells #[.bool t464, .slice Ao13 t465.length co13] 25 (0, 0)) (zq9 BK468.out) k_ hn_)), Or.elim hk_ (fun hs_ => hs_.2.2) (fun hn_ => (Kd.freshB (g := gb494) (o := .cells #[.bool t489, .slice Ao31 t490.length co31] 33 (0, 0)) (zq9 BK494.out) k_ hn_))⟩)) (below_size zq91)); have n3_ := am_ (blk_below (g := gb468) (o := .cells #[.bool t464, .slice Ao13 t465.length co13] 25 (0, 0)) (zq9 BK468.out) hb); have n4_ := am_ (blk_below (g := gb494) (o := .cells #[.bool t489, .slice Ao31 t490.length co31] 33 (0, 0)) (zq9 BK494.out) hb); have n5_ := am_ (below_step zq91 hb); clear HO_6 HO513 BK468 BK494 HB; have HO_6 := n0_; have HO513 := n1_; have HO517 := n2_; have BK468 := n3_; have BK494 := n4_; have HB := n5_; clear n0_ n1_ n2_ n3_ n4_ n5_; (try clear hb); (try clear ho0)
      obtain ⟨Ao70, co70, eo70⟩ := Kd.V_slice HO513.out
      (first | subst eo70 | (injection eo70 with f1_ f2_ f3_; have f4_ := f1_.symm; have f5_ := f3_.symm; clear f1_ f2_ f3_; subst f4_; subst f5_))
      obtain ⟨Ao71, co71, eo71⟩ := Kd.V_slice HO517.out
      (first | subst eo71 | (injection eo71 with f1_ f2_ f3_; have f4_ := f1_.symm; have f5_ := f3_.symm; clear f1_ f2_ f3_; subst f4_; subst f5_))
      refine hK.out _ _ ⟨(blk_cell BK494.out 0).trans rfl, (blk_cell BK494.out 1).trans rfl, (blk_cell BK468.out 0).trans rfl, (blk_cell BK468.out 1).trans rfl⟩ (fun hHeld => ?_)
      clear hK K
      refine norm_ (a' := ?_) ?_ ?_
      rotate_left
      ·show Act.put _ (some 81) _ = _
       exact za_
      refine one_ (i := 11) (N := some 82) #[true, true, true, true, true, true, true, true, true, true, true, true, false, false, false, false, false] rfl rfl (one_of HT_.out (by kernel_rfl)) (by decide) (fun K hK => ?_)
      refine goes_ Tryz.func18 (by kernel_rfl) rfl #[.agg #[.bool t510, .slice Ao70 t511.length co70], .agg #[.bool t514, .slice Ao71 t515.length co71]] (by rfl) rfl rfl zq6 ?_
      with_reducible refine (worldmintlaw05_equal.calls k1 t510 _ _ t511 t514 _ _ t515 true _ ?side1 ?side2 ?side3 ?side4 A62.out zq95).mono ?_
      (case side1 => exact (zq31 HO513.out))
      (case side2 => exact (Kd.V_reads' HO513.out).2.1)
      (case side3 => exact (zq31 HO517.out))
      (case side4 => exact (Kd.V_reads' HO517.out).2.1)
      rintro e w72 ⟨rfl, hb⟩
      refine ⟨_, rfl, ?_⟩
      replace BK468 := am_ (blk_below (g := gb468) (o := .cells #[.bool t464, .slice Ao13 t465.length co13] 25 (0, 0)) (zq9 BK468.out) hb); replace BK494 := am_ (blk_below (g := gb494) (o := .cells #[.bool t489, .slice Ao31 t490.length co31] 33 (0, 0)) (zq9 BK494.out) hb); replace HB := am_ (below_step zq91 hb); (try clear hb)
      refine hK.out _ _ ⟨(blk_cell BK494.out 0).trans rfl, (blk_cell BK494.out 1).trans rfl, (blk_cell BK468.out 0).trans rfl, (blk_cell BK468.out 1).trans rfl⟩ (fun hHeld => ?_)
      clear hK K
      refine norm_ (a' := ?_) ?_ ?_
      rotate_left
      ·show Act.put _ (some 82) _ = _
       exact za_
      refine pure_ (i := 12) (N := some 83) (v := ?_) (a' := ?_) #[true, true, true, true, true, true, true, true, true, true, true, true, true, false, false, false, false] rfl rfl (any_of HT_.out (by kernel_rfl)) (fun _ _ _ h => h) (Or.inl ⟨by rfl, ?_⟩) ?_ ?_
      rotate_left
      ·intro w'
       go_simp
       with_reducible rfl
      rotate_left
      ·exact za_
      refine pure_ (i := 13) (N := some 84) (v := ?_) (a' := ?_) #[true, true, true, true, true, true, true, true, true, true, true, true, true, true, false, false, false] rfl rfl (any_of HT_.out (by kernel_rfl)) (fun _ _ _ h => h) (Or.inl ⟨by rfl, ?_⟩) ?_ ?_
      rotate_left
      ·intro w'
       go_simp
       with_reducible rfl
      rotate_left
      ·exact za_
      refine one_ (i := 14) (N := some 85) #[true, true, true, true, true, true, true, true, true, true, true, true, true, true, true, false, false] rfl rfl (one_of HT_.out (by kernel_rfl)) (by decide) (fun K hK => ?_)
      refine goes_ Tryz.func20 (by kernel_rfl) rfl #[] (by rfl) rfl rfl zq6 ?_
      with_reducible refine (worldmintlaw05_lives.calls k1  t519 _ A64.out zq95 (by first | exact hT_ | rfl)).mono ?_
      rintro e w73 ⟨rfl, hb⟩
      refine ⟨_, rfl, ?_⟩
      replace BK468 := am_ (blk_below (g := gb468) (o := .cells #[.bool t464, .slice Ao13 t465.length co13] 25 (0, 0)) (zq9 BK468.out) hb); replace BK494 := am_ (blk_below (g := gb494) (o := .cells #[.bool t489, .slice Ao31 t490.length co31] 33 (0, 0)) (zq9 BK494.out) hb); replace HB := am_ (below_step zq91 hb); (try clear hb)
      refine hK.out _ _ ⟨(blk_cell BK494.out 0).trans rfl, (blk_cell BK494.out 1).trans rfl, (blk_cell BK468.out 0).trans rfl, (blk_cell BK468.out 1).trans rfl⟩ (fun hHeld => ?_)
      clear hK K
      refine norm_ (a' := ?_) ?_ ?_
      rotate_left
      ·show Act.put _ (some 85) _ = _
       exact za_
      refine pure_ (i := 15) (N := some 86) (v := ?_) (a' := ?_) #[true, true, true, true, true, true, true, true, true, true, true, true, true, true, true, true, false] rfl rfl (any_of HT_.out (by kernel_rfl)) (fun _ _ _ h => h) (Or.inl ⟨by rfl, ?_⟩) ?_ ?_
      rotate_left
      ·intro w'
       go_simp
       with_reducible rfl
      rotate_left
      ·exact za_
      refine pure_ (i := 16) (N := some 4) (v := ?_) (a' := ?_) #[true, true, true, true, true, true, true, true, true, true, true, true, true, true, true, true, true] rfl rfl (any_of HT_.out (by kernel_rfl)) (fun _ _ _ h => h) (Or.inl ⟨by rfl, ?_⟩) ?_ ?_
      rotate_left
      ·intro w'
       go_simp
       with_reducible rfl
      rotate_left
      ·exact za_
      refine done_ (done_of HT_.out (by kernel_rfl)) ?_
      try go_wp2
      go_ret
      exact ⟨by first | rfl | (simp [errW_none, errW_some] <;> rfl) | (simp [*, errW_none, errW_some] <;> rfl), by repeat (first | (with_reducible first | exact HB.out | apply below_alloc | apply pw_below_drewN | apply below_drew1 | refine below_set ?_ GE468.out | refine below_set ?_ GE494.out) | exact HB.out)⟩
     ·replace c63 := Bool.eq_false_iff.mpr c63
      subst c63
      have H1 : (some false) = some r := by rw [if_neg (show ¬ (false = true) by decide)] at H; exact H
      clear H
      have H := H1
      clear H1
      subst hT_
      cases H
    ·rw [if_neg c59] at H
     have c59b0 : (t508 == t509) = false := beq_eq_false_iff_ne.mpr c59
     have c59b1 : (t508 != t509) = true := bne_iff_ne.mpr c59
     subst hT_
     cases H

/-- THE ONE PURE STATEMENT of worldmintlaw05_WideOrder: yours. -/
def worldmintlaw05_WideOrder.Pure : Prop := ∀ (l0 : List Int) (a1 : Int), l0.length ≤ maxLen → l0.length * 8 ≤ 140737488351232 → (∀ x ∈ l0, (Lit.int .i64 x).wf = true) → (Lit.int .i64 a1).wf = true → ∃ k, worldmintlaw05_WideOrder.f k l0 a1 = some true
theorem worldmintlaw05_WideOrder.walk (P : worldmintlaw05_WideOrder.Pure) (a0 : Option Addr) (len0 cap0 : Nat) (z0 : List Int) (a1 : Int) (w : World) (w0 : (a0 = none ∧ len0 = 0 ∧ cap0 = 0 ∧ z0 = []) ∨ ∃ x, a0 = some x ∧ len0 ≤ cap0 ∧ cap0 ≤ maxLen ∧ z0.length = cap0 ∧ (∀ i, i < z0.length → w.cell? (x.add i) = some (.int .i64 (z0.getD i 0))) ∧ ∀ n ∈ z0, (Lit.int .i64 n).wf = true) (y0 : len0 * 8 ≤ 140737488351232) (w1 : (Lit.int .i64 a1).wf = true) (hG : GOK w) :
  Calls Tryz.prog 8 #[.slice a0 len0 cap0, .int .i64 a1] w fun e w' => e = .returned (.bool true) ∧ Below w.heap.size w w' := by
 obtain ⟨l0, rfl, hr0, hm0, hw0, hc0⟩ := ReadsInt.ofRowC w0
 obtain ⟨k, h⟩ := P l0 a1 hm0 y0 hw0 w1
 refine (worldmintlaw05_WideOrder.calls k _ _ l0 a1 true w (Kd.C_of_reads (d := (0 : Int)) (h1 := fun _ => rfl) hr0) hc0 h hG rfl).mono ?_
 rintro e w' ⟨rfl, hd⟩
 exact ⟨rfl, hd⟩

end Go.Proofs.YtlceokefdihdkaaGreatDoor.X
